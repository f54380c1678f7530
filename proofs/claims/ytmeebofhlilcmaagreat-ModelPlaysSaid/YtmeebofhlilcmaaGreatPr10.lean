/- Parts. -/
import Derived.Test.YtmeebofhlilcmaaGreatPr09
set_option linter.unusedVariables false
set_option linter.unusedSimpArgs false
set_option maxRecDepth 100000
set_option maxHeartbeats 0
namespace Go.Proofs.YtmeebofhlilcmaaGreat
variable {g d:Nat} {t:TypeId} {cs:List Value}
open Go.RowKit
def bN (D:aX)(f m:Nat)(n:Int):aX × List UInt8 × Int:=if n<0\/(m:Int)<=n then (D,bw,51) else eW D ((f:Int)+n)
def bK (D:aX)(f m:Nat)(n:Int)(b:List UInt8):aX × Int:=if n<0\/(m:Int)<=n then (D,51) else eL D ((f:Int)+n) b
section
variable {w w':World} {base ga f m:Nat} {p:bE} {A:Option Addr} {c:Nat} {D:aX}
theorem aReadV_len (h:D.Ok)(n:Int):(bN D f m n).2.1.length=128:=by
 unfold bN
 split
 · exact dI
 · exact nV h _
theorem read1_any {g2 g6:Nat}(h:bC w base p A c D)(ha:bD w ga p.d f m)(hbox:Blk w g2 188 [.pointer (some ⟨ga,0,none⟩)]){Z:List UInt8}(hx:BlkB w g6 205 Z)(hZ:Z.length=128)(hnf:¬ foot p A g6)(n:Int) :
 Ca 235 #[I n,.pointer (some ⟨g2,0,none⟩),.pointer (some ⟨g6,0,none⟩)] w fun e w'=>∃ z,e=.returned (I z) /\
  (z=(eW D n).2.2/\bC w' base p A c (eW D n).1/\BlkB w' g6 205 (eW D n).2.1/\Keep (fun g=>foot p A g\/g=g6) w w'):=by
 have Hi:=aT (zero_of_info dy).2;have hl:=nV h.ok n;have hrd:=dread_any h n;generalize eW D n=R at *;obtain⟨D',S,z⟩:=R;simp only at hl hrd ⊢;have c0:=hbox.c0;have c1:=ha.c0;have hsl:Hid ((S.map bv).length=128):=by show _=_;rw[az,hl]
 have hsm:=aT (ew (l:=S));have hzl:Hid ((Z.map bv).length=128):=by show _=_;rw[az,hZ]
 have HX:=aT hx;have H:=aT h;unfold aggB at hrd;unfold BlkB at HX ⊢;generalize S.map bv=SV at *;clear h ha hbox hx hl hZ;go_enter Tryz.func235,Tryz.ntmps235;go_wp2_with (first | ((go_at_call 236;go_call (hrd) as e w1 ⟨rfl,h1,k1⟩);have hx1:=HX.out.keep k1 hnf;have H1:=aT h1;clear h1) | (refine eu rfl (x:=.tmp 2) (y:=.tmp 12) rfl rfl rfl hx1 Hi.out hsl.out (by rw[hzl.out];omega) hsm.out ?_;intro w2 hb2 hg2 hs2;rw[dS _ _ (hzl.out.trans hsl.out.symm)] at hb2) | fail);go_ret;exact⟨z,rfl,rfl,H1.out.keep (F:=(·=g6)) (Keep.one hg2) (fun g hg e=>hnf (e ▸ hg)),hb2,(k1.mono (fun g _ hg=>.inl hg)).trans (G:=(·=g6)) (Keep.one hg2) (fun g _ e=>.inr e)⟩
theorem aread_any (h:bC w base p A c D)(ha:bD w ga p.d f m)(hfm:f+m<=D.many)(n:Int) :
 Ca 162 #[.pointer (some ⟨ga,0,none⟩),I n] w fun e w'=>e=.returned (.tuple #[aggB (bN D f m n).2.1,I (bN D f m n).2.2])/\bC w' base p A c (bN D f m n).1/\Keep (foot p A) w w':=by
 have hz:=(zero_of_info dy).1;have Hi:=aT (zero_of_info dy).2;have hlz:Hid ((bw.map bv).length=128):=by show _=_;simp[dI]
 have HZm:=aT (ew (l:=bw));have hfm4:f+m<=4096:=by have:=h.ok.many1;omega
 have hl4:=aT (fun g hg=>h.lt g hg);have H:=aT h;have HA:=aT ha;unfold bN
 by_cases hn:n<0\/(m:Int)<=n
 · rw[if_pos hn];simp only;have hout:=fun o1 o2 o3=>at_out (k:=235) (caps:=#[.pointer (some ⟨w.heap.size,0,none⟩),.pointer (some ⟨w.heap.size+2,0,none⟩)]) (((ha.below ((Below.refl _ _).alloc aW o1)).below ((Below.refl _ _).alloc aW o2)).below ((Below.refl _ _).alloc aW o3)) n hn
   unfold aggB at *;generalize bw.map bv=Z at *;clear h ha hn;go_enter Tryz.func162,Tryz.ntmps162;go_wp2_with (first | (go_at_call 234;go_call (hout _ _ _) as e w1 ⟨rfl,rfl⟩) | (refine fi rfl (x:=.tmp 6) rfl rfl (t:=205) (cs:=Z) bI Tryz.underlying205 Hi.out hlz.out (xs:=Z) (by rw[aG,au gu]) ?_) | (refine eu rfl (x:=.tmp 4) (y:=.tmp 12) rfl rfl rfl (t:=205) (cs:=Z) (xs:=Z) bI Hi.out hlz.out gu HZm.out ?_;intro w2 hb2 hg2 hs2;rw[dS _ _ rfl] at hb2) | fail);refine bodyPost_ret (v:=.tuple #[.agg Z.toArray,I 51]) (jN Tryz.results162 _ rfl rfl hb2 Tryz.underlying205 Hi.out hlz.out) rfl ?_;have hb:=et ((((Below.refl w.heap.size w).alloc aW _).alloc br _).alloc br _) hg2 br br;exact⟨rfl,H.out.below hb,Keep.of_below hb⟩
 · rw[if_neg hn];have hin:=fun W (q1:bC W base p A c D) q2 g2 g6 q3 q4 q5=>at_read (w:=W) (ga:=ga) (d:=p.d) (f:=f) (m:=m) (x1:=.pointer (some ⟨g2,0,none⟩)) (x2:=.pointer (some ⟨g6,0,none⟩)) (R:=fun z w'=>z=(eW D ((f:Int)+n)).2.2/\bC w' base p A c (eW D ((f:Int)+n)).1/\BlkB w' g6 205 (eW D ((f:Int)+n)).2.1/\Keep (fun g=>foot p A g\/g=g6) W w') q2 n aS aS hfm4 (read1_any (g2:=g2) (g6:=g6) q1 q2 q3 (Z:=bw) q4 dI q5 ((f:Int)+n))
   have hl:=nV h.ok ((f:Int)+n);generalize eW D ((f:Int)+n)=RR at *;obtain⟨D',S,z⟩:=RR;simp only at hl hin ⊢;have hsl:Hid ((S.map bv).length=128):=by show _=_;rw[az,hl]
   have hsm:=aT (ew (l:=S));unfold aggB BlkB at *;generalize S.map bv=SV at *;generalize bw.map bv=Z at *;clear h ha hn hl;go_enter Tryz.func162,Tryz.ntmps162;go_wp2_with (first | ((go_at_call 234;go_call (hin _ (((H.out.alloc _).alloc _).alloc _) (((HA.out.below ((Below.refl _ _).alloc aW _)).below ((Below.refl _ _).alloc aW _)).below ((Below.refl _ _).alloc aW _)) w.heap.size (w.heap.size+2) bI bI (fun e=>by have:=hl4.out _ e;omega)) as e w1 ⟨z9,rfl,hz9,h1,hx1,k1⟩);subst hz9;have hr1:=Blk.keep (g:=w.heap.size+1) (t:=205) (cs:=Z) bI k1 (fun e=>by rcases e with e | e;have:=hl4.out _ e;omega;omega);have H1:=aT h1;clear h1) | (refine fi rfl (x:=.tmp 6) rfl rfl hx1 Tryz.underlying205 Hi.out hsl.out (xs:=SV) fS ?_) | (refine eu rfl (x:=.tmp 4) (y:=.tmp 12) rfl rfl rfl hr1 Hi.out hsl.out gu hsm.out ?_;intro w2 hb2 hg2 hs2;rw[dS _ _ (hlz.out.trans hsl.out.symm)] at hb2) | fail);refine bodyPost_ret (v:=.tuple #[.agg SV.toArray,I z9]) (jN Tryz.results162 _ rfl rfl hb2 Tryz.underlying205 Hi.out hsl.out) rfl ?_;refine⟨rfl,H1.out.keep (F:=(·=w.heap.size+1)) (Keep.one hg2) (fun g hg e=>by have:=hl4.out _ hg;omega),?_⟩;have k2:Keep (fun g=>foot p A g\/g=w.heap.size+2\/g=w.heap.size+1) w w2:=((((((Keep.refl _ w).alloc _).alloc _).alloc _).trans k1 (fun g _ e=>by rcases e with e | e;exact .inl e;exact .inr (.inl e))).trans (G:=(·=w.heap.size+1)) (Keep.one hg2) (fun g _ e=>.inr (.inr e)));exact k2.mono (fun g hg e=>by rcases e with e | e | e;exact e;omega;omega)
theorem write1_any {g3 g5:Nat}(h:bC w base p A c D)(ha:bD w ga p.d f m)(hbox:Blk w g3 188 [.pointer (some ⟨ga,0,none⟩)]){S:List UInt8}(hx:BlkB w g5 205 S)(hS:S.length=128)(hnf:¬ foot p A g5)(n:Int)(hw:D.waits.length<1000000)(hbase:base<=w.heap.size) :
 Ca 257 #[I n,.pointer (some ⟨g3,0,none⟩),.pointer (some ⟨g5,0,none⟩)] w fun e w'=>∃ z,e=.returned (I z)/\(z=(eL D n S).2/\eA w base p A (eL D n S).1 w'):=by
 have Hi:=aT (zero_of_info dy).2;have hwr:=fun w' (hb:Below w.heap.size w w')=>write_any (h.below hb) n S hS hw kJ
 have c0:=hbox.c0;have c1:=ha.c0;have hsl:Hid ((S.map bv).length=128):=by show _=_;rw[az,hS]
 have hxr:=Blk.range (o:=0) (n:=128) (xs:=S.map bv) hx fS;generalize (eL D n S).1=D' at *;generalize (eL D n S).2=z at *;unfold aggB at hwr;unfold BlkB at hx;generalize S.map bv=SV at *;have hnx:∀ w1 w2,Below w.heap.size w w1->eA w1 base p A D' w2->eA w base p A D' w2:=fun w1 w2 hb ⟨A',c',h1,k,n⟩=>⟨A',c',h1,(Keep.of_below hb).trans k (fun _ _ e=>e),fun g e=>by rcases n g e with q | q;exact .inl q;exact .inr kJ⟩
 have HX:=aT hx;have HB:=aT hbox;have HA:=aT ha;have H:=aT h;clear h ha hbox hx hS;go_enter Tryz.func257,Tryz.ntmps257;go_wp2;refine wp_region_held_drew (S:=fun w'=>w'.cell? ⟨g3,0,none⟩=some (.pointer (some ⟨ga,0,none⟩))/\w'.cell? ⟨ga,0,none⟩=some (.pointer (some ⟨p.d,0,none⟩))/\w'.rangeAt g5 0 SV) bM ⟨c0,c1,hxr⟩ (fun hHeld=>?_);refine aV 0 ?_ (hy:=Or.inl ⟨by rfl,eY⟩);refine aV 1 ?_;refine aV 2 ?_;refine aV 3 ?_ (hy:=Or.inl ⟨by rfl,eY⟩);refine aV 4 ?_;refine wpAnyH_take (i:=5) (v:=_) rfl bT bT bT (fun _ _ _ h=>h) (yieldsIf_load_mid (by rfl) _ _ rfl _ _ rfl SV _ (fun _ h=>h.2.2) Tryz.underlying205 rfl (by rw[hsl.out];exact Hi.out)) gU ?_;refine bJ ?_;refine bR 6 (fun K hK=>?_);go_simp
 (go_at_call 258;go_call (hwr _ bc) as e w1 ⟨rfl,hN⟩)
 have hN2:=hnx _ _ bc hN;have kk:=(show Keep (foot p A) w w1 from (by obtain⟨_,_,_,k,_⟩:=hN2;exact k));have HB1:=HB.out.keep kk (fun e=>by rcases H.out.foot_ty HB.out e with q | q | q | q | q <;> exact absurd q aU);have HA1:=HA.out.spares H.out kk;have HX1:=HX.out.keep kk hnf;have d0:=HB1.c0;have d1:=HA1.c0;have d2:=Blk.range (o:=0) (n:=128) (xs:=SV) HX1 fS;have HN2:=aT hN2;clear hN2 hN HB1 HA1 HX1;refine hK.out _ _ (⟨d0,d1,d2⟩) (fun hHeld=>?_);clear hK K;refine bJ ?_;refine aV 7 ?_;refine wpAnyH_done bT ?_ _;go_wp2;go_ret;exact⟨z,rfl,rfl,hnx _ _ (Below.refl _ _) HN2.out⟩
theorem nW (h:bC w base p A c D)(ha:bD w ga p.d f m)(hfm:f+m<=D.many)(n:Int)(S:List UInt8)(hS:S.length=128)(hw:D.waits.length<1000000)(hbase:base<=w.heap.size) :
 Ca 200 #[.pointer (some ⟨ga,0,none⟩),I n,aggB S] w fun e w'=>e=.returned (I (bK D f m n S).2)/\eA w base p A (bK D f m n S).1 w':=by
 have hfm4:f+m<=4096:=by have:=h.ok.many1;omega
 have Hi:=aT (zero_of_info dy).2;have hl4:=aT (fun g hg=>h.lt g hg);have hsl:Hid ((S.map bv).length=128):=by show _=_;rw[az,hS]
 have hnx:∀ D' w1 w2,Below w.heap.size w w1->eA w1 base p A D' w2->eA w base p A D' w2:=fun D' w1 w2 hb ⟨A',c',h1,k,n⟩=>⟨A',c',h1,(Keep.of_below hb).trans k (fun _ _ e=>e),fun g e=>by rcases n g e with q | q;exact .inl q;exact .inr kJ⟩
 have H:=aT h;have HA:=aT ha;unfold bK
 by_cases hn:n<0\/(m:Int)<=n
 · rw[if_pos hn];simp only;have hout:=fun o1 o2=>at_out (k:=257) (caps:=#[.pointer (some ⟨w.heap.size,0,none⟩),.pointer (some ⟨w.heap.size+1,0,none⟩)]) ((ha.below ((Below.refl _ _).alloc aW o1)).below ((Below.refl _ _).alloc aW o2)) n hn
   unfold aggB at *;generalize S.map bv=SV at *;clear h ha hn;go_enter Tryz.func200,Tryz.ntmps200;go_wp2_with (first | (go_at_call 234;go_call (hout _ _) as e w1 ⟨rfl,rfl⟩) | fail);go_ret;exact⟨rfl,hnx _ _ _ bc (eA.same ((H.out.alloc _).alloc _) (Below.refl _ _))⟩
 · rw[if_neg hn];have hin:=fun W (q1:bC W base p A c D) q2 g2 g6 q3 q4 q5 q6=>at_write (w:=W) (ga:=ga) (d:=p.d) (f:=f) (m:=m) (x1:=.pointer (some ⟨g2,0,none⟩)) (x2:=.pointer (some ⟨g6,0,none⟩)) (R:=fun z w'=>z=(eL D ((f:Int)+n) S).2/\eA W base p A (eL D ((f:Int)+n) S).1 w') q2 n aS aS hfm4 (write1_any (g3:=g2) (g5:=g6) q1 q2 q3 (S:=S) q4 hS q5 ((f:Int)+n) hw q6)
   generalize eL D ((f:Int)+n) S=RR at *;obtain⟨D',z⟩:=RR;simp only at hin ⊢;unfold aggB BlkB at *;generalize S.map bv=SV at *;clear h ha hn;go_enter Tryz.func200,Tryz.ntmps200;go_wp2_with (first | ((go_at_call 234;go_call (hin _ ((H.out.alloc _).alloc _) ((HA.out.below ((Below.refl _ _).alloc aW _)).below ((Below.refl _ _).alloc aW _)) w.heap.size (w.heap.size+1) bI bI (fun e=>by have:=hl4.out _ e;omega) br) as e w1 ⟨z9,rfl,hz9,hN⟩)) | fail);go_ret;subst hz9;exact⟨rfl,hnx _ _ _ bc hN⟩
end
def cI (D:aX)(f m:Nat)(n kind number:Int)(load:List UInt8):aX × Int:=if (fO kind number load).2≠0 then (D,(fO kind number load).2) else bK D f m n (fO kind number load).1
def eH (S:List UInt8)(kind:Int):Int × List UInt8 × Int:=if eV S kind then (sg (ef S),fe S,0) else (0,[],53)
def cP (D:aX)(f m:Nat)(n kind:Int):Int × List UInt8 × Int:=if (bN D f m n).2.2≠0 then (0,[],(bN D f m n).2.2) else eH (bN D f m n).2.1 kind
section
variable {w w':World} {base ga f m:Nat} {p:bE} {A:Option Addr} {c:Nat} {D D':aX}
theorem eA.of_below {w1:World}(hb:Below w.heap.size w w1)(h:eA w1 base p A D' w'):eA w base p A D' w':=by
 obtain⟨A',c',h1,k,n⟩:=h;exact⟨A',c',h1,(Keep.of_below hb).trans k (fun _ _ e=>e),fun g e=>by rcases n g e with q | q;exact .inl q;exact .inr kJ⟩
theorem awipe_any (h:bC w base p A c D)(ha:bD w ga p.d f m)(hfm:f+m<=D.many)(n:Int)(hw:D.waits.length<1000000)(hbase:base<=w.heap.size) :
 Ca 198 #[.pointer (some ⟨ga,0,none⟩),I n] w fun e w'=>e=.returned (I (bK D f m n bw).2)/\eA w base p A (bK D f m n bw).1 w':=by
 have he:aggB bw=.agg Tryz.zeroCells205:=by kernel_rfl
 have hwr:=nW h ha hfm n bw dI hw hbase;rw[he] at hwr;generalize (bK D f m n bw).1=D' at *;generalize (bK D f m n bw).2=z at *;clear h ha he;go_enter Tryz.func198,Tryz.ntmps198;go_wp2_with (first | (go_at_call 200;go_call (hwr) as e w1 ⟨rfl,hN⟩) | fail);go_ret;exact⟨rfl,hN⟩
theorem aflush_any (h:bC w base p A c D)(ha:bD w ga p.d f m) :
 Ca 116 #[.pointer (some ⟨ga,0,none⟩)] w fun e w'=>e=.returned (I (bH D).2)/\eA w base p A (bH D).1 w':=by
 have hfl:=flush_any h;have c0:=ha.c0;generalize (bH D).1=D' at *;generalize (bH D).2=z at *;clear h ha;go_enter Tryz.func116,Tryz.ntmps116;go_wp2_with (first | (go_at_call 201;go_call (hfl) as e w1 ⟨rfl,hN⟩) | fail);go_ret;exact⟨rfl,hN⟩
theorem aput_any (h:bC w base p A c D)(ha:bD w ga p.d f m)(hfm:f+m<=D.many)(n kind number:Int)(B:Option Addr)(k d:Nat)(l:List UInt8)(hl:RB w B k l)(hk:k<=maxLen)(hnum:number<=9223372036854775807)(hw:D.waits.length<1000000)(hbase:base<=w.heap.size) :
 Ca 115 #[.pointer (some ⟨ga,0,none⟩),I n,I kind,I number,.slice B k d] w fun e w'=>e=.returned (I (cI D f m n kind number l).2)/\eA w base p A (cI D f m n kind number l).1 w':=by
 have hz:=(zero_of_info dy).1;have Hi:=aT (zero_of_info dy).2;have hlz:Hid ((bw.map bv).length=128):=by show _=_;simp[dI]
 have hmk:=make_any kind number B k d l w hnum hk hl;have hml:=makeL_len kind number l;have c0:=ha.c0;have H:=aT h;have HA:=aT ha;unfold cI;have hwr:=fun w' (hb:Below w.heap.size w w')=>nW (h.below hb) (ha.below hb) hfm n (fO kind number l).1 hml hw kJ
 have hsl:Hid (((fO kind number l).1.map bv).length=128):=by show _=_;rw[az,hml]
 have hsm:=aT (ew (l:=(fO kind number l).1));generalize fO kind number l=M at *;obtain⟨S,z⟩:=M;simp only at hmk hml hwr hsl hsm ⊢
 by_cases hzz:z=0
 · rw[if_neg aS];subst hzz;have hne:((0:Int) != 0)=false:=rfl;generalize bK D f m n S=RR at *;obtain⟨D',z⟩:=RR;simp only at hwr ⊢;unfold aggB at *;generalize S.map bv=SV at *;generalize bw.map bv=Z at *;clear h ha hml;go_enter Tryz.func115,Tryz.ntmps115;go_wp2_with (first | ((go_at_call 199;go_call (hmk) as e w1 ⟨rfl,hb1⟩);have s1:=hb1.size) | (refine eu rfl (x:=.tmp 11) (y:=.tmp 27) rfl rfl rfl (t:=205) (cs:=Z) (xs:=SV) (Blk.top _ rfl rfl) Hi.out hsl.out gu hsm.out ?_;intro w2 hb2 hg2 hs2;rw[dS _ _ (hlz.out.trans hsl.out.symm)] at hb2;have b2:=et (hb1.alloc s1 _) hg2 cR s1) | (refine fi rfl (x:=.tmp 11) rfl rfl hb2 Tryz.underlying205 Hi.out hsl.out fS ?_) | (go_at_call 200;go_call (hwr _ b2) as e w3 ⟨rfl,hN⟩) | fail);go_ret;exact⟨rfl,hN.of_below b2⟩
 · rw[if_pos hzz];have hne:(z != 0)=true:=by rw[ag];exact hzz
   unfold aggB at *;generalize S.map bv=SV at *;generalize bw.map bv=Z at *;clear h ha hml hwr hzz;go_enter Tryz.func115,Tryz.ntmps115;go_wp2_with (first | ((go_at_call 199;go_call (hmk) as e w1 ⟨rfl,hb1⟩);have s1:=hb1.size) | (refine eu rfl (x:=.tmp 11) (y:=.tmp 27) rfl rfl rfl (t:=205) (cs:=Z) (xs:=SV) (Blk.top _ rfl rfl) Hi.out hsl.out gu hsm.out ?_;intro w2 hb2 hg2 hs2;rw[dS _ _ (hlz.out.trans hsl.out.symm)] at hb2;have b2:=et (hb1.alloc s1 _) hg2 cR s1) | fail);go_ret;exact⟨rfl,eA.same H.out b2⟩
theorem open_v (S:List UInt8)(kind:Int)(w:World)(hl:S.length=128):Ca 163 #[aggB S,I kind] w fun e w'=>
 ∃ B k d,e=.returned (.tuple #[I (eH S kind).1,.slice B k d,I (eH S kind).2.2])/\OB w' w.heap.size 5 B k d (eH S kind).2.1/\Below w.heap.size w w':=by
 refine (open_any S kind w hl).mono fun e w' hE=>?_
 unfold eH;rcases hE with ⟨hq,he,hb⟩ | ⟨hq,B,d,he,ho,hb⟩
 · rw[hq,if_neg aZ];exact⟨none,0,0,he,Ow.nil _ _ _ _,hb⟩
 · rw[hq,if_pos rfl];exact⟨B,_,d,he,ho,hb⟩
theorem atake_any (h:bC w base p A c D)(ha:bD w ga p.d f m)(hfm:f+m<=D.many)(n kind:Int) :
 Ca 158 #[.pointer (some ⟨ga,0,none⟩),I n,I kind] w fun e w'=>
  ∃ B k d,e=.returned (.tuple #[I (cP D f m n kind).1,.slice B k d,I (cP D f m n kind).2.2])/\OB w' w.heap.size 5 B k d (cP D f m n kind).2.1/\bC w' base p A c (bN D f m n).1/\Keep (foot p A) w w':=by
 have hz:=(zero_of_info dy).1;have Hi:=aT (zero_of_info dy).2;have hlz:Hid ((bw.map bv).length=128):=by show _=_;simp[dI]
 have hrd:=aread_any h ha hfm n;have hl:=aReadV_len (f:=f) (m:=m) h.ok n;have hl4:=aT (fun g hg=>h.lt g hg);unfold cP;generalize bN D f m n=RR at *;obtain⟨D',S,z⟩:=RR;simp only at hrd hl ⊢;have hop:=fun w=>open_v S kind w hl
 have hsl:Hid ((S.map bv).length=128):=by show _=_;rw[az,hl]
 have hsm:=aT (ew (l:=S))
 by_cases hzz:z=0
 · rw[if_neg aS];subst hzz;generalize eH S kind=OV at *;obtain⟨N,L,er⟩:=OV;simp only at hop ⊢;unfold aggB at *;generalize S.map bv=SV at *;generalize bw.map bv=Z at *;clear h ha hl;go_enter Tryz.func158,Tryz.ntmps158;go_wp2_with (first | ((go_at_call 162;go_call (hrd) as e w1 ⟨rfl,h1,k1⟩);have s1:=k1.size;have H1:=aT h1;clear h1) | (refine eu rfl (x:=.tmp 9) (y:=.tmp 14) rfl rfl rfl (t:=205) (cs:=Z) (xs:=SV) (Blk.top _ rfl rfl) Hi.out hsl.out gu hsm.out ?_;intro w2 hb2 hg2 hs2;rw[dS _ _ (hlz.out.trans hsl.out.symm)] at hb2;have b2:=et ((Below.refl w1.heap.size w1).alloc aW _) hg2 br br;have s2:=b2.size) | (refine fi rfl (x:=.tmp 9) rfl rfl hb2 Tryz.underlying205 Hi.out hsl.out fS ?_) | (go_at_call 163;go_call (hop _) as e w3 ⟨B3,k3,d3,rfl,o3,b3⟩) | fail);go_ret3;have b13:=b2.trans (b3.mono s2);exact⟨B3,k3,d3,rfl,o3.rebase aS,H1.out.below b13,k1.then_below b13⟩
 · rw[if_pos hzz];have hne:(z != 0)=true:=by rw[ag];exact hzz
   unfold aggB at *;generalize S.map bv=SV at *;generalize bw.map bv=Z at *;clear h ha hl hop hzz;go_enter Tryz.func158,Tryz.ntmps158;go_wp2_with (first | ((go_at_call 162;go_call (hrd) as e w1 ⟨rfl,h1,k1⟩);have s1:=k1.size;have H1:=aT h1;clear h1) | (refine eu rfl (x:=.tmp 9) (y:=.tmp 14) rfl rfl rfl (t:=205) (cs:=Z) (xs:=SV) (Blk.top _ rfl rfl) Hi.out hsl.out gu hsm.out ?_;intro w2 hb2 hg2 hs2;rw[dS _ _ (hlz.out.trans hsl.out.symm)] at hb2;have b2:=et ((Below.refl w1.heap.size w1).alloc aW _) hg2 br br;have s2:=b2.size) | fail);go_ret3;exact⟨none,0,0,rfl,Ow.nil _ _ _ _,H1.out.below b2,k1.then_below b2⟩
theorem anew_ok (h:bC w base p A c D)(f m:Nat)(h1:1<=m)(h2:f+m<=D.many) :
 Ca 109 #[.pointer (some ⟨p.d,0,none⟩),.agg #[I (f:Int),I (m:Int)]] w fun e w'=>∃ ga,e=.returned (.tuple #[.pointer (some ⟨ga,0,none⟩),I 0])/\bD w' ga p.d f m/\w.heap.size<=ga/\Below w.heap.size w w':=by
 have hs:=fun o=>size_any (h.alloc o)
 have hm:=h.ok.many1;generalize D.many=many at *;clear h;unfold bD;go_enter Tryz.func109,Tryz.ntmps109;go_wp2_with (first | (go_at_call 48;go_call (hs _) as e w1 ⟨rfl,rfl⟩) | fail);go_ret2;exact⟨w.heap.size+1,by simp,bI,aS,bc⟩
end
def mutD:List TypeId:=[198,205,300,207]
def eB (M:List TypeId)(p:bE)(w w':World):Prop:=∃ F:Nat->Prop,Keep F w w'/\∀ g t cs,F g->Blk w g t cs->t ∈ M\/g=p.gi\/g=p.gm
structure Step (M:List TypeId)(base:Nat)(p:bE)(w w':World):Prop where
 bel:Below base w w'
 tch:eB M p w w'
section
variable {M N:List TypeId} {w w' w'':World} {base:Nat} {p:bE} {A:Option Addr} {c:Nat} {D D':aX}
theorem eB.of_below (hb:Below w.heap.size w w'):eB M p w w':=⟨fun _=>False,Keep.of_below hb,fun _ _ _ h=>h.elim⟩
theorem eB.refl (M:List TypeId)(p:bE)(w:World):eB M p w w:=eB.of_below (Below.refl _ _)
theorem eB.trans (h:eB M p w w')(k:eB M p w' w''):eB M p w w'':=by
 obtain⟨F,hF,tF⟩:=h;obtain⟨G,hG,tG⟩:=k;refine⟨fun g=>F g\/G g,(hF.mono (fun g _ e=>.inl e)).trans hG (fun g _ e=>.inr e),fun g t cs hfg hb=>?_⟩
 by_cases hf:F g
 · exact tF g t cs hf hb
 · rcases hfg with e | e
   · exact absurd e hf
   · exact tG g t cs e (hb.keep hF hf)
theorem eB.of_next (h:bC w base p A c D)(k:Keep (foot p A) w w'):eB mutD p w w':=⟨foot p A,k,fun g t cs hg hb=>by
 by_cases h1:g=p.gi
 · exact .inr (.inl h1)
 by_cases h2:g=p.gm
 · exact .inr (.inr h2)
 left
 rcases h.foot_ty hb hg with q | q | q | q | q
 · subst q;decide
 · subst q;decide
 · subst q;have hne:∀ {g':Nat} {t':TypeId} {cs':List Value},Blk w g' t' cs'->4≠t'->g≠g':=fun hb' hn=>hb.ne_ hb' hn
   rcases hg with e | e | e | e | e | e | e
   · exact absurd e (hne h.st aU)
   · exact absurd e (hne h.bk aU)
   · exact absurd e (hne h.bn aU)
   · exact absurd e h1
   · exact absurd e h2
   · exact absurd e (hne h.mt.2 aU)
   · exfalso
     rcases h.wa.2 with ⟨hv,_⟩ | ⟨g',cap,cur,hv,_,hh,_⟩
     · injection hv with hv;subst hv;cases e
     · injection hv with hv;subst hv;simp only[Option.map_some,Option.some.injEq] at e;exact hne (g':=g') (t':=207) (cs':=cur.toList) (by unfold Blk;rw[hh]) aU e.symm
 · subst q;decide
 · subst q;decide⟩
theorem eB.one (hg:w.grownBy w' (some g))(hb:Blk w g t cs)(ht:t ∈ M):eB M p w w':=⟨(·=g),Keep.one hg,fun g' t' cs' e hb'=>by
 subst e
 by_cases q:t'=t
 · subst q;exact .inl ht
 · exact absurd rfl (hb'.ne_ hb q)⟩
theorem Blk.touch (h:Blk w g t cs)(k:eB M p w w')(ht:t ∉ M)(h1:g≠p.gi)(h2:g≠p.gm):Blk w' g t cs:=by
 obtain⟨F,hF,tF⟩:=k;refine h.keep hF (fun e=>?_);rcases tF g t cs e h with q | q | q
 · exact ht q
 · exact h1 q
 · exact h2 q
theorem be.notBool (h:be w base p D)(hb:Blk w g t cs)(ht:t≠4):g≠p.gi/\g≠p.gm:=by
 obtain⟨A,c,h⟩:=h;exact⟨hb.ne_ h.bi ht,hb.ne_ h.bm ht⟩
theorem be.blk (h:be w base p D)(hb:Blk w g t cs)(k:eB M p w w')(ht:t ∉ 4 :: M):Blk w' g t cs:=by
 obtain⟨h1,h2⟩:=h.notBool hb (fun e=>ht (by rw[e];exact aC ..));exact hb.touch k (fun e=>ht (aB _ e)) h1 h2
theorem be.area (h:be w base p D){ga f m:Nat}(ha:bD w ga d f m)(k:eB M p w w')(ht:289 ∉ 4 :: M):bD w' ga d f m:=h.blk ha k ht
theorem be.ow {α:Type}{enc:α->Value}{b n:Nat}{e:TypeId}{B:Option Addr}{l:List α}(h:be w base p D)(ho:Ow enc w b e B n d l)(k:eB M p w w')(ht:e ∉ 4 :: M):Ow enc w' b e B n d l:=by
 obtain⟨F,hF,tF⟩:=k;refine⟨ho.1,il ho.2 hF (fun g hg hf=>?_)⟩;rcases ho.2.2 with ⟨hv,_⟩ | ⟨g',cap,cur,hv,_,hh,_⟩
 · rw[hv] at hg;cases hg
 · rw[hv] at hg;have:g'=g:=by simpa [Value.ownBlock] using hg
   subst this;have hb:Blk w g' e cur.toList:=by unfold Blk;rw[hh]
   obtain⟨h1,h2⟩:=h.notBool hb (fun e=>ht (by rw[e];exact aC ..));rcases tF _ _ _ hf hb with q | q | q
   · exact ht (aB _ q)
   · exact h1 q
   · exact h2 q
theorem be.ob {b n:Nat}{B:Option Addr}{l:List UInt8}(h:be w base p D)(ho:OB w b 5 B n d l)(k:eB M p w w')(ht:5 ∉ 4 :: M):OB w' b 5 B n d l:=h.ow ho k ht
theorem eB.mono (h:eB M p w w')(hs:∀ t,t ∈ M->t ∈ N):eB N p w w':=by
 obtain⟨F,hF,tF⟩:=h;exact⟨F,hF,fun g t cs e hb=>by rcases tF g t cs e hb with q | q;exact .inl (hs t q);exact .inr q⟩
theorem Step.mono (h:Step M base p w w')(hs:∀ t,t ∈ M->t ∈ N):Step N base p w w':=⟨h.bel,h.tch.mono hs⟩
theorem Step.refl (M:List TypeId)(base:Nat)(p:bE)(w:World):Step M base p w w:=⟨Below.refl _ _,eB.refl _ _ _⟩
theorem Step.of_below (hb:Below w.heap.size w w')(hs:base<=w.heap.size):Step M base p w w':=⟨hb.mono hs,eB.of_below hb⟩
theorem Step.trans (h:Step M base p w w')(k:Step M base p w' w''):Step M base p w w'':=⟨h.bel.trans k.bel,h.tch.trans k.tch⟩
theorem Step.of_next (h:bC w base p A c D)(hs:base<=w.heap.size)(hN:eA w base p A D' w'):Step mutD base p w w':=by
 obtain⟨A',c',h1,k,_⟩:=hN;exact⟨h.belowK k hs,eB.of_next h k⟩
theorem Step.of_keep (h:bC w base p A c D)(hs:base<=w.heap.size)(k:Keep (foot p A) w w'):Step mutD base p w w':=⟨h.belowK k hs,eB.of_next h k⟩
theorem Step.one (hg:w.grownBy w' (some g))(hb:Blk w g t cs)(ht:t ∈ M)(hs:base<=g)(hw:base<=w.heap.size):Step M base p w w':=⟨et (Below.refl _ _) hg hw hs,eB.one hg hb ht⟩
theorem Step.size (h:Step M base p w w'):w.heap.size<=w'.heap.size:=h.bel.size
end
section
variable {w:World} {base ga f m:Nat} {p:bE} {D:aX}
theorem s_cut (h:be w base p D)(hs:base<=w.heap.size)(n:Int)(hn:n<=9223372036854775807):Ca 42 #[.pointer (some ⟨p.d,0,none⟩),I n] w fun e w'=>e=.returned (.tuple #[])/\be w' base p { D with cut:=max n (-1) }/\Step mutD base p w w':=by
 obtain⟨A,c,h⟩:=h;exact (cut_any h n hn).mono fun e w' ⟨h1,h2,h3,_⟩=>⟨h1,h2.s,Step.of_keep h hs h3⟩
theorem lD (h:be w base p D)(hs:base<=w.heap.size)(ha:bD w ga p.d f m)(hfm:f+m<=D.many)(n:Int) :
 Ca 162 #[.pointer (some ⟨ga,0,none⟩),I n] w fun e w'=>e=.returned (.tuple #[aggB (bN D f m n).2.1,I (bN D f m n).2.2])/\be w' base p (bN D f m n).1/\Step mutD base p w w':=by
 obtain⟨A,c,h⟩:=h;exact (aread_any h ha hfm n).mono fun e w' ⟨h1,h2,h3⟩=>⟨h1,h2.s,Step.of_keep h hs h3⟩
theorem s_awrite (h:be w base p D)(hs:base<=w.heap.size)(ha:bD w ga p.d f m)(hfm:f+m<=D.many)(n:Int)(S:List UInt8)(hS:S.length=128)(hw:D.waits.length<1000000) :
 Ca 200 #[.pointer (some ⟨ga,0,none⟩),I n,aggB S] w fun e w'=>e=.returned (I (bK D f m n S).2)/\be w' base p (bK D f m n S).1/\Step mutD base p w w':=by
 obtain⟨A,c,h⟩:=h;exact (nW h ha hfm n S hS hw hs).mono fun e w' ⟨h1,h2⟩=>⟨h1,h2.s,Step.of_next h hs h2⟩
theorem s_awipe (h:be w base p D)(hs:base<=w.heap.size)(ha:bD w ga p.d f m)(hfm:f+m<=D.many)(n:Int)(hw:D.waits.length<1000000) :
 Ca 198 #[.pointer (some ⟨ga,0,none⟩),I n] w fun e w'=>e=.returned (I (bK D f m n bw).2)/\be w' base p (bK D f m n bw).1/\Step mutD base p w w':=by
 obtain⟨A,c,h⟩:=h;exact (awipe_any h ha hfm n hw hs).mono fun e w' ⟨h1,h2⟩=>⟨h1,h2.s,Step.of_next h hs h2⟩
theorem j7 (h:be w base p D)(hs:base<=w.heap.size)(ha:bD w ga p.d f m) :
 Ca 116 #[.pointer (some ⟨ga,0,none⟩)] w fun e w'=>e=.returned (I (bH D).2)/\be w' base p (bH D).1/\Step mutD base p w w':=by
 obtain⟨A,c,h⟩:=h;exact (aflush_any h ha).mono fun e w' ⟨h1,h2⟩=>⟨h1,h2.s,Step.of_next h hs h2⟩
theorem s_aput (h:be w base p D)(hs:base<=w.heap.size)(ha:bD w ga p.d f m)(hfm:f+m<=D.many)(n kind number:Int)(B:Option Addr)(k d:Nat)(l:List UInt8)(hl:RB w B k l)(hk:k<=maxLen)(hnum:number<=9223372036854775807)(hw:D.waits.length<1000000) :
 Ca 115 #[.pointer (some ⟨ga,0,none⟩),I n,I kind,I number,.slice B k d] w fun e w'=>e=.returned (I (cI D f m n kind number l).2)/\be w' base p (cI D f m n kind number l).1/\Step mutD base p w w':=by
 obtain⟨A,c,h⟩:=h;exact (aput_any (d:=d) h ha hfm n kind number B k l hl hk hnum hw hs).mono fun e w' ⟨h1,h2⟩=>⟨h1,h2.s,Step.of_next h hs h2⟩
theorem s_atake (h:be w base p D)(hs:base<=w.heap.size)(ha:bD w ga p.d f m)(hfm:f+m<=D.many)(n kind:Int) :
 Ca 158 #[.pointer (some ⟨ga,0,none⟩),I n,I kind] w fun e w'=>
  ∃ B k d,e=.returned (.tuple #[I (cP D f m n kind).1,.slice B k d,I (cP D f m n kind).2.2])/\OB w' w.heap.size 5 B k d (cP D f m n kind).2.1/\be w' base p (bN D f m n).1/\Step mutD base p w w':=by
 obtain⟨A,c,h⟩:=h;exact (atake_any h ha hfm n kind).mono fun e w' ⟨B,k,d,h1,h2,h3,h4⟩=>⟨B,k,d,h1,h2,h3.s,Step.of_keep h hs h4⟩
end
def mutJ:List TypeId:=363 :: mutD
def jrnC (ga:Nat)(kind:Int)(next:Nat):List Value:=[.pointer (some ⟨ga,0,none⟩),I kind,I (next:Int)]
def dc (w:World)(gj ga:Nat)(kind:Int)(next:Nat):Prop:=Blk w gj 363 (jrnC ga kind next)
def eX (D:aX)(f m:Nat)(kind:Int)(next:Nat)(n:Int):aX × List UInt8 × Int :=
 if n<0\/(next:Int)<=n then (D,[],54) else if (cP D f m n kind).2.2≠0 then ((bN D f m n).1,[],(cP D f m n kind).2.2)
 else if (cP D f m n kind).1≠n then ((bN D f m n).1,[],53) else ((bN D f m n).1,(cP D f m n kind).2.1,0)
def cO (D:aX)(f m:Nat)(kind:Int)(next:Nat)(l:List UInt8):aX × Nat × Int × Int :=
 if 113<l.length then (D,next,0,3) else if m=next then (D,next,0,52)
 else if (cI D f m next kind next l).2≠0 then ((cI D f m next kind next l).1,next,0,(cI D f m next kind next l).2)
 else ((cI D f m next kind next l).1,next+1,(next:Int),0)
section
variable {w w':World} {base ga gj f m next:Nat} {kind:Int} {p:bE} {D:aX}
theorem be.drew (h:be w base p D):be w.drew base p D:=by
 obtain⟨A,c,h⟩:=h;exact⟨A,c,h.drewN 1⟩
theorem Step.of_drew {M:List TypeId}(h:Step M base p w.drew w'):Step M base p w w':=by
 obtain⟨hb,F,hF,tF⟩:=h;exact⟨(Below.drew (Below.refl _ _)).trans hb,F,Keep.of_drew hF,tF⟩
theorem lE (h:dc w gj ga kind next):Ca 261 #[.pointer (some ⟨gj,0,none⟩)] w fun e w'=>e=.returned (.bool true)/\w=w':=by
 have c0:=h.c0;clear h;go_enter Tryz.func261,Tryz.ntmps261;go_wp2;go_ret;exact⟨rfl,rfl⟩
theorem lF (h:dc w gj ga kind next):Ca 203 #[.pointer (some ⟨gj,0,none⟩)] w fun e w'=>e=.returned (I (next:Nat))/\w=w':=by
 have c2:=h.c2;have his:=lE h;clear h;go_enter Tryz.func203,Tryz.ntmps203;go_wp2_with (first | (go_at_call 261;go_call (his) as e w1 ⟨rfl,rfl⟩) | fail);go_ret;exact⟨rfl,rfl⟩
theorem jroom_any (h:dc w gj ga kind next)(ha:bD w ga p.d f m)(hm:m<=4096)(hn:next<=m):Ca 262 #[.pointer (some ⟨gj,0,none⟩)] w fun e w'=>e=.returned (I ((m:Int) - next))/\∃ q,w'=w.drewN q:=by
 have c0:=h.c0;have c2:=h.c2;have his:=lE h;have hmany:=iE (w:=w.drew) (ga:=ga) (d:=p.d) (f:=f) (m:=m) (Blk.drew ha);clear h ha;go_enter Tryz.func262,Tryz.ntmps262;go_wp2_with (first | (go_at_call 261;go_call (his) as e w1 ⟨rfl,rfl⟩) | fail);go_region_held3 (fun w'=>w'.cell? ⟨gj,0,none⟩=some (.pointer (some ⟨ga,0,none⟩))/\w'.cell? ⟨gj,2,none⟩=some (I (next:Int))) (first | go_keep | (refine⟨?_,?_⟩ <;> assumption)) (first | (go_at_call 113;go_call (hmany) as e w2 ⟨rfl,rfl⟩) | fail);go_wp2;go_ret;exact⟨by first | rfl | exact ret_int (by first | omega | go_arith),1,rfl⟩
theorem pH (h:dc w gj ga kind next)(hd:be w base p D)(hs:base<=w.heap.size)(ha:bD w ga p.d f m):Ca 207 #[.pointer (some ⟨gj,0,none⟩)] w fun e w'=>e=.returned (I (bH D).2)/\be w' base p (bH D).1/\Step mutD base p w w':=by
 have c0:=h.c0;have his:=lE h;have hfl:=j7 hd hs ha;generalize bH D=R at *;obtain⟨D',z⟩:=R;clear h ha hd;go_enter Tryz.func207,Tryz.ntmps207;go_wp2_with (first | (go_at_call 261;go_call (his) as e w1 ⟨rfl,rfl⟩) | (go_at_call 116;go_call (hfl) as e w2 ⟨rfl,h2,s2⟩) | fail);go_ret;exact⟨rfl,h2,s2⟩
theorem jget_any (h:dc w gj ga kind next)(hd:be w base p D)(hs:base<=w.heap.size)(ha:bD w ga p.d f m)(hfm:f+m<=D.many)(hnm:next<=4096)(n:Int) :
 Ca 252 #[.pointer (some ⟨gj,0,none⟩),I n] w fun e w'=>∃ B k d,e=.returned (.tuple #[.slice B k d,I (eX D f m kind next n).2.2])/\OB w' w.heap.size 5 B k d (eX D f m kind next n).2.1/\be w' base p (eX D f m kind next n).1/\Step mutD base p w w':=by
 have c0:=h.c0;have c1:=h.c1;have c2:=h.c2;have his:=lE h;unfold eX
 by_cases hn:n<0\/(next:Int)<=n
 · rw[if_pos hn];have hc:n<0\/(0<=n/\(next:Int)<=n):=aS;have HD:=aT hd;clear h hd ha hn;rcases hc with h1 | ⟨h1,h2⟩
   all_goals
    go_enter Tryz.func252,Tryz.ntmps252;go_wp2_with (first | (go_at_call 261;go_call (his) as e w1 ⟨rfl,rfl⟩) | fail);go_ret2;exact⟨none,0,0,rfl,Ow.nil _ _ _ _,HD.out,Step.refl _ _ _ _⟩
 · rw[if_neg hn];have h1:0<=n:=aS;have h2:n<next:=aS;have htk:=s_atake (w:=w.drew) hd.drew hs (Blk.drew ha) hfm n kind;have HJ:=aT h;have HD:=aT hd;clear h hd ha hn;generalize cP D f m n kind=T at *;generalize (bN D f m n).1=D' at *;obtain⟨N,L,er⟩:=T;simp only at htk ⊢
   by_cases her:er=0
   · subst her;rw[if_neg aZ]
     by_cases hN:N=n
     · subst hN;rw[if_neg aZ];have hne:(N != N)=false:=by simp
       go_enter Tryz.func252,Tryz.ntmps252;go_wp2_with (first | (go_at_call 261;go_call (his) as e w1 ⟨rfl,rfl⟩) | fail);go_region_held3 (fun w'=>w'.cell? ⟨gj,0,none⟩=some (.pointer (some ⟨ga,0,none⟩))/\w'.cell? ⟨gj,1,none⟩=some (I kind)) (first | go_keep | (refine⟨?_,?_⟩ <;> assumption)) (first | ((go_at_call 158;go_call (htk) as e w2 ⟨B,k,d,rfl,o2,h2,s2⟩);have hj2:=HD.out.drew.blk (Blk.drew HJ.out) s2.tch aU;have y0:=hj2.c0;have y1:=hj2.c1) | fail);go_wp2;go_ret2;exact⟨B,k,d,rfl,o2,h2,s2.of_drew⟩
     · rw[if_pos hN];have hne:(N != n)=true:=by rw[ag];exact hN
       go_enter Tryz.func252,Tryz.ntmps252;go_wp2_with (first | (go_at_call 261;go_call (his) as e w1 ⟨rfl,rfl⟩) | fail);go_region_held3 (fun w'=>w'.cell? ⟨gj,0,none⟩=some (.pointer (some ⟨ga,0,none⟩))/\w'.cell? ⟨gj,1,none⟩=some (I kind)) (first | go_keep | (refine⟨?_,?_⟩ <;> assumption)) (first | ((go_at_call 158;go_call (htk) as e w2 ⟨B,k,d,rfl,o2,h2,s2⟩);have hj2:=HD.out.drew.blk (Blk.drew HJ.out) s2.tch aU;have y0:=hj2.c0;have y1:=hj2.c1) | fail);go_wp2;go_ret2;exact⟨none,0,0,rfl,Ow.nil _ _ _ _,h2,s2.of_drew⟩
   · rw[if_pos her];have hne:(er != 0)=true:=by rw[ag];exact her
     have heq:(er == 0)=false:=by rw[af];exact her
     clear her;go_enter Tryz.func252,Tryz.ntmps252;go_wp2_with (first | (go_at_call 261;go_call (his) as e w1 ⟨rfl,rfl⟩) | fail);go_region_held3 (fun w'=>w'.cell? ⟨gj,0,none⟩=some (.pointer (some ⟨ga,0,none⟩))/\w'.cell? ⟨gj,1,none⟩=some (I kind)) (first | go_keep | (refine⟨?_,?_⟩ <;> assumption)) (first | ((go_at_call 158;go_call (htk) as e w2 ⟨B,k,d,rfl,o2,h2,s2⟩);have hj2:=HD.out.drew.blk (Blk.drew HJ.out) s2.tch aU;have y0:=hj2.c0;have y1:=hj2.c1) | fail);go_wp2;go_ret2;exact⟨none,0,0,rfl,Ow.nil _ _ _ _,h2,s2.of_drew⟩
end
