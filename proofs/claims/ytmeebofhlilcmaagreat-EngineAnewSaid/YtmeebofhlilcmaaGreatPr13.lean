/- Parts: AreaB, DiskK, AreaC, Step, JrnA. -/
import Derived.Test.YtmeebofhlilcmaaGreatPr12
set_option linter.unusedVariables false
set_option linter.unusedSimpArgs false
set_option maxRecDepth 100000
set_option maxHeartbeats 0
namespace Go.Proofs.YtmeebofhlilcmaaGreat
variable {g d:Nat} {t:TypeId} {cs:List Value}
open Go.RowKit
def bG (D:aX)(f m:Nat)(n:Int):aX × List UInt8 × Int:=if n<0\/(m:Int)<=n then (D,be,51) else eQ D ((f:Int)+n)
def bC (D:aX)(f m:Nat)(n:Int)(b:List UInt8):aX × Int:=if n<0\/(m:Int)<=n then (D,51) else eE D ((f:Int)+n) b
section
variable {w w':World} {base ga f m:Nat} {p:bw} {A:Option Addr} {c:Nat} {D:aX}
theorem aReadV_len (h:D.Ok)(n:Int):(bG D f m n).2.1.length=128:=by
 unfold bG
 split
 · exact dJ
 · exact ng h _
theorem read1_any {g2 g6:Nat}(h:bq w base p A c D)(ha:br w ga p.d f m)(hbox:Blk w g2 188 [.pointer (some ⟨ga,0,none⟩)]){Z:List UInt8}(hx:BlkB w g6 205 Z)(hZ:Z.length=128)(hnf:¬ foot p A g6)(n:Int) :
 Ca 235 #[I n,.pointer (some ⟨g2,0,none⟩),.pointer (some ⟨g6,0,none⟩)] w fun e w'=>∃ z,e=.returned (I z) /\
  (z=(eQ D n).2.2/\bq w' base p A c (eQ D n).1/\BlkB w' g6 205 (eQ D n).2.1/\Keep (fun g=>foot p A g\/g=g6) w w'):=by
 have Hi:=aT (zero_of_info dq).2;have hl:=ng h.ok n;have hrd:=dread_any h n;generalize eQ D n=R at *;obtain⟨D',S,z⟩:=R;simp only at hl hrd ⊢;have c0:=hbox.c0;have c1:=ha.c0;have hsl:Hid ((S.map bv).length=128):=by show _=_;rw[av,hl]
 have hsm:=aT (eh (l:=S));have hzl:Hid ((Z.map bv).length=128):=by show _=_;rw[av,hZ]
 have HX:=aT hx;unfold aggB at hrd;unfold BlkB at HX ⊢;generalize S.map bv=SV at *;clear h ha hbox hx hl hZ;go_enter Tryz.func235,Tryz.ntmps235;go_wp2_with (first | ((go_at_call 236;go_call (hrd) as e w1 ⟨rfl,h1,k1⟩);have hx1:=HX.out.keep k1 hnf;have H1:=aT h1;clear h1) | (refine el rfl (x:=.tmp 2) (y:=.tmp 12) rfl rfl rfl hx1 Hi.out hsl.out (by rw[hzl.out];omega) hsm.out ?_;intro w2 hb2 hg2 hs2;rw[dM _ _ (hzl.out.trans hsl.out.symm)] at hb2) | fail);go_ret;exact⟨z,rfl,rfl,H1.out.keep (F:=(·=g6)) (Keep.one hg2) (fun g hg e=>hnf (e ▸ hg)),hb2,(k1.mono (fun g _ hg=>.inl hg)).trans (G:=(·=g6)) (Keep.one hg2) (fun g _ e=>.inr e)⟩
theorem aread_any (h:bq w base p A c D)(ha:br w ga p.d f m)(hfm:f+m<=D.many)(n:Int) :
 Ca 162 #[.pointer (some ⟨ga,0,none⟩),I n] w fun e w'=>e=.returned (.tuple #[aggB (bG D f m n).2.1,I (bG D f m n).2.2])/\bq w' base p A c (bG D f m n).1/\Keep (foot p A) w w':=by
 have hz:=(zero_of_info dq).1;have Hi:=aT (zero_of_info dq).2;have hlz:Hid ((be.map bv).length=128):=by show _=_;simp[dJ]
 have HZm:=aT (eh (l:=be));have hfm4:f+m<=4096:=by have:=h.ok.many1;omega
 have hl4:=aT (fun g hg=>h.lt g hg);have H:=aT h;have HA:=aT ha;unfold bG
 by_cases hn:n<0\/(m:Int)<=n
 · rw[if_pos hn];simp only;have hout:=fun o1 o2 o3=>at_out (k:=235) (caps:=#[.pointer (some ⟨w.heap.size,0,none⟩),.pointer (some ⟨w.heap.size+2,0,none⟩)]) (((ha.below ((Below.refl _ _).alloc aW o1)).below ((Below.refl _ _).alloc aW o2)).below ((Below.refl _ _).alloc aW o3)) n hn
   unfold aggB at *;generalize be.map bv=Z at *;clear h ha hn;go_enter Tryz.func162,Tryz.ntmps162;go_wp2_with (first | (go_at_call 234;go_call (hout _ _ _) as e w1 ⟨rfl,rfl⟩) | (refine eX rfl (x:=.tmp 6) rfl rfl (t:=205) (cs:=Z) bH Tryz.underlying205 Hi.out hlz.out (xs:=Z) (by rw[aJ,au fZ]) ?_) | (refine el rfl (x:=.tmp 4) (y:=.tmp 12) rfl rfl rfl (t:=205) (cs:=Z) (xs:=Z) bH Hi.out hlz.out fZ HZm.out ?_;intro w2 hb2 hg2 hs2;rw[dM _ _ rfl] at hb2) | fail);refine bodyPost_ret (v:=.tuple #[.agg Z.toArray,I 51]) (jy Tryz.results162 _ rfl rfl hb2 Tryz.underlying205 Hi.out hlz.out) rfl ?_;have hb:=ej ((((Below.refl w.heap.size w).alloc aW _).alloc ba _).alloc ba _) hg2 ba ba;exact⟨rfl,H.out.below hb,Keep.of_below hb⟩
 · rw[if_neg hn];have hin:=fun W (q1:bq W base p A c D) q2 g2 g6 q3 q4 q5=>at_read (w:=W) (ga:=ga) (d:=p.d) (f:=f) (m:=m) (x1:=.pointer (some ⟨g2,0,none⟩)) (x2:=.pointer (some ⟨g6,0,none⟩)) (R:=fun z w'=>z=(eQ D ((f:Int)+n)).2.2/\bq w' base p A c (eQ D ((f:Int)+n)).1/\BlkB w' g6 205 (eQ D ((f:Int)+n)).2.1/\Keep (fun g=>foot p A g\/g=g6) W w') q2 n aS aS hfm4 (read1_any (g2:=g2) (g6:=g6) q1 q2 q3 (Z:=be) q4 dJ q5 ((f:Int)+n))
   have hl:=ng h.ok ((f:Int)+n);generalize eQ D ((f:Int)+n)=RR at *;obtain⟨D',S,z⟩:=RR;simp only at hl hin ⊢;have hsl:Hid ((S.map bv).length=128):=by show _=_;rw[av,hl]
   have hsm:=aT (eh (l:=S));unfold aggB BlkB at *;generalize S.map bv=SV at *;generalize be.map bv=Z at *;clear h ha hn hl;go_enter Tryz.func162,Tryz.ntmps162;go_wp2_with (first | ((go_at_call 234;go_call (hin _ (((H.out.alloc _).alloc _).alloc _) (((HA.out.below ((Below.refl _ _).alloc aW _)).below ((Below.refl _ _).alloc aW _)).below ((Below.refl _ _).alloc aW _)) w.heap.size (w.heap.size+2) bH bH (fun e=>by have:=hl4.out _ e;omega)) as e w1 ⟨z9,rfl,hz9,h1,hx1,k1⟩);subst hz9;have hr1:=Blk.keep (g:=w.heap.size+1) (t:=205) (cs:=Z) bH k1 (fun e=>by rcases e with e | e;have:=hl4.out _ e;omega;omega);have H1:=aT h1;clear h1) | (refine eX rfl (x:=.tmp 6) rfl rfl hx1 Tryz.underlying205 Hi.out hsl.out (xs:=SV) fO ?_) | (refine el rfl (x:=.tmp 4) (y:=.tmp 12) rfl rfl rfl hr1 Hi.out hsl.out fZ hsm.out ?_;intro w2 hb2 hg2 hs2;rw[dM _ _ (hlz.out.trans hsl.out.symm)] at hb2) | fail);refine bodyPost_ret (v:=.tuple #[.agg SV.toArray,I z9]) (jy Tryz.results162 _ rfl rfl hb2 Tryz.underlying205 Hi.out hsl.out) rfl ?_;refine⟨rfl,H1.out.keep (F:=(·=w.heap.size+1)) (Keep.one hg2) (fun g hg e=>by have:=hl4.out _ hg;omega),?_⟩;have k2:Keep (fun g=>foot p A g\/g=w.heap.size+2\/g=w.heap.size+1) w w2:=((((((Keep.refl _ w).alloc _).alloc _).alloc _).trans k1 (fun g _ e=>by rcases e with e | e;exact .inl e;exact .inr (.inl e))).trans (G:=(·=w.heap.size+1)) (Keep.one hg2) (fun g _ e=>.inr (.inr e)));exact k2.mono (fun g hg e=>by rcases e with e | e | e;exact e;omega;omega)
theorem write1_any {g3 g5:Nat}(h:bq w base p A c D)(ha:br w ga p.d f m)(hbox:Blk w g3 188 [.pointer (some ⟨ga,0,none⟩)]){S:List UInt8}(hx:BlkB w g5 205 S)(hS:S.length=128)(hnf:¬ foot p A g5)(n:Int)(hw:D.waits.length<1000000)(hbase:base<=w.heap.size) :
 Ca 257 #[I n,.pointer (some ⟨g3,0,none⟩),.pointer (some ⟨g5,0,none⟩)] w fun e w'=>∃ z,e=.returned (I z)/\(z=(eE D n S).2/\es w base p A (eE D n S).1 w'):=by
 have Hi:=aT (zero_of_info dq).2;have hwr:=fun w' (hb:Below w.heap.size w w')=>write_any (h.below hb) n S hS hw jY
 have c0:=hbox.c0;have c1:=ha.c0;have hsl:Hid ((S.map bv).length=128):=by show _=_;rw[av,hS]
 have hxr:=Blk.range (o:=0) (n:=128) (xs:=S.map bv) hx fO;generalize (eE D n S).1=D' at *;generalize (eE D n S).2=z at *;unfold aggB at hwr;unfold BlkB at hx;generalize S.map bv=SV at *;have hnx:∀ w1 w2,Below w.heap.size w w1->es w1 base p A D' w2->es w base p A D' w2:=fun w1 w2 hb ⟨A',c',h1,k,n⟩=>⟨A',c',h1,(Keep.of_below hb).trans k (fun _ _ e=>e),fun g e=>by rcases n g e with q | q;exact .inl q;exact .inr jY⟩
 have HX:=aT hx;have HB:=aT hbox;have HA:=aT ha;have H:=aT h;clear h ha hbox hx hS;go_enter Tryz.func257,Tryz.ntmps257;go_wp2;refine wp_region_held_drew (S:=fun w'=>w'.cell? ⟨g3,0,none⟩=some (.pointer (some ⟨ga,0,none⟩))/\w'.cell? ⟨ga,0,none⟩=some (.pointer (some ⟨p.d,0,none⟩))/\w'.rangeAt g5 0 SV) bO ⟨c0,c1,hxr⟩ (fun hHeld=>?_);refine aV 0 ?_ (hy:=Or.inl ⟨by rfl,eN⟩);refine aV 1 ?_;refine aV 2 ?_;refine aV 3 ?_ (hy:=Or.inl ⟨by rfl,eN⟩);refine aV 4 ?_;refine wpAnyH_take (i:=5) (v:=_) rfl bP bP bP (fun _ _ _ h=>h) (yieldsIf_load_mid (by rfl) _ _ rfl _ _ rfl SV _ (fun _ h=>h.2.2) Tryz.underlying205 rfl (by rw[hsl.out];exact Hi.out)) gq ?_;refine bB ?_;refine bL 6 (fun K hK=>?_);go_simp
 (go_at_call 258;go_call (hwr _ a9) as e w1 ⟨rfl,hN⟩)
 have hN2:=hnx _ _ a9 hN;have kk:=(show Keep (foot p A) w w1 from (by obtain⟨_,_,_,k,_⟩:=hN2;exact k));have HB1:=HB.out.keep kk (fun e=>by rcases H.out.foot_ty HB.out e with q | q | q | q | q <;> exact absurd q aU);have HA1:=HA.out.spares H.out kk;have HX1:=HX.out.keep kk hnf;have d0:=HB1.c0;have d1:=HA1.c0;have d2:=Blk.range (o:=0) (n:=128) (xs:=SV) HX1 fO;have HN2:=aT hN2;clear hN2 hN HB1 HA1 HX1;refine hK.out _ _ (⟨d0,d1,d2⟩) (fun hHeld=>?_);clear hK K;refine bB ?_;refine aV 7 ?_;refine wpAnyH_done bP ?_ _;go_wp2;go_ret;exact⟨z,rfl,rfl,hnx _ _ (Below.refl _ _) HN2.out⟩
theorem nh (h:bq w base p A c D)(ha:br w ga p.d f m)(hfm:f+m<=D.many)(n:Int)(S:List UInt8)(hS:S.length=128)(hw:D.waits.length<1000000)(hbase:base<=w.heap.size) :
 Ca 200 #[.pointer (some ⟨ga,0,none⟩),I n,aggB S] w fun e w'=>e=.returned (I (bC D f m n S).2)/\es w base p A (bC D f m n S).1 w':=by
 have hfm4:f+m<=4096:=by have:=h.ok.many1;omega
 have hl4:=aT (fun g hg=>h.lt g hg);have hsl:Hid ((S.map bv).length=128):=by show _=_;rw[av,hS]
 have hnx:∀ D' w1 w2,Below w.heap.size w w1->es w1 base p A D' w2->es w base p A D' w2:=fun D' w1 w2 hb ⟨A',c',h1,k,n⟩=>⟨A',c',h1,(Keep.of_below hb).trans k (fun _ _ e=>e),fun g e=>by rcases n g e with q | q;exact .inl q;exact .inr jY⟩
 have H:=aT h;have HA:=aT ha;unfold bC
 by_cases hn:n<0\/(m:Int)<=n
 · rw[if_pos hn];simp only;have hout:=fun o1 o2=>at_out (k:=257) (caps:=#[.pointer (some ⟨w.heap.size,0,none⟩),.pointer (some ⟨w.heap.size+1,0,none⟩)]) ((ha.below ((Below.refl _ _).alloc aW o1)).below ((Below.refl _ _).alloc aW o2)) n hn
   unfold aggB at *;generalize S.map bv=SV at *;clear h ha hn;go_enter Tryz.func200,Tryz.ntmps200;go_wp2_with (first | (go_at_call 234;go_call (hout _ _) as e w1 ⟨rfl,rfl⟩) | fail);go_ret;exact⟨rfl,hnx _ _ _ a9 (es.same ((H.out.alloc _).alloc _) (Below.refl _ _))⟩
 · rw[if_neg hn];have hin:=fun W (q1:bq W base p A c D) q2 g2 g6 q3 q4 q5 q6=>at_write (w:=W) (ga:=ga) (d:=p.d) (f:=f) (m:=m) (x1:=.pointer (some ⟨g2,0,none⟩)) (x2:=.pointer (some ⟨g6,0,none⟩)) (R:=fun z w'=>z=(eE D ((f:Int)+n) S).2/\es W base p A (eE D ((f:Int)+n) S).1 w') q2 n aS aS hfm4 (write1_any (g3:=g2) (g5:=g6) q1 q2 q3 (S:=S) q4 hS q5 ((f:Int)+n) hw q6)
   generalize eE D ((f:Int)+n) S=RR at *;obtain⟨D',z⟩:=RR;simp only at hin ⊢;unfold aggB BlkB at *;generalize S.map bv=SV at *;clear h ha hn;go_enter Tryz.func200,Tryz.ntmps200;go_wp2_with (first | ((go_at_call 234;go_call (hin _ ((H.out.alloc _).alloc _) ((HA.out.below ((Below.refl _ _).alloc aW _)).below ((Below.refl _ _).alloc aW _)) w.heap.size (w.heap.size+1) bH bH (fun e=>by have:=hl4.out _ e;omega) ba) as e w1 ⟨z9,rfl,hz9,hN⟩)) | fail);go_ret;subst hz9;exact⟨rfl,hnx _ _ _ a9 hN⟩
end
def cy (D:aX)(f m:Nat)(n kind number:Int)(load:List UInt8):aX × Int:=if (fL kind number load).2≠0 then (D,(fL kind number load).2) else bC D f m n (fL kind number load).1
def ez (S:List UInt8)(kind:Int):Int × List UInt8 × Int:=if eL S kind then (sg (ed S),eP S,0) else (0,[],53)
def cN (D:aX)(f m:Nat)(n kind:Int):Int × List UInt8 × Int:=if (bG D f m n).2.2≠0 then (0,[],(bG D f m n).2.2) else ez (bG D f m n).2.1 kind
section
variable {w w':World} {base ga f m:Nat} {p:bw} {A:Option Addr} {c:Nat} {D D':aX}
theorem es.of_below {w1:World}(hb:Below w.heap.size w w1)(h:es w1 base p A D' w'):es w base p A D' w':=by
 obtain⟨A',c',h1,k,n⟩:=h;exact⟨A',c',h1,(Keep.of_below hb).trans k (fun _ _ e=>e),fun g e=>by rcases n g e with q | q;exact .inl q;exact .inr jY⟩
theorem awipe_any (h:bq w base p A c D)(ha:br w ga p.d f m)(hfm:f+m<=D.many)(n:Int)(hw:D.waits.length<1000000)(hbase:base<=w.heap.size) :
 Ca 198 #[.pointer (some ⟨ga,0,none⟩),I n] w fun e w'=>e=.returned (I (bC D f m n be).2)/\es w base p A (bC D f m n be).1 w':=by
 have he:aggB be=.agg Tryz.zeroCells205:=by kernel_rfl
 have hwr:=nh h ha hfm n be dJ hw hbase;rw[he] at hwr;generalize (bC D f m n be).1=D' at *;generalize (bC D f m n be).2=z at *;clear h ha he;go_enter Tryz.func198,Tryz.ntmps198;go_wp2_with (first | (go_at_call 200;go_call (hwr) as e w1 ⟨rfl,hN⟩) | fail);go_ret;exact⟨rfl,hN⟩
theorem aflush_any (h:bq w base p A c D)(ha:br w ga p.d f m) :
 Ca 116 #[.pointer (some ⟨ga,0,none⟩)] w fun e w'=>e=.returned (I (bu D).2)/\es w base p A (bu D).1 w':=by
 have hfl:=flush_any h;have c0:=ha.c0;generalize (bu D).1=D' at *;generalize (bu D).2=z at *;clear h ha;go_enter Tryz.func116,Tryz.ntmps116;go_wp2_with (first | (go_at_call 201;go_call (hfl) as e w1 ⟨rfl,hN⟩) | fail);go_ret;exact⟨rfl,hN⟩
theorem aput_any (h:bq w base p A c D)(ha:br w ga p.d f m)(hfm:f+m<=D.many)(n kind number:Int)(B:Option Addr)(k d:Nat)(l:List UInt8)(hl:RB w B k l)(hk:k<=maxLen)(hnum:number<=9223372036854775807)(hw:D.waits.length<1000000)(hbase:base<=w.heap.size) :
 Ca 115 #[.pointer (some ⟨ga,0,none⟩),I n,I kind,I number,.slice B k d] w fun e w'=>e=.returned (I (cy D f m n kind number l).2)/\es w base p A (cy D f m n kind number l).1 w':=by
 have hz:=(zero_of_info dq).1;have Hi:=aT (zero_of_info dq).2;have hlz:Hid ((be.map bv).length=128):=by show _=_;simp[dJ]
 have hmk:=make_any kind number B k d l w hnum hk hl;have hml:=makeL_len kind number l;have c0:=ha.c0;have H:=aT h;unfold cy;have hwr:=fun w' (hb:Below w.heap.size w w')=>nh (h.below hb) (ha.below hb) hfm n (fL kind number l).1 hml hw jY
 have hsl:Hid (((fL kind number l).1.map bv).length=128):=by show _=_;rw[av,hml]
 have hsm:=aT (eh (l:=(fL kind number l).1));generalize fL kind number l=M at *;obtain⟨S,z⟩:=M;simp only at hmk hml hwr hsl hsm ⊢
 by_cases hzz:z=0
 · rw[if_neg aS];subst hzz;have hne:((0:Int) != 0)=false:=rfl;generalize bC D f m n S=RR at *;obtain⟨D',z⟩:=RR;simp only at hwr ⊢;unfold aggB at *;generalize S.map bv=SV at *;generalize be.map bv=Z at *;clear h ha hml;go_enter Tryz.func115,Tryz.ntmps115;go_wp2_with (first | ((go_at_call 199;go_call (hmk) as e w1 ⟨rfl,hb1⟩);have s1:=hb1.size) | (refine el rfl (x:=.tmp 11) (y:=.tmp 27) rfl rfl rfl (t:=205) (cs:=Z) (xs:=SV) (Blk.top _ rfl rfl) Hi.out hsl.out fZ hsm.out ?_;intro w2 hb2 hg2 hs2;rw[dM _ _ (hlz.out.trans hsl.out.symm)] at hb2;have b2:=ej (hb1.alloc s1 _) hg2 cI s1) | (refine eX rfl (x:=.tmp 11) rfl rfl hb2 Tryz.underlying205 Hi.out hsl.out fO ?_) | (go_at_call 200;go_call (hwr _ b2) as e w3 ⟨rfl,hN⟩) | fail);go_ret;exact⟨rfl,hN.of_below b2⟩
 · rw[if_pos hzz];have hne:(z != 0)=true:=by rw[ag];exact hzz
   unfold aggB at *;generalize S.map bv=SV at *;generalize be.map bv=Z at *;clear h ha hml hwr hzz;go_enter Tryz.func115,Tryz.ntmps115;go_wp2_with (first | ((go_at_call 199;go_call (hmk) as e w1 ⟨rfl,hb1⟩);have s1:=hb1.size) | (refine el rfl (x:=.tmp 11) (y:=.tmp 27) rfl rfl rfl (t:=205) (cs:=Z) (xs:=SV) (Blk.top _ rfl rfl) Hi.out hsl.out fZ hsm.out ?_;intro w2 hb2 hg2 hs2;rw[dM _ _ (hlz.out.trans hsl.out.symm)] at hb2;have b2:=ej (hb1.alloc s1 _) hg2 cI s1) | fail);go_ret;exact⟨rfl,es.same H.out b2⟩
theorem open_v (S:List UInt8)(kind:Int)(w:World)(hl:S.length=128):Ca 163 #[aggB S,I kind] w fun e w'=>
 ∃ B k d,e=.returned (.tuple #[I (ez S kind).1,.slice B k d,I (ez S kind).2.2])/\OB w' w.heap.size 5 B k d (ez S kind).2.1/\Below w.heap.size w w':=by
 refine (open_any S kind w hl).mono fun e w' hE=>?_
 unfold ez;rcases hE with ⟨hq,he,hb⟩ | ⟨hq,B,d,he,ho,hb⟩
 · rw[hq,if_neg a8];exact⟨none,0,0,he,Ow.nil _ _ _ _,hb⟩
 · rw[hq,if_pos rfl];exact⟨B,_,d,he,ho,hb⟩
theorem atake_any (h:bq w base p A c D)(ha:br w ga p.d f m)(hfm:f+m<=D.many)(n kind:Int) :
 Ca 158 #[.pointer (some ⟨ga,0,none⟩),I n,I kind] w fun e w'=>
  ∃ B k d,e=.returned (.tuple #[I (cN D f m n kind).1,.slice B k d,I (cN D f m n kind).2.2])/\OB w' w.heap.size 5 B k d (cN D f m n kind).2.1/\bq w' base p A c (bG D f m n).1/\Keep (foot p A) w w':=by
 have hz:=(zero_of_info dq).1;have Hi:=aT (zero_of_info dq).2;have hlz:Hid ((be.map bv).length=128):=by show _=_;simp[dJ]
 have hrd:=aread_any h ha hfm n;have hl:=aReadV_len (f:=f) (m:=m) h.ok n;unfold cN;generalize bG D f m n=RR at *;obtain⟨D',S,z⟩:=RR;simp only at hrd hl ⊢;have hop:=fun w=>open_v S kind w hl
 have hsl:Hid ((S.map bv).length=128):=by show _=_;rw[av,hl]
 have hsm:=aT (eh (l:=S))
 by_cases hzz:z=0
 · rw[if_neg aS];subst hzz;generalize ez S kind=OV at *;obtain⟨N,L,er⟩:=OV;simp only at hop ⊢;unfold aggB at *;generalize S.map bv=SV at *;generalize be.map bv=Z at *;clear h ha hl;go_enter Tryz.func158,Tryz.ntmps158;go_wp2_with (first | ((go_at_call 162;go_call (hrd) as e w1 ⟨rfl,h1,k1⟩);have s1:=k1.size;have H1:=aT h1;clear h1) | (refine el rfl (x:=.tmp 9) (y:=.tmp 14) rfl rfl rfl (t:=205) (cs:=Z) (xs:=SV) (Blk.top _ rfl rfl) Hi.out hsl.out fZ hsm.out ?_;intro w2 hb2 hg2 hs2;rw[dM _ _ (hlz.out.trans hsl.out.symm)] at hb2;have b2:=ej ((Below.refl w1.heap.size w1).alloc aW _) hg2 ba ba;have s2:=b2.size) | (refine eX rfl (x:=.tmp 9) rfl rfl hb2 Tryz.underlying205 Hi.out hsl.out fO ?_) | (go_at_call 163;go_call (hop _) as e w3 ⟨B3,k3,d3,rfl,o3,b3⟩) | fail);go_ret3;have b13:=b2.trans (b3.mono s2);exact⟨B3,k3,d3,rfl,o3.rebase aS,H1.out.below b13,k1.then_below b13⟩
 · rw[if_pos hzz];have hne:(z != 0)=true:=by rw[ag];exact hzz
   unfold aggB at *;generalize S.map bv=SV at *;generalize be.map bv=Z at *;clear h ha hl hop hzz;go_enter Tryz.func158,Tryz.ntmps158;go_wp2_with (first | ((go_at_call 162;go_call (hrd) as e w1 ⟨rfl,h1,k1⟩);have s1:=k1.size;have H1:=aT h1;clear h1) | (refine el rfl (x:=.tmp 9) (y:=.tmp 14) rfl rfl rfl (t:=205) (cs:=Z) (xs:=SV) (Blk.top _ rfl rfl) Hi.out hsl.out fZ hsm.out ?_;intro w2 hb2 hg2 hs2;rw[dM _ _ (hlz.out.trans hsl.out.symm)] at hb2;have b2:=ej ((Below.refl w1.heap.size w1).alloc aW _) hg2 ba ba;have s2:=b2.size) | fail);go_ret3;exact⟨none,0,0,rfl,Ow.nil _ _ _ _,H1.out.below b2,k1.then_below b2⟩
theorem anew_ok (h:bq w base p A c D)(f m:Nat)(h1:1<=m)(h2:f+m<=D.many) :
 Ca 109 #[.pointer (some ⟨p.d,0,none⟩),.agg #[I (f:Int),I (m:Int)]] w fun e w'=>∃ ga,e=.returned (.tuple #[.pointer (some ⟨ga,0,none⟩),I 0])/\br w' ga p.d f m/\w.heap.size<=ga/\Below w.heap.size w w':=by
 have hs:=fun o=>size_any (h.alloc o)
 have hm:=h.ok.many1;generalize D.many=many at *;clear h;unfold br;go_enter Tryz.func109,Tryz.ntmps109;go_wp2_with (first | (go_at_call 48;go_call (hs _) as e w1 ⟨rfl,rfl⟩) | fail);go_ret2;exact⟨w.heap.size+1,by simp,bH,aS,a9⟩
end
def mutD:List TypeId:=[198,205,300,207]
def et (M:List TypeId)(p:bw)(w w':World):Prop:=∃ F:Nat->Prop,Keep F w w'/\∀ g t cs,F g->Blk w g t cs->t ∈ M\/g=p.gi\/g=p.gm
structure Step (M:List TypeId)(base:Nat)(p:bw)(w w':World):Prop where
 bel:Below base w w'
 tch:et M p w w'
section
variable {M N:List TypeId} {w w' w'':World} {base:Nat} {p:bw} {A:Option Addr} {c:Nat} {D D':aX}
theorem et.of_below (hb:Below w.heap.size w w'):et M p w w':=⟨fun _=>False,Keep.of_below hb,fun _ _ _ h=>h.elim⟩
theorem et.refl (M:List TypeId)(p:bw)(w:World):et M p w w:=et.of_below (Below.refl _ _)
theorem et.trans (h:et M p w w')(k:et M p w' w''):et M p w w'':=by
 obtain⟨F,hF,tF⟩:=h;obtain⟨G,hG,tG⟩:=k;refine⟨fun g=>F g\/G g,(hF.mono (fun g _ e=>.inl e)).trans hG (fun g _ e=>.inr e),fun g t cs hfg hb=>?_⟩
 by_cases hf:F g
 · exact tF g t cs hf hb
 · rcases hfg with e | e
   · exact absurd e hf
   · exact tG g t cs e (hb.keep hF hf)
theorem et.of_next (h:bq w base p A c D)(k:Keep (foot p A) w w'):et mutD p w w':=⟨foot p A,k,fun g t cs hg hb=>by
 by_cases h1:g=p.gi
 · exact .inr (.inl h1)
 by_cases h2:g=p.gm
 · exact .inr (.inr h2)
 left
 rcases h.foot_ty hb hg with q | q | q | q | q
 · subst q;decide
 · subst q;decide
 · subst q;have hne:∀ {g':Nat} {t':TypeId} {cs':List Value},Blk w g' t' cs'->4≠t'->g≠g':=fun hb' hn=>hb.ne_ hb' hn
   rcases hg with e | e | e | e | e | e | e
   · exact absurd e (hne h.st aU)
   · exact absurd e (hne h.bk aU)
   · exact absurd e (hne h.bn aU)
   · exact absurd e h1
   · exact absurd e h2
   · exact absurd e (hne h.mt.2 aU)
   · exfalso
     rcases h.wa.2 with ⟨hv,_⟩ | ⟨g',cap,cur,hv,_,hh,_⟩
     · injection hv with hv;subst hv;cases e
     · injection hv with hv;subst hv;simp only[Option.map_some,Option.some.injEq] at e;exact hne (g':=g') (t':=207) (cs':=cur.toList) (by unfold Blk;rw[hh]) aU e.symm
 · subst q;decide
 · subst q;decide⟩
theorem et.one (hg:w.grownBy w' (some g))(hb:Blk w g t cs)(ht:t ∈ M):et M p w w':=⟨(·=g),Keep.one hg,fun g' t' cs' e hb'=>by
 subst e
 by_cases q:t'=t
 · subst q;exact .inl ht
 · exact absurd rfl (hb'.ne_ hb q)⟩
theorem Blk.touch (h:Blk w g t cs)(k:et M p w w')(ht:t ∉ M)(h1:g≠p.gi)(h2:g≠p.gm):Blk w' g t cs:=by
 obtain⟨F,hF,tF⟩:=k;refine h.keep hF (fun e=>?_);rcases tF g t cs e h with q | q | q
 · exact ht q
 · exact h1 q
 · exact h2 q
theorem bc.notBool (h:bc w base p D)(hb:Blk w g t cs)(ht:t≠4):g≠p.gi/\g≠p.gm:=by
 obtain⟨A,c,h⟩:=h;exact⟨hb.ne_ h.bi ht,hb.ne_ h.bm ht⟩
theorem bc.blk (h:bc w base p D)(hb:Blk w g t cs)(k:et M p w w')(ht:t ∉ 4 :: M):Blk w' g t cs:=by
 obtain⟨h1,h2⟩:=h.notBool hb (fun e=>ht (by rw[e];exact aN ..));exact hb.touch k (fun e=>ht (aC _ e)) h1 h2
theorem bc.area (h:bc w base p D){ga f m:Nat}(ha:br w ga d f m)(k:et M p w w')(ht:289 ∉ 4 :: M):br w' ga d f m:=h.blk ha k ht
theorem bc.ow {α:Type}{enc:α->Value}{b n:Nat}{e:TypeId}{B:Option Addr}{l:List α}(h:bc w base p D)(ho:Ow enc w b e B n d l)(k:et M p w w')(ht:e ∉ 4 :: M):Ow enc w' b e B n d l:=by
 obtain⟨F,hF,tF⟩:=k;refine⟨ho.1,gP ho.2 hF (fun g hg hf=>?_)⟩;rcases ho.2.2 with ⟨hv,_⟩ | ⟨g',cap,cur,hv,_,hh,_⟩
 · rw[hv] at hg;cases hg
 · rw[hv] at hg;have:g'=g:=by simpa [Value.ownBlock] using hg
   subst this;have hb:Blk w g' e cur.toList:=by unfold Blk;rw[hh]
   obtain⟨h1,h2⟩:=h.notBool hb (fun e=>ht (by rw[e];exact aN ..));rcases tF _ _ _ hf hb with q | q | q
   · exact ht (aC _ q)
   · exact h1 q
   · exact h2 q
theorem bc.ob {b n:Nat}{B:Option Addr}{l:List UInt8}(h:bc w base p D)(ho:OB w b 5 B n d l)(k:et M p w w')(ht:5 ∉ 4 :: M):OB w' b 5 B n d l:=h.ow ho k ht
theorem et.mono (h:et M p w w')(hs:∀ t,t ∈ M->t ∈ N):et N p w w':=by
 obtain⟨F,hF,tF⟩:=h;exact⟨F,hF,fun g t cs e hb=>by rcases tF g t cs e hb with q | q;exact .inl (hs t q);exact .inr q⟩
theorem Step.mono (h:Step M base p w w')(hs:∀ t,t ∈ M->t ∈ N):Step N base p w w':=⟨h.bel,h.tch.mono hs⟩
theorem Step.refl (M:List TypeId)(base:Nat)(p:bw)(w:World):Step M base p w w:=⟨Below.refl _ _,et.refl _ _ _⟩
theorem Step.of_below (hb:Below w.heap.size w w')(hs:base<=w.heap.size):Step M base p w w':=⟨hb.mono hs,et.of_below hb⟩
theorem Step.trans (h:Step M base p w w')(k:Step M base p w' w''):Step M base p w w'':=⟨h.bel.trans k.bel,h.tch.trans k.tch⟩
theorem Step.of_next (h:bq w base p A c D)(hs:base<=w.heap.size)(hN:es w base p A D' w'):Step mutD base p w w':=by
 obtain⟨A',c',h1,k,_⟩:=hN;exact⟨h.belowK k hs,et.of_next h k⟩
theorem Step.of_keep (h:bq w base p A c D)(hs:base<=w.heap.size)(k:Keep (foot p A) w w'):Step mutD base p w w':=⟨h.belowK k hs,et.of_next h k⟩
theorem Step.one (hg:w.grownBy w' (some g))(hb:Blk w g t cs)(ht:t ∈ M)(hs:base<=g)(hw:base<=w.heap.size):Step M base p w w':=⟨ej (Below.refl _ _) hg hw hs,et.one hg hb ht⟩
theorem Step.size (h:Step M base p w w'):w.heap.size<=w'.heap.size:=h.bel.size
end
section
variable {w:World} {base ga f m:Nat} {p:bw} {D:aX}
theorem s_flush (h:bc w base p D)(hs:base<=w.heap.size):Ca 201 #[.pointer (some ⟨p.d,0,none⟩)] w fun e w'=>e=.returned (I (bu D).2)/\bc w' base p (bu D).1/\Step mutD base p w w':=by
 obtain⟨A,c,h⟩:=h;exact (flush_any h).mono fun e w' ⟨h1,h2⟩=>⟨h1,h2.s,Step.of_next h hs h2⟩
theorem s_cut (h:bc w base p D)(hs:base<=w.heap.size)(n:Int)(hn:n<=9223372036854775807):Ca 42 #[.pointer (some ⟨p.d,0,none⟩),I n] w fun e w'=>e=.returned (.tuple #[])/\bc w' base p { D with cut:=max n (-1) }/\Step mutD base p w w':=by
 obtain⟨A,c,h⟩:=h;exact (cut_any h n hn).mono fun e w' ⟨h1,h2,h3,_⟩=>⟨h1,h2.s,Step.of_keep h hs h3⟩
theorem s_crash (h:bc w base p D)(hs:base<=w.heap.size)(B:Option Addr)(n d:Nat)(cs:List UInt8)(hl:RB w B n cs)(hB:0<n->∀ g,B.map (·.block)=some g->g<base)(hn:n<=maxLen) :
 Ca 43 #[.pointer (some ⟨p.d,0,none⟩),.slice B n d] w fun e w'=>e=.returned (.tuple #[])/\bc w' base p (fC D cs)/\Step mutD base p w w':=by
 obtain⟨A,c,h⟩:=h;exact (crash_any h B n d cs hl (fun h0 g hg e=>by have:=hB h0 g e;have:=h.bs g hg;omega) hn).mono fun e w' ⟨h1,h2⟩=>⟨h1,h2.s,Step.of_next h hs h2⟩
theorem kJ (h:bc w base p D)(hs:base<=w.heap.size)(ha:br w ga p.d f m)(hfm:f+m<=D.many)(n:Int) :
 Ca 162 #[.pointer (some ⟨ga,0,none⟩),I n] w fun e w'=>e=.returned (.tuple #[aggB (bG D f m n).2.1,I (bG D f m n).2.2])/\bc w' base p (bG D f m n).1/\Step mutD base p w w':=by
 obtain⟨A,c,h⟩:=h;exact (aread_any h ha hfm n).mono fun e w' ⟨h1,h2,h3⟩=>⟨h1,h2.s,Step.of_keep h hs h3⟩
theorem s_awrite (h:bc w base p D)(hs:base<=w.heap.size)(ha:br w ga p.d f m)(hfm:f+m<=D.many)(n:Int)(S:List UInt8)(hS:S.length=128)(hw:D.waits.length<1000000) :
 Ca 200 #[.pointer (some ⟨ga,0,none⟩),I n,aggB S] w fun e w'=>e=.returned (I (bC D f m n S).2)/\bc w' base p (bC D f m n S).1/\Step mutD base p w w':=by
 obtain⟨A,c,h⟩:=h;exact (nh h ha hfm n S hS hw hs).mono fun e w' ⟨h1,h2⟩=>⟨h1,h2.s,Step.of_next h hs h2⟩
theorem s_awipe (h:bc w base p D)(hs:base<=w.heap.size)(ha:br w ga p.d f m)(hfm:f+m<=D.many)(n:Int)(hw:D.waits.length<1000000) :
 Ca 198 #[.pointer (some ⟨ga,0,none⟩),I n] w fun e w'=>e=.returned (I (bC D f m n be).2)/\bc w' base p (bC D f m n be).1/\Step mutD base p w w':=by
 obtain⟨A,c,h⟩:=h;exact (awipe_any h ha hfm n hw hs).mono fun e w' ⟨h1,h2⟩=>⟨h1,h2.s,Step.of_next h hs h2⟩
theorem jG (h:bc w base p D)(hs:base<=w.heap.size)(ha:br w ga p.d f m) :
 Ca 116 #[.pointer (some ⟨ga,0,none⟩)] w fun e w'=>e=.returned (I (bu D).2)/\bc w' base p (bu D).1/\Step mutD base p w w':=by
 obtain⟨A,c,h⟩:=h;exact (aflush_any h ha).mono fun e w' ⟨h1,h2⟩=>⟨h1,h2.s,Step.of_next h hs h2⟩
theorem s_aput (h:bc w base p D)(hs:base<=w.heap.size)(ha:br w ga p.d f m)(hfm:f+m<=D.many)(n kind number:Int)(B:Option Addr)(k d:Nat)(l:List UInt8)(hl:RB w B k l)(hk:k<=maxLen)(hnum:number<=9223372036854775807)(hw:D.waits.length<1000000) :
 Ca 115 #[.pointer (some ⟨ga,0,none⟩),I n,I kind,I number,.slice B k d] w fun e w'=>e=.returned (I (cy D f m n kind number l).2)/\bc w' base p (cy D f m n kind number l).1/\Step mutD base p w w':=by
 obtain⟨A,c,h⟩:=h;exact (aput_any (d:=d) h ha hfm n kind number B k l hl hk hnum hw hs).mono fun e w' ⟨h1,h2⟩=>⟨h1,h2.s,Step.of_next h hs h2⟩
theorem s_atake (h:bc w base p D)(hs:base<=w.heap.size)(ha:br w ga p.d f m)(hfm:f+m<=D.many)(n kind:Int) :
 Ca 158 #[.pointer (some ⟨ga,0,none⟩),I n,I kind] w fun e w'=>
  ∃ B k d,e=.returned (.tuple #[I (cN D f m n kind).1,.slice B k d,I (cN D f m n kind).2.2])/\OB w' w.heap.size 5 B k d (cN D f m n kind).2.1/\bc w' base p (bG D f m n).1/\Step mutD base p w w':=by
 obtain⟨A,c,h⟩:=h;exact (atake_any h ha hfm n kind).mono fun e w' ⟨B,k,d,h1,h2,h3,h4⟩=>⟨B,k,d,h1,h2,h3.s,Step.of_keep h hs h4⟩
end
def mutJ:List TypeId:=363 :: mutD
def jrnC (ga:Nat)(kind:Int)(next:Nat):List Value:=[.pointer (some ⟨ga,0,none⟩),I kind,I (next:Int)]
def cV (w:World)(gj ga:Nat)(kind:Int)(next:Nat):Prop:=Blk w gj 363 (jrnC ga kind next)
def fk (D:aX)(f m:Nat)(kind:Int)(next:Nat)(n:Int):aX × List UInt8 × Int :=
 if n<0\/(next:Int)<=n then (D,[],54) else if (cN D f m n kind).2.2≠0 then ((bG D f m n).1,[],(cN D f m n kind).2.2)
 else if (cN D f m n kind).1≠n then ((bG D f m n).1,[],53) else ((bG D f m n).1,(cN D f m n kind).2.1,0)
def cH (D:aX)(f m:Nat)(kind:Int)(next:Nat)(l:List UInt8):aX × Nat × Int × Int :=
 if 113<l.length then (D,next,0,3) else if m=next then (D,next,0,52)
 else if (cy D f m next kind next l).2≠0 then ((cy D f m next kind next l).1,next,0,(cy D f m next kind next l).2)
 else ((cy D f m next kind next l).1,next+1,(next:Int),0)
section
variable {w w':World} {base ga gj f m next:Nat} {kind:Int} {p:bw} {D:aX}
theorem bc.drew (h:bc w base p D):bc w.drew base p D:=by
 obtain⟨A,c,h⟩:=h;exact⟨A,c,h.drewN 1⟩
theorem Step.of_drew {M:List TypeId}(h:Step M base p w.drew w'):Step M base p w w':=by
 obtain⟨hb,F,hF,tF⟩:=h;exact⟨(Below.drew (Below.refl _ _)).trans hb,F,Keep.of_drew hF,tF⟩
theorem kK (h:cV w gj ga kind next):Ca 261 #[.pointer (some ⟨gj,0,none⟩)] w fun e w'=>e=.returned (.bool true)/\w=w':=by
 have c0:=h.c0;clear h;go_enter Tryz.func261,Tryz.ntmps261;go_wp2;go_ret;exact⟨rfl,rfl⟩
theorem kL (h:cV w gj ga kind next):Ca 203 #[.pointer (some ⟨gj,0,none⟩)] w fun e w'=>e=.returned (I (next:Nat))/\w=w':=by
 have c2:=h.c2;have his:=kK h;clear h;go_enter Tryz.func203,Tryz.ntmps203;go_wp2_with (first | (go_at_call 261;go_call (his) as e w1 ⟨rfl,rfl⟩) | fail);go_ret;exact⟨rfl,rfl⟩
theorem jroom_any (h:cV w gj ga kind next)(ha:br w ga p.d f m)(hm:m<=4096)(hn:next<=m):Ca 262 #[.pointer (some ⟨gj,0,none⟩)] w fun e w'=>e=.returned (I ((m:Int) - next))/\∃ q,w'=w.drewN q:=by
 have c0:=h.c0;have c2:=h.c2;have his:=kK h;have hmany:=ic (w:=w.drew) (ga:=ga) (d:=p.d) (f:=f) (m:=m) (Blk.drew ha);clear h ha;go_enter Tryz.func262,Tryz.ntmps262;go_wp2_with (first | (go_at_call 261;go_call (his) as e w1 ⟨rfl,rfl⟩) | fail);go_region_held3 (fun w'=>w'.cell? ⟨gj,0,none⟩=some (.pointer (some ⟨ga,0,none⟩))/\w'.cell? ⟨gj,2,none⟩=some (I (next:Int))) (first | go_keep | (refine⟨?_,?_⟩ <;> assumption)) (first | (go_at_call 113;go_call (hmany) as e w2 ⟨rfl,rfl⟩) | fail);go_wp2;go_ret;exact⟨by first | rfl | exact jf (by first | omega | go_arith),1,rfl⟩
theorem oE (h:cV w gj ga kind next)(hd:bc w base p D)(hs:base<=w.heap.size)(ha:br w ga p.d f m):Ca 207 #[.pointer (some ⟨gj,0,none⟩)] w fun e w'=>e=.returned (I (bu D).2)/\bc w' base p (bu D).1/\Step mutD base p w w':=by
 have c0:=h.c0;have his:=kK h;have hfl:=jG hd hs ha;generalize bu D=R at *;obtain⟨D',z⟩:=R;clear h ha hd;go_enter Tryz.func207,Tryz.ntmps207;go_wp2_with (first | (go_at_call 261;go_call (his) as e w1 ⟨rfl,rfl⟩) | (go_at_call 116;go_call (hfl) as e w2 ⟨rfl,h2,s2⟩) | fail);go_ret;exact⟨rfl,h2,s2⟩
theorem jget_any (h:cV w gj ga kind next)(hd:bc w base p D)(hs:base<=w.heap.size)(ha:br w ga p.d f m)(hfm:f+m<=D.many)(hnm:next<=4096)(n:Int) :
 Ca 252 #[.pointer (some ⟨gj,0,none⟩),I n] w fun e w'=>∃ B k d,e=.returned (.tuple #[.slice B k d,I (fk D f m kind next n).2.2])/\OB w' w.heap.size 5 B k d (fk D f m kind next n).2.1/\bc w' base p (fk D f m kind next n).1/\Step mutD base p w w':=by
 have c0:=h.c0;have c1:=h.c1;have c2:=h.c2;have his:=kK h;unfold fk
 by_cases hn:n<0\/(next:Int)<=n
 · rw[if_pos hn];have hc:n<0\/(0<=n/\(next:Int)<=n):=aS;have HD:=aT hd;clear h hd ha hn;rcases hc with h1 | ⟨h1,h2⟩
   all_goals
    go_enter Tryz.func252,Tryz.ntmps252;go_wp2_with (first | (go_at_call 261;go_call (his) as e w1 ⟨rfl,rfl⟩) | fail);go_ret2;exact⟨none,0,0,rfl,Ow.nil _ _ _ _,HD.out,Step.refl _ _ _ _⟩
 · rw[if_neg hn];have h1:0<=n:=aS;have h2:n<next:=aS;have htk:=s_atake (w:=w.drew) hd.drew hs (Blk.drew ha) hfm n kind;have HJ:=aT h;have HD:=aT hd;clear h hd ha hn;generalize cN D f m n kind=T at *;generalize (bG D f m n).1=D' at *;obtain⟨N,L,er⟩:=T;simp only at htk ⊢
   by_cases her:er=0
   · subst her;rw[if_neg a8]
     by_cases hN:N=n
     · subst hN;rw[if_neg a8];have hne:(N != N)=false:=by simp
       go_enter Tryz.func252,Tryz.ntmps252;go_wp2_with (first | (go_at_call 261;go_call (his) as e w1 ⟨rfl,rfl⟩) | fail);go_region_held3 (fun w'=>w'.cell? ⟨gj,0,none⟩=some (.pointer (some ⟨ga,0,none⟩))/\w'.cell? ⟨gj,1,none⟩=some (I kind)) (first | go_keep | (refine⟨?_,?_⟩ <;> assumption)) (first | ((go_at_call 158;go_call (htk) as e w2 ⟨B,k,d,rfl,o2,h2,s2⟩);have hj2:=HD.out.drew.blk (Blk.drew HJ.out) s2.tch aU;have y0:=hj2.c0;have y1:=hj2.c1) | fail);go_wp2;go_ret2;exact⟨B,k,d,rfl,o2,h2,s2.of_drew⟩
     · rw[if_pos hN];have hne:(N != n)=true:=by rw[ag];exact hN
       go_enter Tryz.func252,Tryz.ntmps252;go_wp2_with (first | (go_at_call 261;go_call (his) as e w1 ⟨rfl,rfl⟩) | fail);go_region_held3 (fun w'=>w'.cell? ⟨gj,0,none⟩=some (.pointer (some ⟨ga,0,none⟩))/\w'.cell? ⟨gj,1,none⟩=some (I kind)) (first | go_keep | (refine⟨?_,?_⟩ <;> assumption)) (first | ((go_at_call 158;go_call (htk) as e w2 ⟨B,k,d,rfl,o2,h2,s2⟩);have hj2:=HD.out.drew.blk (Blk.drew HJ.out) s2.tch aU;have y0:=hj2.c0;have y1:=hj2.c1) | fail);go_wp2;go_ret2;exact⟨none,0,0,rfl,Ow.nil _ _ _ _,h2,s2.of_drew⟩
   · rw[if_pos her];have hne:(er != 0)=true:=by rw[ag];exact her
     have heq:(er == 0)=false:=by rw[ae];exact her
     clear her;go_enter Tryz.func252,Tryz.ntmps252;go_wp2_with (first | (go_at_call 261;go_call (his) as e w1 ⟨rfl,rfl⟩) | fail);go_region_held3 (fun w'=>w'.cell? ⟨gj,0,none⟩=some (.pointer (some ⟨ga,0,none⟩))/\w'.cell? ⟨gj,1,none⟩=some (I kind)) (first | go_keep | (refine⟨?_,?_⟩ <;> assumption)) (first | ((go_at_call 158;go_call (htk) as e w2 ⟨B,k,d,rfl,o2,h2,s2⟩);have hj2:=HD.out.drew.blk (Blk.drew HJ.out) s2.tch aU;have y0:=hj2.c0;have y1:=hj2.c1) | fail);go_wp2;go_ret2;exact⟨none,0,0,rfl,Ow.nil _ _ _ _,h2,s2.of_drew⟩
end
end Go.Proofs.YtmeebofhlilcmaaGreat
