/- Parts: DiskK, AreaC, Step, JrnA. -/
import Derived.Test.YtmeebofhlilcmaaGreatPr15
set_option linter.unusedVariables false
set_option linter.unusedSimpArgs false
set_option maxRecDepth 100000
set_option maxHeartbeats 0
namespace Go.Proofs.YtmeebofhlilcmaaGreat
variable {g d:Nat} {t:TypeId} {cs:List Value}
open Go.RowKit
def cx (D:aW)(f m:Nat)(n kind number:Int)(load:List UInt8):aW × Int:=if (fA kind number load).2≠0 then (D,(fA kind number load).2) else bJ D f m n (fA kind number load).1
def eh (S:List UInt8)(kind:Int):Int × List UInt8 × Int:=if eK S kind then (sg (ej S),eV S,0) else (0,[],53)
def cL (D:aW)(f m:Nat)(n kind:Int):Int × List UInt8 × Int:=if (bN D f m n).2.2≠0 then (0,[],(bN D f m n).2.2) else eh (bN D f m n).2.1 kind
section
variable {w w':World} {base ga f m:Nat} {p:bB} {A:Option Addr} {c:Nat} {D D':aW}
theorem eA.of_below {w1:World}(hb:Below w.heap.size w w1)(h:eA w1 base p A D' w'):eA w base p A D' w':=by
 obtain⟨A',c',h1,k,n⟩:=h;exact⟨A',c',h1,(Keep.of_below hb).trans k (fun _ _ e=>e),fun g e=>by rcases n g e with q | q;exact .inl q;exact .inr j8⟩
theorem awipe_any (h:bC w base p A c D)(ha:bD w ga p.d f m)(hfm:f+m<=D.many)(n:Int)(hw:D.waits.length<1000000)(hbase:base<=w.heap.size) :
 Ca 198 #[.pointer (some ⟨ga,0,none⟩),I n] w fun e w'=>e=.returned (I (bJ D f m n br).2)/\eA w base p A (bJ D f m n br).1 w':=by
 have he:aggB br=.agg Tryz.zeroCells205:=by kernel_rfl
 have hwr:=nE h ha hfm n br dJ hw hbase;rw[he] at hwr;generalize (bJ D f m n br).1=D' at *;generalize (bJ D f m n br).2=z at *;clear h ha he;go_enter Tryz.func198,Tryz.ntmps198;go_wp2_with (first | (go_at_call 200;go_call (hwr) as e w1 ⟨rfl,hN⟩) | fail);go_ret;exact⟨rfl,hN⟩
theorem aflush_any (h:bC w base p A c D)(ha:bD w ga p.d f m) :
 Ca 116 #[.pointer (some ⟨ga,0,none⟩)] w fun e w'=>e=.returned (I (bG D).2)/\eA w base p A (bG D).1 w':=by
 have hfl:=flush_any h;have c0:=ha.c0;generalize (bG D).1=D' at *;generalize (bG D).2=z at *;clear h ha;go_enter Tryz.func116,Tryz.ntmps116;go_wp2_with (first | (go_at_call 201;go_call (hfl) as e w1 ⟨rfl,hN⟩) | fail);go_ret;exact⟨rfl,hN⟩
theorem aput_any (h:bC w base p A c D)(ha:bD w ga p.d f m)(hfm:f+m<=D.many)(n kind number:Int)(B:Option Addr)(k d:Nat)(l:List UInt8)(hl:RB w B k l)(hk:k<=maxLen)(hnum:number<=9223372036854775807)(hw:D.waits.length<1000000)(hbase:base<=w.heap.size) :
 Ca 115 #[.pointer (some ⟨ga,0,none⟩),I n,I kind,I number,.slice B k d] w fun e w'=>e=.returned (I (cx D f m n kind number l).2)/\eA w base p A (cx D f m n kind number l).1 w':=by
 have hz:=(zero_of_info dm).1;have Hi:=aT (zero_of_info dm).2;have hlz:Hid ((br.map bv).length=128):=by show _=_;simp[dJ]
 have hmk:=make_any kind number B k d l w hnum hk hl;have hml:=makeL_len kind number l;have c0:=ha.c0;have H:=aT h;have HA:=aT ha;unfold cx;have hwr:=fun w' (hb:Below w.heap.size w w')=>nE (h.below hb) (ha.below hb) hfm n (fA kind number l).1 hml hw j8
 have hsl:Hid (((fA kind number l).1.map bv).length=128):=by show _=_;rw[ax,hml]
 have hsm:=aT (ew (l:=(fA kind number l).1));generalize fA kind number l=M at *;obtain⟨S,z⟩:=M;simp only at hmk hml hwr hsl hsm ⊢
 by_cases hzz:z=0
 · rw[if_neg aS];subst hzz;have hne:((0:Int) != 0)=false:=rfl;generalize bJ D f m n S=RR at *;obtain⟨D',z⟩:=RR;simp only at hwr ⊢;unfold aggB at *;generalize S.map bv=SV at *;generalize br.map bv=Z at *;clear h ha hml;go_enter Tryz.func115,Tryz.ntmps115;go_wp2_with (first | ((go_at_call 199;go_call (hmk) as e w1 ⟨rfl,hb1⟩);have s1:=hb1.size) | (refine ev rfl (x:=.tmp 11) (y:=.tmp 27) rfl rfl rfl (t:=205) (cs:=Z) (xs:=SV) (Blk.top _ rfl rfl) Hi.out hsl.out gd hsm.out ?_;intro w2 hb2 hg2 hs2;rw[dR _ _ (hlz.out.trans hsl.out.symm)] at hb2;have b2:=eu (hb1.alloc s1 _) hg2 cH s1) | (refine ff rfl (x:=.tmp 11) rfl rfl hb2 Tryz.underlying205 Hi.out hsl.out fP ?_) | (go_at_call 200;go_call (hwr _ b2) as e w3 ⟨rfl,hN⟩) | fail);go_ret;exact⟨rfl,hN.of_below b2⟩
 · rw[if_pos hzz];have hne:(z != 0)=true:=by rw[ah];exact hzz
   unfold aggB at *;generalize S.map bv=SV at *;generalize br.map bv=Z at *;clear h ha hml hwr hzz;go_enter Tryz.func115,Tryz.ntmps115;go_wp2_with (first | ((go_at_call 199;go_call (hmk) as e w1 ⟨rfl,hb1⟩);have s1:=hb1.size) | (refine ev rfl (x:=.tmp 11) (y:=.tmp 27) rfl rfl rfl (t:=205) (cs:=Z) (xs:=SV) (Blk.top _ rfl rfl) Hi.out hsl.out gd hsm.out ?_;intro w2 hb2 hg2 hs2;rw[dR _ _ (hlz.out.trans hsl.out.symm)] at hb2;have b2:=eu (hb1.alloc s1 _) hg2 cH s1) | fail);go_ret;exact⟨rfl,eA.same H.out b2⟩
theorem open_v (S:List UInt8)(kind:Int)(w:World)(hl:S.length=128):Ca 163 #[aggB S,I kind] w fun e w'=>
 ∃ B k d,e=.returned (.tuple #[I (eh S kind).1,.slice B k d,I (eh S kind).2.2])/\OB w' w.heap.size 5 B k d (eh S kind).2.1/\Below w.heap.size w w':=by
 refine (open_any S kind w hl).mono fun e w' hE=>?_
 unfold eh;rcases hE with ⟨hq,he,hb⟩ | ⟨hq,B,d,he,ho,hb⟩
 · rw[hq,if_neg aZ];exact⟨none,0,0,he,Ow.nil _ _ _ _,hb⟩
 · rw[hq,if_pos rfl];exact⟨B,_,d,he,ho,hb⟩
theorem atake_any (h:bC w base p A c D)(ha:bD w ga p.d f m)(hfm:f+m<=D.many)(n kind:Int) :
 Ca 158 #[.pointer (some ⟨ga,0,none⟩),I n,I kind] w fun e w'=>
  ∃ B k d,e=.returned (.tuple #[I (cL D f m n kind).1,.slice B k d,I (cL D f m n kind).2.2])/\OB w' w.heap.size 5 B k d (cL D f m n kind).2.1/\bC w' base p A c (bN D f m n).1/\Keep (foot p A) w w':=by
 have hz:=(zero_of_info dm).1;have Hi:=aT (zero_of_info dm).2;have hlz:Hid ((br.map bv).length=128):=by show _=_;simp[dJ]
 have hrd:=aread_any h ha hfm n;have hl:=aReadV_len (f:=f) (m:=m) h.ok n;have hl4:=aT (fun g hg=>h.lt g hg);unfold cL;generalize bN D f m n=RR at *;obtain⟨D',S,z⟩:=RR;simp only at hrd hl ⊢;have hop:=fun w=>open_v S kind w hl
 have hsl:Hid ((S.map bv).length=128):=by show _=_;rw[ax,hl]
 have hsm:=aT (ew (l:=S))
 by_cases hzz:z=0
 · rw[if_neg aS];subst hzz;generalize eh S kind=OV at *;obtain⟨N,L,er⟩:=OV;simp only at hop ⊢;unfold aggB at *;generalize S.map bv=SV at *;generalize br.map bv=Z at *;clear h ha hl;go_enter Tryz.func158,Tryz.ntmps158;go_wp2_with (first | ((go_at_call 162;go_call (hrd) as e w1 ⟨rfl,h1,k1⟩);have s1:=k1.size;have H1:=aT h1;clear h1) | (refine ev rfl (x:=.tmp 9) (y:=.tmp 14) rfl rfl rfl (t:=205) (cs:=Z) (xs:=SV) (Blk.top _ rfl rfl) Hi.out hsl.out gd hsm.out ?_;intro w2 hb2 hg2 hs2;rw[dR _ _ (hlz.out.trans hsl.out.symm)] at hb2;have b2:=eu ((Below.refl w1.heap.size w1).alloc aX _) hg2 bq bq;have s2:=b2.size) | (refine ff rfl (x:=.tmp 9) rfl rfl hb2 Tryz.underlying205 Hi.out hsl.out fP ?_) | (go_at_call 163;go_call (hop _) as e w3 ⟨B3,k3,d3,rfl,o3,b3⟩) | fail);go_ret3;have b13:=b2.trans (b3.mono s2);exact⟨B3,k3,d3,rfl,o3.rebase aS,H1.out.below b13,k1.then_below b13⟩
 · rw[if_pos hzz];have hne:(z != 0)=true:=by rw[ah];exact hzz
   unfold aggB at *;generalize S.map bv=SV at *;generalize br.map bv=Z at *;clear h ha hl hop hzz;go_enter Tryz.func158,Tryz.ntmps158;go_wp2_with (first | ((go_at_call 162;go_call (hrd) as e w1 ⟨rfl,h1,k1⟩);have s1:=k1.size;have H1:=aT h1;clear h1) | (refine ev rfl (x:=.tmp 9) (y:=.tmp 14) rfl rfl rfl (t:=205) (cs:=Z) (xs:=SV) (Blk.top _ rfl rfl) Hi.out hsl.out gd hsm.out ?_;intro w2 hb2 hg2 hs2;rw[dR _ _ (hlz.out.trans hsl.out.symm)] at hb2;have b2:=eu ((Below.refl w1.heap.size w1).alloc aX _) hg2 bq bq;have s2:=b2.size) | fail);go_ret3;exact⟨none,0,0,rfl,Ow.nil _ _ _ _,H1.out.below b2,k1.then_below b2⟩
theorem anew_ok (h:bC w base p A c D)(f m:Nat)(h1:1<=m)(h2:f+m<=D.many) :
 Ca 109 #[.pointer (some ⟨p.d,0,none⟩),.agg #[I (f:Int),I (m:Int)]] w fun e w'=>∃ ga,e=.returned (.tuple #[.pointer (some ⟨ga,0,none⟩),I 0])/\bD w' ga p.d f m/\w.heap.size<=ga/\Below w.heap.size w w':=by
 have hs:=fun o=>nu (h.alloc o)
 have hm:=h.ok.many1;generalize D.many=many at *;clear h;unfold bD;go_enter Tryz.func109,Tryz.ntmps109;go_wp2_with (first | (go_at_call 48;go_call (hs _) as e w1 ⟨rfl,rfl⟩) | fail);go_ret2;exact⟨w.heap.size+1,by simp,bH,aS,ba⟩
end
def mutD:List TypeId:=[198,205,300,207]
def es (M:List TypeId)(p:bB)(w w':World):Prop:=∃ F:Nat->Prop,Keep F w w'/\∀ g t cs,F g->Blk w g t cs->t ∈ M\/g=p.gi\/g=p.gm
structure Step (M:List TypeId)(base:Nat)(p:bB)(w w':World):Prop where
 bel:Below base w w'
 tch:es M p w w'
section
variable {M N:List TypeId} {w w' w'':World} {base:Nat} {p:bB} {A:Option Addr} {c:Nat} {D D':aW}
theorem es.of_below (hb:Below w.heap.size w w'):es M p w w':=⟨fun _=>False,Keep.of_below hb,fun _ _ _ h=>h.elim⟩
theorem es.refl (M:List TypeId)(p:bB)(w:World):es M p w w:=es.of_below (Below.refl _ _)
theorem es.trans (h:es M p w w')(k:es M p w' w''):es M p w w'':=by
 obtain⟨F,hF,tF⟩:=h;obtain⟨G,hG,tG⟩:=k;refine⟨fun g=>F g\/G g,(hF.mono (fun g _ e=>.inl e)).trans hG (fun g _ e=>.inr e),fun g t cs hfg hb=>?_⟩
 by_cases hf:F g
 · exact tF g t cs hf hb
 · rcases hfg with e | e
   · exact absurd e hf
   · exact tG g t cs e (hb.keep hF hf)
theorem es.of_next (h:bC w base p A c D)(k:Keep (foot p A) w w'):es mutD p w w':=⟨foot p A,k,fun g t cs hg hb=>by
 by_cases h1:g=p.gi
 · exact .inr (.inl h1)
 by_cases h2:g=p.gm
 · exact .inr (.inr h2)
 left
 rcases h.foot_ty hb hg with q | q | q | q | q
 · subst q;decide
 · subst q;decide
 · subst q;have hne:∀ {g':Nat} {t':TypeId} {cs':List Value},Blk w g' t' cs'->4≠t'->g≠g':=fun hb' hn=>hb.ne_ hb' hn
   rcases hg with e | e | e | e | e | e | e
   · exact absurd e (hne h.st aU)
   · exact absurd e (hne h.bk aU)
   · exact absurd e (hne h.bn aU)
   · exact absurd e h1
   · exact absurd e h2
   · exact absurd e (hne h.mt.2 aU)
   · exfalso
     rcases h.wa.2 with ⟨hv,_⟩ | ⟨g',cap,cur,hv,_,hh,_⟩
     · injection hv with hv;subst hv;cases e
     · injection hv with hv;subst hv;simp only[Option.map_some,Option.some.injEq] at e;exact hne (g':=g') (t':=207) (cs':=cur.toList) (by unfold Blk;rw[hh]) aU e.symm
 · subst q;decide
 · subst q;decide⟩
theorem es.one (hg:w.grownBy w' (some g))(hb:Blk w g t cs)(ht:t ∈ M):es M p w w':=⟨(·=g),Keep.one hg,fun g' t' cs' e hb'=>by
 subst e
 by_cases q:t'=t
 · subst q;exact .inl ht
 · exact absurd rfl (hb'.ne_ hb q)⟩
theorem Blk.touch (h:Blk w g t cs)(k:es M p w w')(ht:t ∉ M)(h1:g≠p.gi)(h2:g≠p.gm):Blk w' g t cs:=by
 obtain⟨F,hF,tF⟩:=k;refine h.keep hF (fun e=>?_);rcases tF g t cs e h with q | q | q
 · exact ht q
 · exact h1 q
 · exact h2 q
theorem bc.notBool (h:bc w base p D)(hb:Blk w g t cs)(ht:t≠4):g≠p.gi/\g≠p.gm:=by
 obtain⟨A,c,h⟩:=h;exact⟨hb.ne_ h.bi ht,hb.ne_ h.bm ht⟩
theorem bc.blk (h:bc w base p D)(hb:Blk w g t cs)(k:es M p w w')(ht:t ∉ 4 :: M):Blk w' g t cs:=by
 obtain⟨h1,h2⟩:=h.notBool hb (fun e=>ht mO);exact hb.touch k (fun e=>ht (aA _ e)) h1 h2
theorem bc.area (h:bc w base p D){ga f m:Nat}(ha:bD w ga d f m)(k:es M p w w')(ht:289 ∉ 4 :: M):bD w' ga d f m:=h.blk ha k ht
theorem bc.ow {α:Type}{enc:α->Value}{b n:Nat}{e:TypeId}{B:Option Addr}{l:List α}(h:bc w base p D)(ho:Ow enc w b e B n d l)(k:es M p w w')(ht:e ∉ 4 :: M):Ow enc w' b e B n d l:=by
 obtain⟨F,hF,tF⟩:=k;refine⟨ho.1,gG ho.2 hF (fun g hg hf=>?_)⟩;rcases ho.2.2 with ⟨hv,_⟩ | ⟨g',cap,cur,hv,_,hh,_⟩
 · rw[hv] at hg;cases hg
 · rw[hv] at hg;have:g'=g:=by simpa [Value.ownBlock] using hg
   subst this;have hb:Blk w g' e cur.toList:=by unfold Blk;rw[hh]
   obtain⟨h1,h2⟩:=h.notBool hb (fun e=>ht mO);rcases tF _ _ _ hf hb with q | q | q
   · exact ht (aA _ q)
   · exact h1 q
   · exact h2 q
theorem bc.ob {b n:Nat}{B:Option Addr}{l:List UInt8}(h:bc w base p D)(ho:OB w b 5 B n d l)(k:es M p w w')(ht:5 ∉ 4 :: M):OB w' b 5 B n d l:=h.ow ho k ht
theorem es.mono (h:es M p w w')(hs:∀ t,t ∈ M->t ∈ N):es N p w w':=by
 obtain⟨F,hF,tF⟩:=h;exact⟨F,hF,fun g t cs e hb=>by rcases tF g t cs e hb with q | q;exact .inl (hs t q);exact .inr q⟩
theorem Step.mono (h:Step M base p w w')(hs:∀ t,t ∈ M->t ∈ N):Step N base p w w':=⟨h.bel,h.tch.mono hs⟩
theorem Step.refl (M:List TypeId)(base:Nat)(p:bB)(w:World):Step M base p w w:=⟨Below.refl _ _,es.refl _ _ _⟩
theorem Step.of_below (hb:Below w.heap.size w w')(hs:base<=w.heap.size):Step M base p w w':=⟨hb.mono hs,es.of_below hb⟩
theorem Step.trans (h:Step M base p w w')(k:Step M base p w' w''):Step M base p w w'':=⟨h.bel.trans k.bel,h.tch.trans k.tch⟩
theorem Step.of_next (h:bC w base p A c D)(hs:base<=w.heap.size)(hN:eA w base p A D' w'):Step mutD base p w w':=by
 obtain⟨A',c',h1,k,_⟩:=hN;exact⟨h.belowK k hs,es.of_next h k⟩
theorem Step.of_keep (h:bC w base p A c D)(hs:base<=w.heap.size)(k:Keep (foot p A) w w'):Step mutD base p w w':=⟨h.belowK k hs,es.of_next h k⟩
theorem Step.one (hg:w.grownBy w' (some g))(hb:Blk w g t cs)(ht:t ∈ M)(hs:base<=g)(hw:base<=w.heap.size):Step M base p w w':=⟨eu (Below.refl _ _) hg hw hs,es.one hg hb ht⟩
theorem Step.size (h:Step M base p w w'):w.heap.size<=w'.heap.size:=h.bel.size
end
section
variable {w:World} {base ga f m:Nat} {p:bB} {D:aW}
theorem s_cut (h:bc w base p D)(hs:base<=w.heap.size)(n:Int)(hn:n<=9223372036854775807):Ca 42 #[.pointer (some ⟨p.d,0,none⟩),I n] w fun e w'=>e=.returned (.tuple #[])/\bc w' base p { D with cut:=max n (-1) }/\Step mutD base p w w':=by
 obtain⟨A,c,h⟩:=h;exact (cut_any h n hn).mono fun e w' ⟨h1,h2,h3,_⟩=>⟨h1,h2.s,Step.of_keep h hs h3⟩
theorem s_crash (h:bc w base p D)(hs:base<=w.heap.size)(B:Option Addr)(n d:Nat)(cs:List UInt8)(hl:RB w B n cs)(hB:0<n->∀ g,B.map (·.block)=some g->g<base)(hn:n<=maxLen) :
 Ca 43 #[.pointer (some ⟨p.d,0,none⟩),.slice B n d] w fun e w'=>e=.returned (.tuple #[])/\bc w' base p (fM D cs)/\Step mutD base p w w':=by
 obtain⟨A,c,h⟩:=h;exact (crash_any h B n d cs hl (fun h0 g hg e=>by have:=hB h0 g e;have:=h.bs g hg;omega) hn).mono fun e w' ⟨h1,h2⟩=>⟨h1,h2.s,Step.of_next h hs h2⟩
theorem kR (h:bc w base p D)(hs:base<=w.heap.size)(ha:bD w ga p.d f m)(hfm:f+m<=D.many)(n:Int) :
 Ca 162 #[.pointer (some ⟨ga,0,none⟩),I n] w fun e w'=>e=.returned (.tuple #[aggB (bN D f m n).2.1,I (bN D f m n).2.2])/\bc w' base p (bN D f m n).1/\Step mutD base p w w':=by
 obtain⟨A,c,h⟩:=h;exact (aread_any h ha hfm n).mono fun e w' ⟨h1,h2,h3⟩=>⟨h1,h2.s,Step.of_keep h hs h3⟩
theorem s_awrite (h:bc w base p D)(hs:base<=w.heap.size)(ha:bD w ga p.d f m)(hfm:f+m<=D.many)(n:Int)(S:List UInt8)(hS:S.length=128)(hw:D.waits.length<1000000) :
 Ca 200 #[.pointer (some ⟨ga,0,none⟩),I n,aggB S] w fun e w'=>e=.returned (I (bJ D f m n S).2)/\bc w' base p (bJ D f m n S).1/\Step mutD base p w w':=by
 obtain⟨A,c,h⟩:=h;exact (nE h ha hfm n S hS hw hs).mono fun e w' ⟨h1,h2⟩=>⟨h1,h2.s,Step.of_next h hs h2⟩
theorem s_awipe (h:bc w base p D)(hs:base<=w.heap.size)(ha:bD w ga p.d f m)(hfm:f+m<=D.many)(n:Int)(hw:D.waits.length<1000000) :
 Ca 198 #[.pointer (some ⟨ga,0,none⟩),I n] w fun e w'=>e=.returned (I (bJ D f m n br).2)/\bc w' base p (bJ D f m n br).1/\Step mutD base p w w':=by
 obtain⟨A,c,h⟩:=h;exact (awipe_any h ha hfm n hw hs).mono fun e w' ⟨h1,h2⟩=>⟨h1,h2.s,Step.of_next h hs h2⟩
theorem jH (h:bc w base p D)(hs:base<=w.heap.size)(ha:bD w ga p.d f m) :
 Ca 116 #[.pointer (some ⟨ga,0,none⟩)] w fun e w'=>e=.returned (I (bG D).2)/\bc w' base p (bG D).1/\Step mutD base p w w':=by
 obtain⟨A,c,h⟩:=h;exact (aflush_any h ha).mono fun e w' ⟨h1,h2⟩=>⟨h1,h2.s,Step.of_next h hs h2⟩
theorem s_aput (h:bc w base p D)(hs:base<=w.heap.size)(ha:bD w ga p.d f m)(hfm:f+m<=D.many)(n kind number:Int)(B:Option Addr)(k d:Nat)(l:List UInt8)(hl:RB w B k l)(hk:k<=maxLen)(hnum:number<=9223372036854775807)(hw:D.waits.length<1000000) :
 Ca 115 #[.pointer (some ⟨ga,0,none⟩),I n,I kind,I number,.slice B k d] w fun e w'=>e=.returned (I (cx D f m n kind number l).2)/\bc w' base p (cx D f m n kind number l).1/\Step mutD base p w w':=by
 obtain⟨A,c,h⟩:=h;exact (aput_any (d:=d) h ha hfm n kind number B k l hl hk hnum hw hs).mono fun e w' ⟨h1,h2⟩=>⟨h1,h2.s,Step.of_next h hs h2⟩
theorem s_atake (h:bc w base p D)(hs:base<=w.heap.size)(ha:bD w ga p.d f m)(hfm:f+m<=D.many)(n kind:Int) :
 Ca 158 #[.pointer (some ⟨ga,0,none⟩),I n,I kind] w fun e w'=>
  ∃ B k d,e=.returned (.tuple #[I (cL D f m n kind).1,.slice B k d,I (cL D f m n kind).2.2])/\OB w' w.heap.size 5 B k d (cL D f m n kind).2.1/\bc w' base p (bN D f m n).1/\Step mutD base p w w':=by
 obtain⟨A,c,h⟩:=h;exact (atake_any h ha hfm n kind).mono fun e w' ⟨B,k,d,h1,h2,h3,h4⟩=>⟨B,k,d,h1,h2,h3.s,Step.of_keep h hs h4⟩
end
def mutJ:List TypeId:=363 :: mutD
def jrnC (ga:Nat)(kind:Int)(next:Nat):List Value:=[.pointer (some ⟨ga,0,none⟩),I kind,I (next:Int)]
def cZ (w:World)(gj ga:Nat)(kind:Int)(next:Nat):Prop:=Blk w gj 363 (jrnC ga kind next)
def fq (D:aW)(f m:Nat)(kind:Int)(next:Nat)(n:Int):aW × List UInt8 × Int :=
 if n<0\/(next:Int)<=n then (D,[],54) else if (cL D f m n kind).2.2≠0 then ((bN D f m n).1,[],(cL D f m n kind).2.2)
 else if (cL D f m n kind).1≠n then ((bN D f m n).1,[],53) else ((bN D f m n).1,(cL D f m n kind).2.1,0)
def cM (D:aW)(f m:Nat)(kind:Int)(next:Nat)(l:List UInt8):aW × Nat × Int × Int :=
 if 113<l.length then (D,next,0,3) else if m=next then (D,next,0,52)
 else if (cx D f m next kind next l).2≠0 then ((cx D f m next kind next l).1,next,0,(cx D f m next kind next l).2)
 else ((cx D f m next kind next l).1,next+1,(next:Int),0)
section
variable {w w':World} {base ga gj f m next:Nat} {kind:Int} {p:bB} {D:aW}
theorem bc.drew (h:bc w base p D):bc w.drew base p D:=by
 obtain⟨A,c,h⟩:=h;exact⟨A,c,h.drewN 1⟩
theorem Step.of_drew {M:List TypeId}(h:Step M base p w.drew w'):Step M base p w w':=by
 obtain⟨hb,F,hF,tF⟩:=h;exact⟨(Below.drew (Below.refl _ _)).trans hb,F,Keep.of_drew hF,tF⟩
theorem kT (h:cZ w gj ga kind next):Ca 261 #[.pointer (some ⟨gj,0,none⟩)] w fun e w'=>e=.returned (.bool true)/\w=w':=by
 have c0:=h.c0;clear h;go_enter Tryz.func261,Tryz.ntmps261;go_wp2;go_ret;exact⟨rfl,rfl⟩
theorem kU (h:cZ w gj ga kind next):Ca 203 #[.pointer (some ⟨gj,0,none⟩)] w fun e w'=>e=.returned (I (next:Nat))/\w=w':=by
 have c2:=h.c2;have his:=kT h;clear h;go_enter Tryz.func203,Tryz.ntmps203;go_wp2_with (first | (go_at_call 261;go_call (his) as e w1 ⟨rfl,rfl⟩) | fail);go_ret;exact⟨rfl,rfl⟩
theorem jroom_any (h:cZ w gj ga kind next)(ha:bD w ga p.d f m)(hm:m<=4096)(hn:next<=m):Ca 262 #[.pointer (some ⟨gj,0,none⟩)] w fun e w'=>e=.returned (I ((m:Int) - next))/\∃ q,w'=w.drewN q:=by
 have c0:=h.c0;have c2:=h.c2;have his:=kT h;have hmany:=im (w:=w.drew) (ga:=ga) (d:=p.d) (f:=f) (m:=m) (Blk.drew ha);clear h ha;go_enter Tryz.func262,Tryz.ntmps262;go_wp2_with (first | (go_at_call 261;go_call (his) as e w1 ⟨rfl,rfl⟩) | fail);go_region_held3 (fun w'=>w'.cell? ⟨gj,0,none⟩=some (.pointer (some ⟨ga,0,none⟩))/\w'.cell? ⟨gj,2,none⟩=some (I (next:Int))) (first | go_keep | (refine⟨?_,?_⟩ <;> assumption)) (first | (go_at_call 113;go_call (hmany) as e w2 ⟨rfl,rfl⟩) | fail);go_wp2;go_ret;exact⟨by first | rfl | exact ret_int (by first | omega | go_arith),1,rfl⟩
theorem pu (h:cZ w gj ga kind next)(hd:bc w base p D)(hs:base<=w.heap.size)(ha:bD w ga p.d f m):Ca 207 #[.pointer (some ⟨gj,0,none⟩)] w fun e w'=>e=.returned (I (bG D).2)/\bc w' base p (bG D).1/\Step mutD base p w w':=by
 have c0:=h.c0;have his:=kT h;have hfl:=jH hd hs ha;generalize bG D=R at *;obtain⟨D',z⟩:=R;clear h ha hd;go_enter Tryz.func207,Tryz.ntmps207;go_wp2_with (first | (go_at_call 261;go_call (his) as e w1 ⟨rfl,rfl⟩) | (go_at_call 116;go_call (hfl) as e w2 ⟨rfl,h2,s2⟩) | fail);go_ret;exact⟨rfl,h2,s2⟩
theorem jget_any (h:cZ w gj ga kind next)(hd:bc w base p D)(hs:base<=w.heap.size)(ha:bD w ga p.d f m)(hfm:f+m<=D.many)(hnm:next<=4096)(n:Int) :
 Ca 252 #[.pointer (some ⟨gj,0,none⟩),I n] w fun e w'=>∃ B k d,e=.returned (.tuple #[.slice B k d,I (fq D f m kind next n).2.2])/\OB w' w.heap.size 5 B k d (fq D f m kind next n).2.1/\bc w' base p (fq D f m kind next n).1/\Step mutD base p w w':=by
 have c0:=h.c0;have c1:=h.c1;have c2:=h.c2;have his:=kT h;unfold fq
 by_cases hn:n<0\/(next:Int)<=n
 · rw[if_pos hn];have hc:n<0\/(0<=n/\(next:Int)<=n):=aS;have HD:=aT hd;clear h hd ha hn;rcases hc with h1 | ⟨h1,h2⟩
   all_goals
    go_enter Tryz.func252,Tryz.ntmps252;go_wp2_with (first | (go_at_call 261;go_call (his) as e w1 ⟨rfl,rfl⟩) | fail);go_ret2;exact⟨none,0,0,rfl,Ow.nil _ _ _ _,HD.out,Step.refl _ _ _ _⟩
 · rw[if_neg hn];have h1:0<=n:=aS;have h2:n<next:=aS;have htk:=s_atake (w:=w.drew) hd.drew hs (Blk.drew ha) hfm n kind;have HJ:=aT h;have HD:=aT hd;clear h hd ha hn;generalize cL D f m n kind=T at *;generalize (bN D f m n).1=D' at *;obtain⟨N,L,er⟩:=T;simp only at htk ⊢
   by_cases her:er=0
   · subst her;rw[if_neg aZ]
     by_cases hN:N=n
     · subst hN;rw[if_neg aZ];have hne:(N != N)=false:=by simp
       go_enter Tryz.func252,Tryz.ntmps252;go_wp2_with (first | (go_at_call 261;go_call (his) as e w1 ⟨rfl,rfl⟩) | fail);go_region_held3 (fun w'=>w'.cell? ⟨gj,0,none⟩=some (.pointer (some ⟨ga,0,none⟩))/\w'.cell? ⟨gj,1,none⟩=some (I kind)) (first | go_keep | (refine⟨?_,?_⟩ <;> assumption)) (first | ((go_at_call 158;go_call (htk) as e w2 ⟨B,k,d,rfl,o2,h2,s2⟩);have hj2:=HD.out.drew.blk (Blk.drew HJ.out) s2.tch aU;have y0:=hj2.c0;have y1:=hj2.c1) | fail);go_wp2;go_ret2;exact⟨B,k,d,rfl,o2,h2,s2.of_drew⟩
     · rw[if_pos hN];have hne:(N != n)=true:=by rw[ah];exact hN
       go_enter Tryz.func252,Tryz.ntmps252;go_wp2_with (first | (go_at_call 261;go_call (his) as e w1 ⟨rfl,rfl⟩) | fail);go_region_held3 (fun w'=>w'.cell? ⟨gj,0,none⟩=some (.pointer (some ⟨ga,0,none⟩))/\w'.cell? ⟨gj,1,none⟩=some (I kind)) (first | go_keep | (refine⟨?_,?_⟩ <;> assumption)) (first | ((go_at_call 158;go_call (htk) as e w2 ⟨B,k,d,rfl,o2,h2,s2⟩);have hj2:=HD.out.drew.blk (Blk.drew HJ.out) s2.tch aU;have y0:=hj2.c0;have y1:=hj2.c1) | fail);go_wp2;go_ret2;exact⟨none,0,0,rfl,Ow.nil _ _ _ _,h2,s2.of_drew⟩
   · rw[if_pos her];have hne:(er != 0)=true:=by rw[ah];exact her
     have heq:(er == 0)=false:=by rw[af];exact her
     clear her;go_enter Tryz.func252,Tryz.ntmps252;go_wp2_with (first | (go_at_call 261;go_call (his) as e w1 ⟨rfl,rfl⟩) | fail);go_region_held3 (fun w'=>w'.cell? ⟨gj,0,none⟩=some (.pointer (some ⟨ga,0,none⟩))/\w'.cell? ⟨gj,1,none⟩=some (I kind)) (first | go_keep | (refine⟨?_,?_⟩ <;> assumption)) (first | ((go_at_call 158;go_call (htk) as e w2 ⟨B,k,d,rfl,o2,h2,s2⟩);have hj2:=HD.out.drew.blk (Blk.drew HJ.out) s2.tch aU;have y0:=hj2.c0;have y1:=hj2.c1) | fail);go_wp2;go_ret2;exact⟨none,0,0,rfl,Ow.nil _ _ _ _,h2,s2.of_drew⟩
end
end Go.Proofs.YtmeebofhlilcmaaGreat
