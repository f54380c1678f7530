/- Parts: DiskK, AreaC, Step, JrnA. -/
import Derived.Test.YtmeebofhlilcmaaGreatPr10
import Derived.Test.YtmeebofhlilcmaaGreatPr02
import Derived.Test.YtmeebofhlilcmaaGreatPr15
import Derived.Deep.RegionHeld3
set_option linter.unusedVariables false
set_option linter.unusedSimpArgs false
set_option maxRecDepth 100000
set_option maxHeartbeats 40000000
namespace Go.Proofs.YtmeebofhlilcmaaGreat
open Go.RowKit
section
variable {w:World} {d:Option Addr}
theorem nsize_any (h:NoDisk w d):Calls Tryz.prog 48 #[.pointer d] w fun e w' => e=.returned (.int .i64 0)∧w=w':=by
  have his:=is_no w d h;clear h;go_enter Tryz.func48,Tryz.ntmps48;go_wp2_with (go_at_call 131;(with_reducible refine (his).mono ?_);rintro e w1 ⟨rfl,rfl⟩);go_ret;exact ⟨rfl,rfl⟩
end
def qh1 (D:qa1) (f m:Nat) (n kind number:Int) (load:List UInt8):qa1 × Int:=if (qz1 kind number load).2≠0 then (D,(qz1 kind number load).2) else qa9 D f m n (qz1 kind number load).1
def qq7 (S:List UInt8) (kind:Int):Int × List UInt8 × Int:=if qs0 S kind then (sg (qg0 S),qg6 S,0) else (0,[],53)
def qe5 (D:qa1) (f m:Nat) (n kind:Int):Int × List UInt8 × Int:=if (qb4 D f m n).2.2≠0 then (0,[],(qb4 D f m n).2.2) else qq7 (qb4 D f m n).2.1 kind
section
variable {w w':World} {base ga f m:Nat} {p:qb9} {A:Option Addr} {c:Nat} {D D':qa1}
theorem qe9.of_below {w1:World} (hb:Below w.heap.size w w1) (h:qe9 w1 base p A D' w'):qe9 w base p A D' w':=by
  obtain ⟨A',c',h1,k,n⟩:=h;exact ⟨A',c',h1,(Keep.of_below hb).trans k (fun _ _ e => e),fun g e => by rcases n g e with q | q;exact .inl q;exact .inr (by have:=hb.size;omega)⟩
theorem awipe_any (h:qa7 w base p A c D) (ha:qa8 w ga p.d f m) (hfm:f+m≤D.many) (n:Int) (hw:D.waits.length<1000000) (hbase:base≤w.heap.size) :
    Calls Tryz.prog 198 #[.pointer (some ⟨ga,0,none⟩),.int .i64 n] w fun e w' => e=.returned (.int .i64 (qa9 D f m n qa3).2)∧qe9 w base p A (qa9 D f m n qa3).1 w':=by
  have he:aggB qa3=.agg Tryz.zeroCells205:=by kernel_rfl
  have hwr:=vh4 h ha hfm n qa3 qc0 hw hbase;rw [he] at hwr;generalize (qa9 D f m n qa3).1=D' at *;generalize (qa9 D f m n qa3).2=z at *;clear h ha he;go_enter Tryz.func198,Tryz.ntmps198;go_wp2_with (first | (go_at_call 200;(with_reducible refine (hwr).mono ?_);rintro e w1 ⟨rfl,hN⟩) | fail "no arm");go_ret;exact ⟨rfl,hN⟩
theorem aflush_any (h:qa7 w base p A c D) (ha:qa8 w ga p.d f m) :
    Calls Tryz.prog 116 #[.pointer (some ⟨ga,0,none⟩)] w fun e w' => e=.returned (.int .i64 (qb0 D).2)∧qe9 w base p A (qb0 D).1 w':=by
  have hfl:=flush_any h;have c0:w.cell? ⟨ga,0,none⟩=some (.pointer (some ⟨p.d,0,none⟩)):=Blk.cell ha 0;generalize (qb0 D).1=D' at *;generalize (qb0 D).2=z at *;clear h ha;go_enter Tryz.func116,Tryz.ntmps116;go_wp2_with (first | (go_at_call 201;(with_reducible refine (hfl).mono ?_);rintro e w1 ⟨rfl,hN⟩) | fail "no arm");go_ret;exact ⟨rfl,hN⟩
theorem aput_any (h:qa7 w base p A c D) (ha:qa8 w ga p.d f m) (hfm:f+m≤D.many) (n kind number:Int) (B:Option Addr) (k d:Nat) (l:List UInt8) (hl:RB w B k l) (hk:k≤maxLen) (hnum:number≤9223372036854775807) (hw:D.waits.length<1000000) (hbase:base≤w.heap.size) :
    Calls Tryz.prog 115 #[.pointer (some ⟨ga,0,none⟩),.int .i64 n,.int .i64 kind,.int .i64 number,.slice B k d] w fun e w' => e=.returned (.int .i64 (qh1 D f m n kind number l).2)∧qe9 w base p A (qh1 D f m n kind number l).1 w':=by
  have hz:=(zero_of_info qe1).1;have Hi:=hdd (zero_of_info qe1).2;have hlz:Hid ((qa3.map bv).length=128):=by show _=_;simp [qc0]
  have hmk:=make_any kind number B k d l w hnum hk hl;have hml:=makeL_len kind number l;have c0:w.cell? ⟨ga,0,none⟩=some (.pointer (some ⟨p.d,0,none⟩)):=Blk.cell ha 0;have H:=hdd h;have HA:=hdd ha;unfold qh1;have hwr:=fun w' (hb:Below w.heap.size w w') => vh4 (h.below hb) (ha.below hb) hfm n (qz1 kind number l).1 hml hw (by have:=hb.size;omega)
  have hsl:Hid (((qz1 kind number l).1.map bv).length=128):=by show _=_;rw [List.length_map,hml]
  have hsm:=hdd (qk1 (l:=(qz1 kind number l).1));generalize qz1 kind number l=M at *;obtain ⟨S,z⟩:=M;simp only at hmk hml hwr hsl hsm ⊢
  by_cases hzz:z=0
  · rw [if_neg omg];subst hzz;have hne:((0:Int) != 0)=false:=rfl;generalize qa9 D f m n S=RR at *;obtain ⟨D',z⟩:=RR;simp only at hwr ⊢;unfold aggB at *;generalize S.map bv=SV at *;generalize qa3.map bv=Z at *;clear h ha hml;go_enter Tryz.func115,Tryz.ntmps115;go_wp2_with (first | ((go_at_call 199;(with_reducible refine (hmk).mono ?_);rintro e w1 ⟨rfl,hb1⟩);have s1:=hb1.size) | (refine qb2 rfl (x:=.tmp 11) (y:=.tmp 27) rfl rfl rfl (t:=205) (cs:=Z) (xs:=SV) (Blk.top _ rfl rfl) Hi.out hsl.out (by rw [hlz.out];omega) hsm.out ?_;intro w2 hb2 hg2 hs2;rw [qc1 _ _ (hlz.out.trans hsl.out.symm)] at hb2;have b2:Below w.heap.size w w2:=qb6 (hb1.alloc s1 _) hg2 (by simp;omega) s1) | (refine qb8 rfl (x:=.tmp 11) rfl rfl hb2 Tryz.underlying205 Hi.out hsl.out (by rw [List.drop_zero,List.take_of_length_le (by rw [hsl.out];omega)]) ?_) | (go_at_call 200;(with_reducible refine (hwr _ b2).mono ?_);rintro e w3 ⟨rfl,hN⟩) | fail "no arm");go_ret;exact ⟨rfl,hN.of_below b2⟩
  · rw [if_pos hzz];have hne:(z != 0)=true:=by rw [bne_iff_ne];exact hzz
    unfold aggB at *;generalize S.map bv=SV at *;generalize qa3.map bv=Z at *;clear h ha hml hwr hzz;go_enter Tryz.func115,Tryz.ntmps115;go_wp2_with (first | ((go_at_call 199;(with_reducible refine (hmk).mono ?_);rintro e w1 ⟨rfl,hb1⟩);have s1:=hb1.size) | (refine qb2 rfl (x:=.tmp 11) (y:=.tmp 27) rfl rfl rfl (t:=205) (cs:=Z) (xs:=SV) (Blk.top _ rfl rfl) Hi.out hsl.out (by rw [hlz.out];omega) hsm.out ?_;intro w2 hb2 hg2 hs2;rw [qc1 _ _ (hlz.out.trans hsl.out.symm)] at hb2;have b2:Below w.heap.size w w2:=qb6 (hb1.alloc s1 _) hg2 (by simp;omega) s1) | fail "no arm");go_ret;exact ⟨rfl,qe9.same H.out b2⟩
theorem open_v (S:List UInt8) (kind:Int) (w:World) (hl:S.length=128):Calls Tryz.prog 163 #[aggB S,.int .i64 kind] w fun e w' =>
    ∃ B k d,e=.returned (.tuple #[.int .i64 (qq7 S kind).1,.slice B k d,.int .i64 (qq7 S kind).2.2])∧OB w' w.heap.size 5 B k d (qq7 S kind).2.1∧Below w.heap.size w w':=by
  refine (open_any S kind w hl).mono fun e w' hE => ?_
  unfold qq7;rcases hE with ⟨hq,he,hb⟩ | ⟨hq,B,d,he,ho,hb⟩
  · rw [hq,if_neg smp];exact ⟨none,0,0,he,Ow.nil _ _ _ _,hb⟩
  · rw [hq,if_pos rfl];exact ⟨B,_,d,he,ho,hb⟩
theorem atake_any (h:qa7 w base p A c D) (ha:qa8 w ga p.d f m) (hfm:f+m≤D.many) (n kind:Int) :
    Calls Tryz.prog 158 #[.pointer (some ⟨ga,0,none⟩),.int .i64 n,.int .i64 kind] w fun e w' =>
      ∃ B k d,e=.returned (.tuple #[.int .i64 (qe5 D f m n kind).1,.slice B k d,.int .i64 (qe5 D f m n kind).2.2])∧OB w' w.heap.size 5 B k d (qe5 D f m n kind).2.1∧qa7 w' base p A c (qb4 D f m n).1∧Keep (foot p A) w w':=by
  have hz:=(zero_of_info qe1).1;have Hi:=hdd (zero_of_info qe1).2;have hlz:Hid ((qa3.map bv).length=128):=by show _=_;simp [qc0]
  have hrd:=aread_any h ha hfm n;have hl:=aReadV_len (f:=f) (m:=m) h.ok n;have hl4:=hdd (fun g hg => h.lt g hg);unfold qe5;generalize qb4 D f m n=RR at *;obtain ⟨D',S,z⟩:=RR;simp only at hrd hl ⊢;have hop:=fun w => open_v S kind w hl
  have hsl:Hid ((S.map bv).length=128):=by show _=_;rw [List.length_map,hl]
  have hsm:=hdd (qk1 (l:=S))
  by_cases hzz:z=0
  · rw [if_neg omg];subst hzz;generalize qq7 S kind=OV at *;obtain ⟨N,L,er⟩:=OV;simp only at hop ⊢;unfold aggB at *;generalize S.map bv=SV at *;generalize qa3.map bv=Z at *;clear h ha hl;go_enter Tryz.func158,Tryz.ntmps158;go_wp2_with (first | ((go_at_call 162;(with_reducible refine (hrd).mono ?_);rintro e w1 ⟨rfl,h1,k1⟩);have s1:=k1.size;have H1:=hdd h1;clear h1) | (refine qb2 rfl (x:=.tmp 9) (y:=.tmp 14) rfl rfl rfl (t:=205) (cs:=Z) (xs:=SV) (Blk.top _ rfl rfl) Hi.out hsl.out (by rw [hlz.out];omega) hsm.out ?_;intro w2 hb2 hg2 hs2;rw [qc1 _ _ (hlz.out.trans hsl.out.symm)] at hb2;have b2:Below w1.heap.size w1 w2:=qb6 ((Below.refl w1.heap.size w1).alloc nlr _) hg2 szz szz;have s2:=b2.size) | (refine qb8 rfl (x:=.tmp 9) rfl rfl hb2 Tryz.underlying205 Hi.out hsl.out (by rw [List.drop_zero,List.take_of_length_le (by rw [hsl.out];omega)]) ?_) | (go_at_call 163;(with_reducible refine (hop _).mono ?_);rintro e w3 ⟨B3,k3,d3,rfl,o3,b3⟩) | fail "no arm");go_ret3;have b13:Below w1.heap.size w1 w3:=b2.trans (b3.mono s2);exact ⟨B3,k3,d3,rfl,o3.rebase omg,H1.out.below b13,k1.then_below b13⟩
  · rw [if_pos hzz];have hne:(z != 0)=true:=by rw [bne_iff_ne];exact hzz
    unfold aggB at *;generalize S.map bv=SV at *;generalize qa3.map bv=Z at *;clear h ha hl hop hzz;go_enter Tryz.func158,Tryz.ntmps158;go_wp2_with (first | ((go_at_call 162;(with_reducible refine (hrd).mono ?_);rintro e w1 ⟨rfl,h1,k1⟩);have s1:=k1.size;have H1:=hdd h1;clear h1) | (refine qb2 rfl (x:=.tmp 9) (y:=.tmp 14) rfl rfl rfl (t:=205) (cs:=Z) (xs:=SV) (Blk.top _ rfl rfl) Hi.out hsl.out (by rw [hlz.out];omega) hsm.out ?_;intro w2 hb2 hg2 hs2;rw [qc1 _ _ (hlz.out.trans hsl.out.symm)] at hb2;have b2:Below w1.heap.size w1 w2:=qb6 ((Below.refl w1.heap.size w1).alloc nlr _) hg2 szz szz;have s2:=b2.size) | fail "no arm");go_ret3;exact ⟨none,0,0,rfl,Ow.nil _ _ _ _,H1.out.below b2,k1.then_below b2⟩
theorem anew_ok (h:qa7 w base p A c D) (f m:Nat) (h1:1≤m) (h2:f+m≤D.many) :
    Calls Tryz.prog 109 #[.pointer (some ⟨p.d,0,none⟩),.agg #[.int .i64 (f:Int),.int .i64 (m:Int)]] w fun e w' => ∃ ga,e=.returned (.tuple #[.pointer (some ⟨ga,0,none⟩),.int .i64 0])∧qa8 w' ga p.d f m∧w.heap.size≤ga∧Below w.heap.size w w':=by
  have hs:=fun o => size_any (h.alloc o)
  have hm:=h.ok.many1;generalize D.many=many at *;clear h;unfold qa8;go_enter Tryz.func109,Tryz.ntmps109;go_wp2_with (first | (go_at_call 48;(with_reducible refine (hs _).mono ?_);rintro e w1 ⟨rfl,rfl⟩) | fail "no arm");go_ret2;exact ⟨w.heap.size+1,by simp,blq,omg,gwn⟩
end
def mutD:List TypeId:=[198,205,300,207]
def qq1 (M:List TypeId) (p:qb9) (w w':World):Prop:=∃ F:Nat→Prop,Keep F w w'∧∀ g t cs,F g→Blk w g t cs→t ∈ M∨g=p.gi∨g=p.gm
structure Step (M:List TypeId) (base:Nat) (p:qb9) (w w':World):Prop where
  bel:Below base w w'
  tch:qq1 M p w w'
section
variable {M N:List TypeId} {w w' w'':World} {base:Nat} {p:qb9} {A:Option Addr} {c:Nat} {D D':qa1}
theorem qq1.of_below (hb:Below w.heap.size w w'):qq1 M p w w':=⟨fun _ => False,Keep.of_below hb,fun _ _ _ h => h.elim⟩
theorem qq1.refl (M:List TypeId) (p:qb9) (w:World):qq1 M p w w:=qq1.of_below (Below.refl _ _)
theorem qq1.trans (h:qq1 M p w w') (k:qq1 M p w' w''):qq1 M p w w'':=by
  obtain ⟨F,hF,tF⟩:=h;obtain ⟨G,hG,tG⟩:=k;refine ⟨fun g => F g∨G g,(hF.mono (fun g _ e => .inl e)).trans hG (fun g _ e => .inr e),fun g t cs hfg hb => ?_⟩
  by_cases hf:F g
  · exact tF g t cs hf hb
  · rcases hfg with e | e
    · exact absurd e hf
    · exact tG g t cs e (hb.keep hF hf)
theorem qq1.of_next (h:qa7 w base p A c D) (k:Keep (foot p A) w w'):qq1 mutD p w w':=⟨foot p A,k,fun g t cs hg hb => by
  by_cases h1:g=p.gi
  · exact .inr (.inl h1)
  by_cases h2:g=p.gm
  · exact .inr (.inr h2)
  left
  rcases h.foot_ty hb hg with q | q | q | q | q
  · subst q;decide
  · subst q;decide
  · subst q;have hne:∀ {g':Nat} {t':TypeId} {cs':List Value},Blk w g' t' cs'→4≠t'→g≠g':=fun hb' hn => hb.ne_ hb' hn
    rcases hg with e | e | e | e | e | e | e
    · exact absurd e (hne h.st dcd)
    · exact absurd e (hne h.bk dcd)
    · exact absurd e (hne h.bn dcd)
    · exact absurd e h1
    · exact absurd e h2
    · exact absurd e (hne h.mt.2 dcd)
    · exfalso
      rcases h.wa.2 with ⟨hv,_⟩ | ⟨g',cap,cur,hv,_,hh,_⟩
      · injection hv with hv;subst hv;cases e
      · injection hv with hv;subst hv;simp only [Option.map_some,Option.some.injEq] at e;exact hne (g':=g') (t':=207) (cs':=cur.toList) (by unfold Blk;rw [hh]) dcd e.symm
  · subst q;decide
  · subst q;decide⟩
theorem qq1.one {g:Nat} {t:TypeId} {cs:List Value} (hg:w.grownBy w' (some g)) (hb:Blk w g t cs) (ht:t ∈ M):qq1 M p w w':=⟨(·=g),Keep.one hg,fun g' t' cs' e hb' => by
  subst e
  by_cases q:t'=t
  · subst q;exact .inl ht
  · exact absurd rfl (hb'.ne_ hb q)⟩
theorem Blk.touch {g:Nat} {t:TypeId} {cs:List Value} (h:Blk w g t cs) (k:qq1 M p w w') (ht:t ∉ M) (h1:g≠p.gi) (h2:g≠p.gm):Blk w' g t cs:=by
  obtain ⟨F,hF,tF⟩:=k;refine h.keep hF (fun e => ?_);rcases tF g t cs e h with q | q | q
  · exact ht q
  · exact h1 q
  · exact h2 q
theorem qa5.notBool (h:qa5 w base p D) {g:Nat} {t:TypeId} {cs:List Value} (hb:Blk w g t cs) (ht:t≠4):g≠p.gi∧g≠p.gm:=by
  obtain ⟨A,c,h⟩:=h;exact ⟨hb.ne_ h.bi ht,hb.ne_ h.bm ht⟩
theorem qa5.blk (h:qa5 w base p D) {g:Nat} {t:TypeId} {cs:List Value} (hb:Blk w g t cs) (k:qq1 M p w w') (ht:t ∉ 4 :: M):Blk w' g t cs:=by
  obtain ⟨h1,h2⟩:=h.notBool hb (fun e => ht (by rw [e];exact List.mem_cons_self ..));exact hb.touch k (fun e => ht (List.mem_cons_of_mem _ e)) h1 h2
theorem qa5.area (h:qa5 w base p D) {ga d f m:Nat} (ha:qa8 w ga d f m) (k:qq1 M p w w') (ht:289 ∉ 4 :: M):qa8 w' ga d f m:=h.blk ha k ht
theorem qa5.ow {α:Type} {enc:α→Value} {b n d:Nat} {e:TypeId} {B:Option Addr} {l:List α} (h:qa5 w base p D) (ho:Ow enc w b e B n d l) (k:qq1 M p w w') (ht:e ∉ 4 :: M):Ow enc w' b e B n d l:=by
  obtain ⟨F,hF,tF⟩:=k;refine ⟨ho.1,qn4 ho.2 hF (fun g hg hf => ?_)⟩;rcases ho.2.2 with ⟨hv,_⟩ | ⟨g',cap,cur,hv,_,hh,_⟩
  · rw [hv] at hg;cases hg
  · rw [hv] at hg;have:g'=g:=by simpa [Value.ownBlock] using hg
    subst this;have hb:Blk w g' e cur.toList:=by unfold Blk;rw [hh]
    obtain ⟨h1,h2⟩:=h.notBool hb (fun e => ht (by rw [e];exact List.mem_cons_self ..));rcases tF _ _ _ hf hb with q | q | q
    · exact ht (List.mem_cons_of_mem _ q)
    · exact h1 q
    · exact h2 q
theorem qa5.ob {b n d:Nat} {B:Option Addr} {l:List UInt8} (h:qa5 w base p D) (ho:OB w b 5 B n d l) (k:qq1 M p w w') (ht:5 ∉ 4 :: M):OB w' b 5 B n d l:=h.ow ho k ht
theorem qq1.mono (h:qq1 M p w w') (hs:∀ t,t ∈ M→t ∈ N):qq1 N p w w':=by
  obtain ⟨F,hF,tF⟩:=h;exact ⟨F,hF,fun g t cs e hb => by rcases tF g t cs e hb with q | q;exact .inl (hs t q);exact .inr q⟩
theorem Step.mono (h:Step M base p w w') (hs:∀ t,t ∈ M→t ∈ N):Step N base p w w':=⟨h.bel,h.tch.mono hs⟩
theorem Step.refl (M:List TypeId) (base:Nat) (p:qb9) (w:World):Step M base p w w:=⟨Below.refl _ _,qq1.refl _ _ _⟩
theorem Step.of_below (hb:Below w.heap.size w w') (hs:base≤w.heap.size):Step M base p w w':=⟨hb.mono hs,qq1.of_below hb⟩
theorem Step.trans (h:Step M base p w w') (k:Step M base p w' w''):Step M base p w w'':=⟨h.bel.trans k.bel,h.tch.trans k.tch⟩
theorem Step.of_next (h:qa7 w base p A c D) (hs:base≤w.heap.size) (hN:qe9 w base p A D' w'):Step mutD base p w w':=by
  obtain ⟨A',c',h1,k,_⟩:=hN;exact ⟨h.belowK k hs,qq1.of_next h k⟩
theorem Step.of_keep (h:qa7 w base p A c D) (hs:base≤w.heap.size) (k:Keep (foot p A) w w'):Step mutD base p w w':=⟨h.belowK k hs,qq1.of_next h k⟩
theorem Step.one {g:Nat} {t:TypeId} {cs:List Value} (hg:w.grownBy w' (some g)) (hb:Blk w g t cs) (ht:t ∈ M) (hs:base≤g) (hw:base≤w.heap.size):Step M base p w w':=⟨qb6 (Below.refl _ _) hg hw hs,qq1.one hg hb ht⟩
theorem Step.size (h:Step M base p w w'):w.heap.size≤w'.heap.size:=h.bel.size
end
section
variable {w:World} {base ga f m:Nat} {p:qb9} {D:qa1}
theorem s_flush (h:qa5 w base p D) (hs:base≤w.heap.size):Calls Tryz.prog 201 #[.pointer (some ⟨p.d,0,none⟩)] w fun e w' => e=.returned (.int .i64 (qb0 D).2)∧qa5 w' base p (qb0 D).1∧Step mutD base p w w':=by
  obtain ⟨A,c,h⟩:=h;exact (flush_any h).mono fun e w' ⟨h1,h2⟩ => ⟨h1,h2.s,Step.of_next h hs h2⟩
theorem s_crash (h:qa5 w base p D) (hs:base≤w.heap.size) (B:Option Addr) (n d:Nat) (cs:List UInt8) (hl:RB w B n cs) (hB:0<n→∀ g,B.map (·.block)=some g→g<base) (hn:n≤maxLen) :
    Calls Tryz.prog 43 #[.pointer (some ⟨p.d,0,none⟩),.slice B n d] w fun e w' => e=.returned (.tuple #[])∧qa5 w' base p (qp3 D cs)∧Step mutD base p w w':=by
  obtain ⟨A,c,h⟩:=h;exact (crash_any h B n d cs hl (fun h0 g hg e => by have:=hB h0 g e;have:=h.bs g hg;omega) hn).mono fun e w' ⟨h1,h2⟩ => ⟨h1,h2.s,Step.of_next h hs h2⟩
theorem vj8 (h:qa5 w base p D) (hs:base≤w.heap.size) (ha:qa8 w ga p.d f m) (hfm:f+m≤D.many) (n:Int) :
    Calls Tryz.prog 162 #[.pointer (some ⟨ga,0,none⟩),.int .i64 n] w fun e w' => e=.returned (.tuple #[aggB (qb4 D f m n).2.1,.int .i64 (qb4 D f m n).2.2])∧qa5 w' base p (qb4 D f m n).1∧Step mutD base p w w':=by
  obtain ⟨A,c,h⟩:=h;exact (aread_any h ha hfm n).mono fun e w' ⟨h1,h2,h3⟩ => ⟨h1,h2.s,Step.of_keep h hs h3⟩
theorem s_awrite (h:qa5 w base p D) (hs:base≤w.heap.size) (ha:qa8 w ga p.d f m) (hfm:f+m≤D.many) (n:Int) (S:List UInt8) (hS:S.length=128) (hw:D.waits.length<1000000) :
    Calls Tryz.prog 200 #[.pointer (some ⟨ga,0,none⟩),.int .i64 n,aggB S] w fun e w' => e=.returned (.int .i64 (qa9 D f m n S).2)∧qa5 w' base p (qa9 D f m n S).1∧Step mutD base p w w':=by
  obtain ⟨A,c,h⟩:=h;exact (vh4 h ha hfm n S hS hw hs).mono fun e w' ⟨h1,h2⟩ => ⟨h1,h2.s,Step.of_next h hs h2⟩
theorem s_awipe (h:qa5 w base p D) (hs:base≤w.heap.size) (ha:qa8 w ga p.d f m) (hfm:f+m≤D.many) (n:Int) (hw:D.waits.length<1000000) :
    Calls Tryz.prog 198 #[.pointer (some ⟨ga,0,none⟩),.int .i64 n] w fun e w' => e=.returned (.int .i64 (qa9 D f m n qa3).2)∧qa5 w' base p (qa9 D f m n qa3).1∧Step mutD base p w w':=by
  obtain ⟨A,c,h⟩:=h;exact (awipe_any h ha hfm n hw hs).mono fun e w' ⟨h1,h2⟩ => ⟨h1,h2.s,Step.of_next h hs h2⟩
theorem qx6 (h:qa5 w base p D) (hs:base≤w.heap.size) (ha:qa8 w ga p.d f m) :
    Calls Tryz.prog 116 #[.pointer (some ⟨ga,0,none⟩)] w fun e w' => e=.returned (.int .i64 (qb0 D).2)∧qa5 w' base p (qb0 D).1∧Step mutD base p w w':=by
  obtain ⟨A,c,h⟩:=h;exact (aflush_any h ha).mono fun e w' ⟨h1,h2⟩ => ⟨h1,h2.s,Step.of_next h hs h2⟩
theorem s_aput (h:qa5 w base p D) (hs:base≤w.heap.size) (ha:qa8 w ga p.d f m) (hfm:f+m≤D.many) (n kind number:Int) (B:Option Addr) (k d:Nat) (l:List UInt8) (hl:RB w B k l) (hk:k≤maxLen) (hnum:number≤9223372036854775807) (hw:D.waits.length<1000000) :
    Calls Tryz.prog 115 #[.pointer (some ⟨ga,0,none⟩),.int .i64 n,.int .i64 kind,.int .i64 number,.slice B k d] w fun e w' => e=.returned (.int .i64 (qh1 D f m n kind number l).2)∧qa5 w' base p (qh1 D f m n kind number l).1∧Step mutD base p w w':=by
  obtain ⟨A,c,h⟩:=h;exact (aput_any (d:=d) h ha hfm n kind number B k l hl hk hnum hw hs).mono fun e w' ⟨h1,h2⟩ => ⟨h1,h2.s,Step.of_next h hs h2⟩
theorem s_atake (h:qa5 w base p D) (hs:base≤w.heap.size) (ha:qa8 w ga p.d f m) (hfm:f+m≤D.many) (n kind:Int) :
    Calls Tryz.prog 158 #[.pointer (some ⟨ga,0,none⟩),.int .i64 n,.int .i64 kind] w fun e w' =>
      ∃ B k d,e=.returned (.tuple #[.int .i64 (qe5 D f m n kind).1,.slice B k d,.int .i64 (qe5 D f m n kind).2.2])∧OB w' w.heap.size 5 B k d (qe5 D f m n kind).2.1∧qa5 w' base p (qb4 D f m n).1∧Step mutD base p w w':=by
  obtain ⟨A,c,h⟩:=h;exact (atake_any h ha hfm n kind).mono fun e w' ⟨B,k,d,h1,h2,h3,h4⟩ => ⟨B,k,d,h1,h2,h3.s,Step.of_keep h hs h4⟩
end
def mutJ:List TypeId:=363 :: mutD
def jrnC (ga:Nat) (kind:Int) (next:Nat):List Value:=[.pointer (some ⟨ga,0,none⟩),.int .i64 kind,.int .i64 (next:Int)]
def qi9 (w:World) (gj ga:Nat) (kind:Int) (next:Nat):Prop:=Blk w gj 363 (jrnC ga kind next)
def qv1 (D:qa1) (f m:Nat) (kind:Int) (next:Nat) (n:Int):qa1 × List UInt8 × Int :=
  if n<0∨(next:Int)≤n then (D,[],54) else if (qe5 D f m n kind).2.2≠0 then ((qb4 D f m n).1,[],(qe5 D f m n kind).2.2)
  else if (qe5 D f m n kind).1≠n then ((qb4 D f m n).1,[],53) else ((qb4 D f m n).1,(qe5 D f m n kind).2.1,0)
def qh8 (D:qa1) (f m:Nat) (kind:Int) (next:Nat) (l:List UInt8):qa1 × Nat × Int × Int :=
  if 113<l.length then (D,next,0,3) else if m=next then (D,next,0,52)
  else if (qh1 D f m next kind next l).2≠0 then ((qh1 D f m next kind next l).1,next,0,(qh1 D f m next kind next l).2)
  else ((qh1 D f m next kind next l).1,next+1,(next:Int),0)
section
variable {w w':World} {base ga gj f m next:Nat} {kind:Int} {p:qb9} {D:qa1}
theorem qa5.drew (h:qa5 w base p D):qa5 w.drew base p D:=by
  obtain ⟨A,c,h⟩:=h;exact ⟨A,c,h.drewN 1⟩
theorem Step.of_drew {M:List TypeId} (h:Step M base p w.drew w'):Step M base p w w':=by
  obtain ⟨hb,F,hF,tF⟩:=h;exact ⟨(Below.drew (Below.refl _ _)).trans hb,F,Keep.of_drew hF,tF⟩
theorem vk7 (h:qi9 w gj ga kind next):Calls Tryz.prog 261 #[.pointer (some ⟨gj,0,none⟩)] w fun e w' => e=.returned (.bool true)∧w=w':=by
  have c0:w.cell? ⟨gj,0,none⟩=some (.pointer (some ⟨ga,0,none⟩)):=Blk.cell h 0;clear h;go_enter Tryz.func261,Tryz.ntmps261;go_wp2;go_ret;exact ⟨rfl,rfl⟩
theorem vf3 (h:qi9 w gj ga kind next):Calls Tryz.prog 203 #[.pointer (some ⟨gj,0,none⟩)] w fun e w' => e=.returned (.int .i64 (next:Nat))∧w=w':=by
  have c2:w.cell? ⟨gj,2,none⟩=some (.int .i64 (next:Int)):=Blk.cell h 2;have his:=vk7 h;clear h;go_enter Tryz.func203,Tryz.ntmps203;go_wp2_with (first | (go_at_call 261;(with_reducible refine (his).mono ?_);rintro e w1 ⟨rfl,rfl⟩) | fail "no arm");go_ret;exact ⟨rfl,rfl⟩
theorem jroom_any (h:qi9 w gj ga kind next) (ha:qa8 w ga p.d f m) (hm:m≤4096) (hn:next≤m):Calls Tryz.prog 262 #[.pointer (some ⟨gj,0,none⟩)] w fun e w' => e=.returned (.int .i64 ((m:Int) - next))∧∃ q,w'=w.drewN q:=by
  have c0 : w.cell? ⟨gj, 0, none⟩ = some (.pointer (some ⟨ga, 0, none⟩)) := Blk.cell h 0; have c2 : w.cell? ⟨gj, 2, none⟩ = some (.int .i64 (next : Int)) := Blk.cell h 2; have his := vk7 h; have hmany := qo9 (w := w.drew) (ga := ga) (d := p.d) (f := f) (m := m) (Blk.drew ha); clear h ha; go_enter Tryz.func262, Tryz.ntmps262; go_wp2_with (first | (go_at_call 261; (with_reducible refine (his).mono ?_); rintro e w1 ⟨rfl, rfl⟩) | fail "no arm"); go_region_held3 (fun w' => w'.cell? ⟨gj, 0, none⟩ = some (.pointer (some ⟨ga, 0, none⟩)) ∧ w'.cell? ⟨gj, 2, none⟩ = some (.int .i64 (next : Int))) (first | go_keep | (refine ⟨?_, ?_⟩ <;> assumption)) (first | (go_at_call 113; (with_reducible refine (hmany).mono ?_); rintro e w2 ⟨rfl, rfl⟩) | fail "no arm"); go_wp2; go_ret; exact ⟨by first | rfl | exact ret_int (by first | omega | go_arith), 1, rfl⟩
theorem vo3 (h:qi9 w gj ga kind next) (hd:qa5 w base p D) (hs:base≤w.heap.size) (ha:qa8 w ga p.d f m):Calls Tryz.prog 207 #[.pointer (some ⟨gj,0,none⟩)] w fun e w' => e=.returned (.int .i64 (qb0 D).2)∧qa5 w' base p (qb0 D).1∧Step mutD base p w w':=by
  have c0:w.cell? ⟨gj,0,none⟩=some (.pointer (some ⟨ga,0,none⟩)):=Blk.cell h 0;have his:=vk7 h;have hfl:=qx6 hd hs ha;generalize qb0 D=R at *;obtain ⟨D',z⟩:=R;clear h ha hd;go_enter Tryz.func207,Tryz.ntmps207;go_wp2_with (first | (go_at_call 261;(with_reducible refine (his).mono ?_);rintro e w1 ⟨rfl,rfl⟩) | (go_at_call 116;(with_reducible refine (hfl).mono ?_);rintro e w2 ⟨rfl,h2,s2⟩) | fail "no arm");go_ret;exact ⟨rfl,h2,s2⟩
theorem jget_any (h:qi9 w gj ga kind next) (hd:qa5 w base p D) (hs:base≤w.heap.size) (ha:qa8 w ga p.d f m) (hfm:f+m≤D.many) (hnm:next≤4096) (n:Int) :
    Calls Tryz.prog 252 #[.pointer (some ⟨gj,0,none⟩),.int .i64 n] w fun e w' => ∃ B k d,e=.returned (.tuple #[.slice B k d,.int .i64 (qv1 D f m kind next n).2.2])∧OB w' w.heap.size 5 B k d (qv1 D f m kind next n).2.1∧qa5 w' base p (qv1 D f m kind next n).1∧Step mutD base p w w':=by
  have c0:w.cell? ⟨gj,0,none⟩=some (.pointer (some ⟨ga,0,none⟩)):=Blk.cell h 0;have c1:w.cell? ⟨gj,1,none⟩=some (.int .i64 kind):=Blk.cell h 1;have c2:w.cell? ⟨gj,2,none⟩=some (.int .i64 (next:Int)):=Blk.cell h 2;have his:=vk7 h;unfold qv1
  by_cases hn:n<0∨(next:Int)≤n
  · rw [if_pos hn];have hc:n<0∨(0≤n∧(next:Int)≤n):=omg;have HD:=hdd hd;clear h hd ha hn;rcases hc with h1 | ⟨h1,h2⟩
    all_goals
      go_enter Tryz.func252,Tryz.ntmps252;go_wp2_with (first | (go_at_call 261;(with_reducible refine (his).mono ?_);rintro e w1 ⟨rfl,rfl⟩) | fail "no arm");go_ret2;exact ⟨none,0,0,rfl,Ow.nil _ _ _ _,HD.out,Step.refl _ _ _ _⟩
  · rw [if_neg hn];have h1:0≤n:=omg;have h2:n<next:=omg;have htk:=s_atake (w:=w.drew) hd.drew hs (Blk.drew ha) hfm n kind;have HJ:=hdd h;have HD:=hdd hd;clear h hd ha hn;generalize qe5 D f m n kind=T at *;generalize (qb4 D f m n).1=D' at *;obtain ⟨N,L,er⟩:=T;simp only at htk ⊢
    by_cases her:er=0
    · subst her;rw [if_neg smp]
      by_cases hN:N=n
      · subst hN;rw [if_neg smp];have hne:(N != N)=false:=by simp
        go_enter Tryz.func252, Tryz.ntmps252; go_wp2_with (first | (go_at_call 261; (with_reducible refine (his).mono ?_); rintro e w1 ⟨rfl, rfl⟩) | fail "no arm"); go_region_held3 (fun w' => w'.cell? ⟨gj, 0, none⟩ = some (.pointer (some ⟨ga, 0, none⟩)) ∧ w'.cell? ⟨gj, 1, none⟩ = some (.int .i64 kind)) (first | go_keep | (refine ⟨?_, ?_⟩ <;> assumption)) (first | ((go_at_call 158; (with_reducible refine (htk).mono ?_); rintro e w2 ⟨B, k, d, rfl, o2, h2, s2⟩); have hj2 := HD.out.drew.blk (Blk.drew HJ.out) s2.tch dcd; have y0 : w2.cell? ⟨gj, 0, none⟩ = some (.pointer (some ⟨ga, 0, none⟩)) := hj2.cell 0; have y1 : w2.cell? ⟨gj, 1, none⟩ = some (.int .i64 kind) := hj2.cell 1) | fail "no arm"); go_wp2; go_ret2; exact ⟨B, k, d, rfl, o2, h2, s2.of_drew⟩
      · rw [if_pos hN];have hne:(N != n)=true:=by rw [bne_iff_ne];exact hN
        go_enter Tryz.func252, Tryz.ntmps252; go_wp2_with (first | (go_at_call 261; (with_reducible refine (his).mono ?_); rintro e w1 ⟨rfl, rfl⟩) | fail "no arm"); go_region_held3 (fun w' => w'.cell? ⟨gj, 0, none⟩ = some (.pointer (some ⟨ga, 0, none⟩)) ∧ w'.cell? ⟨gj, 1, none⟩ = some (.int .i64 kind)) (first | go_keep | (refine ⟨?_, ?_⟩ <;> assumption)) (first | ((go_at_call 158; (with_reducible refine (htk).mono ?_); rintro e w2 ⟨B, k, d, rfl, o2, h2, s2⟩); have hj2 := HD.out.drew.blk (Blk.drew HJ.out) s2.tch dcd; have y0 : w2.cell? ⟨gj, 0, none⟩ = some (.pointer (some ⟨ga, 0, none⟩)) := hj2.cell 0; have y1 : w2.cell? ⟨gj, 1, none⟩ = some (.int .i64 kind) := hj2.cell 1) | fail "no arm"); go_wp2; go_ret2; exact ⟨none, 0, 0, rfl, Ow.nil _ _ _ _, h2, s2.of_drew⟩
    · rw [if_pos her];have hne:(er != 0)=true:=by rw [bne_iff_ne];exact her
      have heq:(er == 0)=false:=by rw [beq_eq_false_iff_ne];exact her
      clear her; go_enter Tryz.func252, Tryz.ntmps252; go_wp2_with (first | (go_at_call 261; (with_reducible refine (his).mono ?_); rintro e w1 ⟨rfl, rfl⟩) | fail "no arm"); go_region_held3 (fun w' => w'.cell? ⟨gj, 0, none⟩ = some (.pointer (some ⟨ga, 0, none⟩)) ∧ w'.cell? ⟨gj, 1, none⟩ = some (.int .i64 kind)) (first | go_keep | (refine ⟨?_, ?_⟩ <;> assumption)) (first | ((go_at_call 158; (with_reducible refine (htk).mono ?_); rintro e w2 ⟨B, k, d, rfl, o2, h2, s2⟩); have hj2 := HD.out.drew.blk (Blk.drew HJ.out) s2.tch dcd; have y0 : w2.cell? ⟨gj, 0, none⟩ = some (.pointer (some ⟨ga, 0, none⟩)) := hj2.cell 0; have y1 : w2.cell? ⟨gj, 1, none⟩ = some (.int .i64 kind) := hj2.cell 1) | fail "no arm"); go_wp2; go_ret2; exact ⟨none, 0, 0, rfl, Ow.nil _ _ _ _, h2, s2.of_drew⟩
end
end Go.Proofs.YtmeebofhlilcmaaGreat
