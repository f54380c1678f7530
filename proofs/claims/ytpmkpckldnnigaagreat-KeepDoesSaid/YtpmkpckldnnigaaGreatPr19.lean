/- Parts: DiskK, AreaC, Step. -/
import Derived.Test.YtpmkpckldnnigaaGreatPr13
import Derived.Test.YtpmkpckldnnigaaGreatPr02
import Derived.Test.YtpmkpckldnnigaaGreatPr18
set_option linter.unusedVariables false
set_option linter.unusedSimpArgs false
set_option maxRecDepth 100000
set_option maxHeartbeats 40000000
namespace Go.Proofs.YtpmkpckldnnigaaGreat
open Go.RowKit
section
variable {w : World} {d : Option Addr}
end
def qm5 (D : qa3) (f m : Nat) (n kind number : Int) (load : List UInt8) : qa3 × Int := if (qt5 kind number load).2 ≠ 0 then (D, (qt5 kind number load).2) else qb0 D f m n (qt5 kind number load).1
def vj9 (S : List UInt8) (kind : Int) : Int × List UInt8 × Int := if qs5 S kind then (sg (qd1 S), qe2 S, 0) else (0, [], 53)
def qg3 (D : qa3) (f m : Nat) (n kind : Int) : Int × List UInt8 × Int := if (qe1 D f m n).2.2 ≠ 0 then (0, [], (qe1 D f m n).2.2) else vj9 (qe1 D f m n).2.1 kind
section
variable {w w' : World} {base ga f m : Nat} {p : qe3} {A : Option Addr} {c : Nat} {D D' : qa3}
theorem qe8.of_below {w1 : World} (hb : Below w.heap.size w w1) (h : qe8 w1 base p A D' w') : qe8 w base p A D' w' := by
  obtain ⟨A', c', h1, k, n⟩ := h; exact ⟨A', c', h1, (Keep.of_below hb).trans k (fun _ _ e => e), fun g e => by rcases n g e with q | q; exact .inl q; exact .inr (by have := hb.size; omega)⟩
theorem awipe_any (h : qa4 w base p A c D) (ha : qc3 w ga p.d f m) (hfm : f + m ≤ D.many) (n : Int) (hw : D.waits.length < 1000000) (hbase : base ≤ w.heap.size) :
    Calls Tryz.prog 131 #[.pointer (some ⟨ga, 0, none⟩), .int .i64 n] w fun e w' => e = .returned (.int .i64 (qb0 D f m n qa5).2) ∧ qe8 w base p A (qb0 D f m n qa5).1 w' := by
  have he : aggB qa5 = .agg Tryz.zeroCells152 := by kernel_rfl
  have hwr := va4 h ha hfm n qa5 qd2 hw hbase; rw [he] at hwr; generalize (qb0 D f m n qa5).1 = D' at *; generalize (qb0 D f m n qa5).2 = z at *; clear h ha he; go_enter Tryz.func131, Tryz.ntmps131; go_wp2_with (first | (go_at_call 185; (with_reducible refine (hwr).mono ?_); rintro e w1 ⟨rfl, hN⟩) | fail "no arm"); go_ret; exact ⟨rfl, hN⟩
theorem aflush_any (h : qa4 w base p A c D) (ha : qc3 w ga p.d f m) :
    Calls Tryz.prog 113 #[.pointer (some ⟨ga, 0, none⟩)] w fun e w' => e = .returned (.int .i64 (qc1 D).2) ∧ qe8 w base p A (qc1 D).1 w' := by
  have hfl := flush_any h; have c0 : w.cell? ⟨ga, 0, none⟩ = some (.pointer (some ⟨p.d, 0, none⟩)) := Blk.cell ha 0; generalize (qc1 D).1 = D' at *; generalize (qc1 D).2 = z at *; clear h ha; go_enter Tryz.func113, Tryz.ntmps113; go_wp2_with (first | (go_at_call 186; (with_reducible refine (hfl).mono ?_); rintro e w1 ⟨rfl, hN⟩) | fail "no arm"); go_ret; exact ⟨rfl, hN⟩
theorem aput_any (h : qa4 w base p A c D) (ha : qc3 w ga p.d f m) (hfm : f + m ≤ D.many) (n kind number : Int) (B : Option Addr) (k d : Nat) (l : List UInt8) (hl : RB w B k l) (hk : k ≤ maxLen) (hnum : number ≤ 9223372036854775807) (hw : D.waits.length < 1000000) (hbase : base ≤ w.heap.size) :
    Calls Tryz.prog 112 #[.pointer (some ⟨ga, 0, none⟩), .int .i64 n, .int .i64 kind, .int .i64 number, .slice B k d] w fun e w' => e = .returned (.int .i64 (qm5 D f m n kind number l).2) ∧ qe8 w base p A (qm5 D f m n kind number l).1 w' := by
  have hz := (zero_of_info qf4).1; have Hi := hdd (zero_of_info qf4).2; have hlz : Hid ((qa5.map bv).length = 128) := by show _ = _; simp [qd2]
  have hmk := make_any kind number B k d l w hnum hk hl; have hml := makeL_len kind number l; have c0 : w.cell? ⟨ga, 0, none⟩ = some (.pointer (some ⟨p.d, 0, none⟩)) := Blk.cell ha 0; have H := hdd h; have HA := hdd ha; unfold qm5; have hwr := fun w' (hb : Below w.heap.size w w') => va4 (h.below hb) (ha.below hb) hfm n (qt5 kind number l).1 hml hw (by have := hb.size; omega)
  have hsl : Hid (((qt5 kind number l).1.map bv).length = 128) := by show _ = _; rw [List.length_map, hml]
  have hsm := hdd (qk1 (l := (qt5 kind number l).1)); generalize qt5 kind number l = M at *; obtain ⟨S, z⟩ := M; simp only at hmk hml hwr hsl hsm ⊢
  by_cases hzz : z = 0
  · rw [if_neg omg]; subst hzz; have hne : ((0 : Int) != 0) = false := rfl; generalize qb0 D f m n S = RR at *; obtain ⟨D', z⟩ := RR; simp only at hwr ⊢; unfold aggB at *; generalize S.map bv = SV at *; generalize qa5.map bv = Z at *; clear h ha hml; go_enter Tryz.func112, Tryz.ntmps112; go_wp2_with (first | ((go_at_call 184; (with_reducible refine (hmk).mono ?_); rintro e w1 ⟨rfl, hb1⟩); have s1 := hb1.size) | (refine qb3 rfl (x := .tmp 11) (y := .tmp 27) rfl rfl rfl (t := 152) (cs := Z) (xs := SV) (Blk.top _ rfl rfl) Hi.out hsl.out (by rw [hlz.out]; omega) hsm.out ?_; intro w2 hb2 hg2 hs2; rw [qd0 _ _ (hlz.out.trans hsl.out.symm)] at hb2; have b2 : Below w.heap.size w w2 := qc6 (hb1.alloc s1 _) hg2 (by simp; omega) s1) | (refine qd7 rfl (x := .tmp 11) rfl rfl hb2 Tryz.underlying152 Hi.out hsl.out (by rw [List.drop_zero, List.take_of_length_le (by rw [hsl.out]; omega)]) ?_) | (go_at_call 185; (with_reducible refine (hwr _ b2).mono ?_); rintro e w3 ⟨rfl, hN⟩) | fail "no arm"); go_ret; exact ⟨rfl, hN.of_below b2⟩
  · rw [if_pos hzz]; have hne : (z != 0) = true := by rw [bne_iff_ne]; exact hzz
    unfold aggB at *; generalize S.map bv = SV at *; generalize qa5.map bv = Z at *; clear h ha hml hwr hzz; go_enter Tryz.func112, Tryz.ntmps112; go_wp2_with (first | ((go_at_call 184; (with_reducible refine (hmk).mono ?_); rintro e w1 ⟨rfl, hb1⟩); have s1 := hb1.size) | (refine qb3 rfl (x := .tmp 11) (y := .tmp 27) rfl rfl rfl (t := 152) (cs := Z) (xs := SV) (Blk.top _ rfl rfl) Hi.out hsl.out (by rw [hlz.out]; omega) hsm.out ?_; intro w2 hb2 hg2 hs2; rw [qd0 _ _ (hlz.out.trans hsl.out.symm)] at hb2; have b2 : Below w.heap.size w w2 := qc6 (hb1.alloc s1 _) hg2 (by simp; omega) s1) | fail "no arm"); go_ret; exact ⟨rfl, qe8.same H.out b2⟩
theorem open_v (S : List UInt8) (kind : Int) (w : World) (hl : S.length = 128) : Calls Tryz.prog 162 #[aggB S, .int .i64 kind] w fun e w' =>
    ∃ B k d, e = .returned (.tuple #[.int .i64 (vj9 S kind).1, .slice B k d, .int .i64 (vj9 S kind).2.2]) ∧ OB w' w.heap.size 5 B k d (vj9 S kind).2.1 ∧ Below w.heap.size w w' := by
  refine (open_any S kind w hl).mono fun e w' hE => ?_
  unfold vj9; rcases hE with ⟨hq, he, hb⟩ | ⟨hq, B, d, he, ho, hb⟩
  · rw [hq, if_neg smp]; exact ⟨none, 0, 0, he, Ow.nil _ _ _ _, hb⟩
  · rw [hq, if_pos rfl]; exact ⟨B, _, d, he, ho, hb⟩
theorem atake_any (h : qa4 w base p A c D) (ha : qc3 w ga p.d f m) (hfm : f + m ≤ D.many) (n kind : Int) :
    Calls Tryz.prog 160 #[.pointer (some ⟨ga, 0, none⟩), .int .i64 n, .int .i64 kind] w fun e w' =>
      ∃ B k d, e = .returned (.tuple #[.int .i64 (qg3 D f m n kind).1, .slice B k d, .int .i64 (qg3 D f m n kind).2.2]) ∧ OB w' w.heap.size 5 B k d (qg3 D f m n kind).2.1 ∧ qa4 w' base p A c (qe1 D f m n).1 ∧ Keep (foot p A) w w' := by
  have hz := (zero_of_info qf4).1; have Hi := hdd (zero_of_info qf4).2; have hlz : Hid ((qa5.map bv).length = 128) := by show _ = _; simp [qd2]
  have hrd := aread_any h ha hfm n; have hl := aReadV_len (f := f) (m := m) h.ok n; have hl4 := hdd (fun g hg => h.lt g hg); unfold qg3; generalize qe1 D f m n = RR at *; obtain ⟨D', S, z⟩ := RR; simp only at hrd hl ⊢; have hop := fun w => open_v S kind w hl
  have hsl : Hid ((S.map bv).length = 128) := by show _ = _; rw [List.length_map, hl]
  have hsm := hdd (qk1 (l := S))
  by_cases hzz : z = 0
  · rw [if_neg omg]; subst hzz; generalize vj9 S kind = OV at *; obtain ⟨N, L, er⟩ := OV; simp only at hop ⊢; unfold aggB at *; generalize S.map bv = SV at *; generalize qa5.map bv = Z at *; clear h ha hl; go_enter Tryz.func160, Tryz.ntmps160; go_wp2_with (first | ((go_at_call 161; (with_reducible refine (hrd).mono ?_); rintro e w1 ⟨rfl, h1, k1⟩); have s1 := k1.size; have H1 := hdd h1; clear h1) | (refine qb3 rfl (x := .tmp 9) (y := .tmp 14) rfl rfl rfl (t := 152) (cs := Z) (xs := SV) (Blk.top _ rfl rfl) Hi.out hsl.out (by rw [hlz.out]; omega) hsm.out ?_; intro w2 hb2 hg2 hs2; rw [qd0 _ _ (hlz.out.trans hsl.out.symm)] at hb2; have b2 : Below w1.heap.size w1 w2 := qc6 ((Below.refl w1.heap.size w1).alloc nlr _) hg2 szz szz; have s2 := b2.size) | (refine qd7 rfl (x := .tmp 9) rfl rfl hb2 Tryz.underlying152 Hi.out hsl.out (by rw [List.drop_zero, List.take_of_length_le (by rw [hsl.out]; omega)]) ?_) | (go_at_call 162; (with_reducible refine (hop _).mono ?_); rintro e w3 ⟨B3, k3, d3, rfl, o3, b3⟩) | fail "no arm"); go_ret3; have b13 : Below w1.heap.size w1 w3 := b2.trans (b3.mono s2); exact ⟨B3, k3, d3, rfl, o3.rebase omg, H1.out.below b13, k1.then_below b13⟩
  · rw [if_pos hzz]; have hne : (z != 0) = true := by rw [bne_iff_ne]; exact hzz
    unfold aggB at *; generalize S.map bv = SV at *; generalize qa5.map bv = Z at *; clear h ha hl hop hzz; go_enter Tryz.func160, Tryz.ntmps160; go_wp2_with (first | ((go_at_call 161; (with_reducible refine (hrd).mono ?_); rintro e w1 ⟨rfl, h1, k1⟩); have s1 := k1.size; have H1 := hdd h1; clear h1) | (refine qb3 rfl (x := .tmp 9) (y := .tmp 14) rfl rfl rfl (t := 152) (cs := Z) (xs := SV) (Blk.top _ rfl rfl) Hi.out hsl.out (by rw [hlz.out]; omega) hsm.out ?_; intro w2 hb2 hg2 hs2; rw [qd0 _ _ (hlz.out.trans hsl.out.symm)] at hb2; have b2 : Below w1.heap.size w1 w2 := qc6 ((Below.refl w1.heap.size w1).alloc nlr _) hg2 szz szz; have s2 := b2.size) | fail "no arm"); go_ret3; exact ⟨none, 0, 0, rfl, Ow.nil _ _ _ _, H1.out.below b2, k1.then_below b2⟩
theorem anew_ok (h : qa4 w base p A c D) (f m : Nat) (h1 : 1 ≤ m) (h2 : f + m ≤ D.many) :
    Calls Tryz.prog 56 #[.pointer (some ⟨p.d, 0, none⟩), .agg #[.int .i64 (f : Int), .int .i64 (m : Int)]] w fun e w' => ∃ ga, e = .returned (.tuple #[.pointer (some ⟨ga, 0, none⟩), .int .i64 0]) ∧ qc3 w' ga p.d f m ∧ w.heap.size ≤ ga ∧ Below w.heap.size w w' := by
  have hs := fun o => size_any (h.alloc o)
  have hm := h.ok.many1; generalize D.many = many at *; clear h; unfold qc3; go_enter Tryz.func56, Tryz.ntmps56; go_wp2_with (first | (go_at_call 135; (with_reducible refine (hs _).mono ?_); rintro e w1 ⟨rfl, rfl⟩) | fail "no arm"); go_ret2; exact ⟨w.heap.size + 1, by simp, blq, omg, gwn⟩
end
def mutD : List TypeId := [151, 152, 282, 154]
def qp1 (M : List TypeId) (p : qe3) (w w' : World) : Prop := ∃ F : Nat → Prop, Keep F w w' ∧ ∀ g t cs, F g → Blk w g t cs → t ∈ M ∨ g = p.gi ∨ g = p.gm
structure Step (M : List TypeId) (base : Nat) (p : qe3) (w w' : World) : Prop where
  bel : Below base w w'
  tch : qp1 M p w w'
section
variable {M N : List TypeId} {w w' w'' : World} {base : Nat} {p : qe3} {A : Option Addr} {c : Nat} {D D' : qa3}
theorem qp1.of_below (hb : Below w.heap.size w w') : qp1 M p w w' := ⟨fun _ => False, Keep.of_below hb, fun _ _ _ h => h.elim⟩
theorem qp1.refl (M : List TypeId) (p : qe3) (w : World) : qp1 M p w w := qp1.of_below (Below.refl _ _)
theorem qp1.trans (h : qp1 M p w w') (k : qp1 M p w' w'') : qp1 M p w w'' := by
  obtain ⟨F, hF, tF⟩ := h; obtain ⟨G, hG, tG⟩ := k; refine ⟨fun g => F g ∨ G g, (hF.mono (fun g _ e => .inl e)).trans hG (fun g _ e => .inr e), fun g t cs hfg hb => ?_⟩
  by_cases hf : F g
  · exact tF g t cs hf hb
  · rcases hfg with e | e
    · exact absurd e hf
    · exact tG g t cs e (hb.keep hF hf)
theorem qp1.of_next (h : qa4 w base p A c D) (k : Keep (foot p A) w w') : qp1 mutD p w w' := ⟨foot p A, k, fun g t cs hg hb => by
  by_cases h1 : g = p.gi
  · exact .inr (.inl h1)
  by_cases h2 : g = p.gm
  · exact .inr (.inr h2)
  left
  rcases h.foot_ty hb hg with q | q | q | q | q
  · subst q; decide
  · subst q; decide
  · subst q; have hne : ∀ {g' : Nat} {t' : TypeId} {cs' : List Value}, Blk w g' t' cs' → 4 ≠ t' → g ≠ g' := fun hb' hn => hb.ne_ hb' hn
    rcases hg with e | e | e | e | e | e | e
    · exact absurd e (hne h.st dcd)
    · exact absurd e (hne h.bk dcd)
    · exact absurd e (hne h.bn dcd)
    · exact absurd e h1
    · exact absurd e h2
    · exact absurd e (hne h.mt.2 dcd)
    · exfalso
      rcases h.wa.2 with ⟨hv, _⟩ | ⟨g', cap, cur, hv, _, hh, _⟩
      · injection hv with hv; subst hv; cases e
      · injection hv with hv; subst hv; simp only [Option.map_some, Option.some.injEq] at e; exact hne (g' := g') (t' := 154) (cs' := cur.toList) (by unfold Blk; rw [hh]) dcd e.symm
  · subst q; decide
  · subst q; decide⟩
theorem qp1.one {g : Nat} {t : TypeId} {cs : List Value} (hg : w.grownBy w' (some g)) (hb : Blk w g t cs) (ht : t ∈ M) : qp1 M p w w' := ⟨(· = g), Keep.one hg, fun g' t' cs' e hb' => by
  subst e
  by_cases q : t' = t
  · subst q; exact .inl ht
  · exact absurd rfl (hb'.ne_ hb q)⟩
theorem Blk.touch {g : Nat} {t : TypeId} {cs : List Value} (h : Blk w g t cs) (k : qp1 M p w w') (ht : t ∉ M) (h1 : g ≠ p.gi) (h2 : g ≠ p.gm) : Blk w' g t cs := by
  obtain ⟨F, hF, tF⟩ := k; refine h.keep hF (fun e => ?_); rcases tF g t cs e h with q | q | q
  · exact ht q
  · exact h1 q
  · exact h2 q
theorem qc4.notBool (h : qc4 w base p D) {g : Nat} {t : TypeId} {cs : List Value} (hb : Blk w g t cs) (ht : t ≠ 4) : g ≠ p.gi ∧ g ≠ p.gm := by
  obtain ⟨A, c, h⟩ := h; exact ⟨hb.ne_ h.bi ht, hb.ne_ h.bm ht⟩
theorem qc4.blk (h : qc4 w base p D) {g : Nat} {t : TypeId} {cs : List Value} (hb : Blk w g t cs) (k : qp1 M p w w') (ht : t ∉ 4 :: M) : Blk w' g t cs := by
  obtain ⟨h1, h2⟩ := h.notBool hb (fun e => ht (by rw [e]; exact List.mem_cons_self ..)); exact hb.touch k (fun e => ht (List.mem_cons_of_mem _ e)) h1 h2
theorem qc4.area (h : qc4 w base p D) {ga d f m : Nat} (ha : qc3 w ga d f m) (k : qp1 M p w w') (ht : 217 ∉ 4 :: M) : qc3 w' ga d f m := h.blk ha k ht
theorem qc4.ow {α : Type} {enc : α → Value} {b n d : Nat} {e : TypeId} {B : Option Addr} {l : List α} (h : qc4 w base p D) (ho : Ow enc w b e B n d l) (k : qp1 M p w w') (ht : e ∉ 4 :: M) : Ow enc w' b e B n d l := by
  obtain ⟨F, hF, tF⟩ := k; refine ⟨ho.1, qe7 ho.2 hF (fun g hg hf => ?_)⟩; rcases ho.2.2 with ⟨hv, _⟩ | ⟨g', cap, cur, hv, _, hh, _⟩
  · rw [hv] at hg; cases hg
  · rw [hv] at hg; have : g' = g := by simpa [Value.ownBlock] using hg
    subst this; have hb : Blk w g' e cur.toList := by unfold Blk; rw [hh]
    obtain ⟨h1, h2⟩ := h.notBool hb (fun e => ht (by rw [e]; exact List.mem_cons_self ..)); rcases tF _ _ _ hf hb with q | q | q
    · exact ht (List.mem_cons_of_mem _ q)
    · exact h1 q
    · exact h2 q
theorem qc4.ob {b n d : Nat} {B : Option Addr} {l : List UInt8} (h : qc4 w base p D) (ho : OB w b 5 B n d l) (k : qp1 M p w w') (ht : 5 ∉ 4 :: M) : OB w' b 5 B n d l := h.ow ho k ht
theorem qp1.mono (h : qp1 M p w w') (hs : ∀ t, t ∈ M → t ∈ N) : qp1 N p w w' := by
  obtain ⟨F, hF, tF⟩ := h; exact ⟨F, hF, fun g t cs e hb => by rcases tF g t cs e hb with q | q; exact .inl (hs t q); exact .inr q⟩
theorem Step.mono (h : Step M base p w w') (hs : ∀ t, t ∈ M → t ∈ N) : Step N base p w w' := ⟨h.bel, h.tch.mono hs⟩
theorem Step.refl (M : List TypeId) (base : Nat) (p : qe3) (w : World) : Step M base p w w := ⟨Below.refl _ _, qp1.refl _ _ _⟩
theorem Step.of_below (hb : Below w.heap.size w w') (hs : base ≤ w.heap.size) : Step M base p w w' := ⟨hb.mono hs, qp1.of_below hb⟩
theorem Step.trans (h : Step M base p w w') (k : Step M base p w' w'') : Step M base p w w'' := ⟨h.bel.trans k.bel, h.tch.trans k.tch⟩
theorem Step.of_next (h : qa4 w base p A c D) (hs : base ≤ w.heap.size) (hN : qe8 w base p A D' w') : Step mutD base p w w' := by
  obtain ⟨A', c', h1, k, _⟩ := hN; exact ⟨h.belowK k hs, qp1.of_next h k⟩
theorem Step.of_keep (h : qa4 w base p A c D) (hs : base ≤ w.heap.size) (k : Keep (foot p A) w w') : Step mutD base p w w' := ⟨h.belowK k hs, qp1.of_next h k⟩
theorem Step.one {g : Nat} {t : TypeId} {cs : List Value} (hg : w.grownBy w' (some g)) (hb : Blk w g t cs) (ht : t ∈ M) (hs : base ≤ g) (hw : base ≤ w.heap.size) : Step M base p w w' := ⟨qc6 (Below.refl _ _) hg hw hs, qp1.one hg hb ht⟩
theorem Step.size (h : Step M base p w w') : w.heap.size ≤ w'.heap.size := h.bel.size
end
section
variable {w : World} {base ga f m : Nat} {p : qe3} {D : qa3}
theorem s_flush (h : qc4 w base p D) (hs : base ≤ w.heap.size) : Calls Tryz.prog 186 #[.pointer (some ⟨p.d, 0, none⟩)] w fun e w' => e = .returned (.int .i64 (qc1 D).2) ∧ qc4 w' base p (qc1 D).1 ∧ Step mutD base p w w' := by
  obtain ⟨A, c, h⟩ := h; exact (flush_any h).mono fun e w' ⟨h1, h2⟩ => ⟨h1, h2.s, Step.of_next h hs h2⟩
theorem s_cut (h : qc4 w base p D) (hs : base ≤ w.heap.size) (n : Int) (hn : n ≤ 9223372036854775807) : Calls Tryz.prog 21 #[.pointer (some ⟨p.d, 0, none⟩), .int .i64 n] w fun e w' => e = .returned (.tuple #[]) ∧ qc4 w' base p { D with cut := max n (-1) } ∧ Step mutD base p w w' := by
  obtain ⟨A, c, h⟩ := h; exact (cut_any h n hn).mono fun e w' ⟨h1, h2, h3, _⟩ => ⟨h1, h2.s, Step.of_keep h hs h3⟩
theorem s_crash (h : qc4 w base p D) (hs : base ≤ w.heap.size) (B : Option Addr) (n d : Nat) (cs : List UInt8) (hl : RB w B n cs) (hB : 0 < n → ∀ g, B.map (·.block) = some g → g < base) (hn : n ≤ maxLen) :
    Calls Tryz.prog 23 #[.pointer (some ⟨p.d, 0, none⟩), .slice B n d] w fun e w' => e = .returned (.tuple #[]) ∧ qc4 w' base p (qr4 D cs) ∧ Step mutD base p w w' := by
  obtain ⟨A, c, h⟩ := h; exact (crash_any h B n d cs hl (fun h0 g hg e => by have := hB h0 g e; have := h.bs g hg; omega) hn).mono fun e w' ⟨h1, h2⟩ => ⟨h1, h2.s, Step.of_next h hs h2⟩
theorem s_image (h : qc4 w base p D) (hs : base ≤ w.heap.size) : Calls Tryz.prog 27 #[.pointer (some ⟨p.d, 0, none⟩)] w fun e w' => ∃ B N d, e = .returned (.slice B N d) ∧ OB w' w.heap.size 5 B N d D.kept ∧ qc4 w' base p D ∧ Step mutD base p w w' := by
  obtain ⟨A, c, h⟩ := h; exact (image_any h).mono fun e w' ⟨B, N, d, h1, h2, h3⟩ => ⟨B, N, d, h1, h2, (h.below h3).s, Step.of_below h3 hs⟩
theorem s_aread (h : qc4 w base p D) (hs : base ≤ w.heap.size) (ha : qc3 w ga p.d f m) (hfm : f + m ≤ D.many) (n : Int) :
    Calls Tryz.prog 161 #[.pointer (some ⟨ga, 0, none⟩), .int .i64 n] w fun e w' => e = .returned (.tuple #[aggB (qe1 D f m n).2.1, .int .i64 (qe1 D f m n).2.2]) ∧ qc4 w' base p (qe1 D f m n).1 ∧ Step mutD base p w w' := by
  obtain ⟨A, c, h⟩ := h; exact (aread_any h ha hfm n).mono fun e w' ⟨h1, h2, h3⟩ => ⟨h1, h2.s, Step.of_keep h hs h3⟩
theorem s_awrite (h : qc4 w base p D) (hs : base ≤ w.heap.size) (ha : qc3 w ga p.d f m) (hfm : f + m ≤ D.many) (n : Int) (S : List UInt8) (hS : S.length = 128) (hw : D.waits.length < 1000000) :
    Calls Tryz.prog 185 #[.pointer (some ⟨ga, 0, none⟩), .int .i64 n, aggB S] w fun e w' => e = .returned (.int .i64 (qb0 D f m n S).2) ∧ qc4 w' base p (qb0 D f m n S).1 ∧ Step mutD base p w w' := by
  obtain ⟨A, c, h⟩ := h; exact (va4 h ha hfm n S hS hw hs).mono fun e w' ⟨h1, h2⟩ => ⟨h1, h2.s, Step.of_next h hs h2⟩
theorem s_awipe (h : qc4 w base p D) (hs : base ≤ w.heap.size) (ha : qc3 w ga p.d f m) (hfm : f + m ≤ D.many) (n : Int) (hw : D.waits.length < 1000000) :
    Calls Tryz.prog 131 #[.pointer (some ⟨ga, 0, none⟩), .int .i64 n] w fun e w' => e = .returned (.int .i64 (qb0 D f m n qa5).2) ∧ qc4 w' base p (qb0 D f m n qa5).1 ∧ Step mutD base p w w' := by
  obtain ⟨A, c, h⟩ := h; exact (awipe_any h ha hfm n hw hs).mono fun e w' ⟨h1, h2⟩ => ⟨h1, h2.s, Step.of_next h hs h2⟩
theorem vj4 (h : qc4 w base p D) (hs : base ≤ w.heap.size) (ha : qc3 w ga p.d f m) :
    Calls Tryz.prog 113 #[.pointer (some ⟨ga, 0, none⟩)] w fun e w' => e = .returned (.int .i64 (qc1 D).2) ∧ qc4 w' base p (qc1 D).1 ∧ Step mutD base p w w' := by
  obtain ⟨A, c, h⟩ := h; exact (aflush_any h ha).mono fun e w' ⟨h1, h2⟩ => ⟨h1, h2.s, Step.of_next h hs h2⟩
theorem s_aput (h : qc4 w base p D) (hs : base ≤ w.heap.size) (ha : qc3 w ga p.d f m) (hfm : f + m ≤ D.many) (n kind number : Int) (B : Option Addr) (k d : Nat) (l : List UInt8) (hl : RB w B k l) (hk : k ≤ maxLen) (hnum : number ≤ 9223372036854775807) (hw : D.waits.length < 1000000) :
    Calls Tryz.prog 112 #[.pointer (some ⟨ga, 0, none⟩), .int .i64 n, .int .i64 kind, .int .i64 number, .slice B k d] w fun e w' => e = .returned (.int .i64 (qm5 D f m n kind number l).2) ∧ qc4 w' base p (qm5 D f m n kind number l).1 ∧ Step mutD base p w w' := by
  obtain ⟨A, c, h⟩ := h; exact (aput_any (d := d) h ha hfm n kind number B k l hl hk hnum hw hs).mono fun e w' ⟨h1, h2⟩ => ⟨h1, h2.s, Step.of_next h hs h2⟩
theorem s_atake (h : qc4 w base p D) (hs : base ≤ w.heap.size) (ha : qc3 w ga p.d f m) (hfm : f + m ≤ D.many) (n kind : Int) :
    Calls Tryz.prog 160 #[.pointer (some ⟨ga, 0, none⟩), .int .i64 n, .int .i64 kind] w fun e w' =>
      ∃ B k d, e = .returned (.tuple #[.int .i64 (qg3 D f m n kind).1, .slice B k d, .int .i64 (qg3 D f m n kind).2.2]) ∧ OB w' w.heap.size 5 B k d (qg3 D f m n kind).2.1 ∧ qc4 w' base p (qe1 D f m n).1 ∧ Step mutD base p w w' := by
  obtain ⟨A, c, h⟩ := h; exact (atake_any h ha hfm n kind).mono fun e w' ⟨B, k, d, h1, h2, h3, h4⟩ => ⟨B, k, d, h1, h2, h3.s, Step.of_keep h hs h4⟩
end
end Go.Proofs.YtpmkpckldnnigaaGreat
