/- Parts: DiskK, AreaC, Step. -/
import Derived.Test.YtalmdccgpigppaaGreatPr09
import Derived.Test.YtalmdccgpigppaaGreatPr15
namespace Go.Proofs.YtalmdccgpigppaaGreat
open Go.RowKit
set_option linter.unusedVariables false
set_option linter.unusedSimpArgs false
section
variable {w : World} {d : Option Addr}
theorem NoDisk.alloc (h : NoDisk w d) (o : Obj) : NoDisk (w.alloc o) d := by
  rcases h with rfl | ⟨g, rfl, h⟩
  · exact .inl rfl
  · exact .inr ⟨g, rfl, by rw [World.cell?_alloc_some _ _ _ (by rw [h]; rfl)]; exact h⟩
end
end Go.Proofs.YtalmdccgpigppaaGreat
namespace Go.Proofs.YtalmdccgpigppaaGreat
open Go.RowKit
set_option linter.unusedVariables false
set_option linter.unusedSimpArgs false
def aPutV (D : DiskV) (f m : Nat) (n kind number : Int) (load : List UInt8) : DiskV × Int := if (makeL kind number load).2 ≠ 0 then (D, (makeL kind number load).2) else aWriteV D f m n (makeL kind number load).1
def openV (S : List UInt8) (kind : Int) : Int × List UInt8 × Int := if opens S kind then (sg (openNum S), openLoad S, 0) else (0, [], 53)
def aTakeV (D : DiskV) (f m : Nat) (n kind : Int) : Int × List UInt8 × Int := if (aReadV D f m n).2.2 ≠ 0 then (0, [], (aReadV D f m n).2.2) else openV (aReadV D f m n).2.1 kind
section
variable {w w' : World} {base ga f m : Nat} {p : DiskP} {A : Option Addr} {c : Nat} {D D' : DiskV}
theorem DiskNext.of_below {w1 : World} (hb : Below w.heap.size w w1) (h : DiskNext w1 base p A D' w') : DiskNext w base p A D' w' := by
  obtain ⟨A', c', h1, k, n⟩ := h
  exact ⟨A', c', h1, (Keep.of_below hb).trans k (fun _ _ e => e), fun g e => by rcases n g e with q | q; exact .inl q; exact .inr (by have := hb.size; omega)⟩
theorem awipe_any (h : DiskAt w base p A c D) (ha : AreaAt w ga p.d f m) (hfm : f + m ≤ D.many) (n : Int) (hw : D.waits.length < 1000000) (hbase : base ≤ w.heap.size) :
    Calls Tryz.prog 110 #[.pointer (some ⟨ga, 0, none⟩), .int .i64 n] w fun e w' => e = .returned (.int .i64 (aWriteV D f m n zerosL).2) ∧ DiskNext w base p A (aWriteV D f m n zerosL).1 w' := by
  have he : aggB zerosL = .agg Tryz.zeroCells137 := by kernel_rfl
  have hwr := awrite_any h ha hfm n zerosL zerosL_len hw hbase
  rw [he] at hwr
  generalize (aWriteV D f m n zerosL).1 = D' at *
  generalize (aWriteV D f m n zerosL).2 = z at *
  clear h ha he
  go_enter Tryz.func110, Tryz.ntmps110
  go_wp2_with (first
    | (go_at_call 170; (with_reducible refine (hwr).mono ?_); rintro e w1 ⟨rfl, hN⟩)
    | fail "no arm")
  go_ret
  exact ⟨rfl, hN⟩
theorem aflush_any (h : DiskAt w base p A c D) (ha : AreaAt w ga p.d f m) :
    Calls Tryz.prog 108 #[.pointer (some ⟨ga, 0, none⟩)] w fun e w' => e = .returned (.int .i64 (flushV D).2) ∧ DiskNext w base p A (flushV D).1 w' := by
  have hfl := flush_any h
  have c0 : w.cell? ⟨ga, 0, none⟩ = some (.pointer (some ⟨p.d, 0, none⟩)) := Blk.cell ha 0
  generalize (flushV D).1 = D' at *
  generalize (flushV D).2 = z at *
  clear h ha
  go_enter Tryz.func108, Tryz.ntmps108
  go_wp2_with (first
    | (go_at_call 171; (with_reducible refine (hfl).mono ?_); rintro e w1 ⟨rfl, hN⟩)
    | fail "no arm")
  go_ret
  exact ⟨rfl, hN⟩
set_option maxRecDepth 100000 in
set_option maxHeartbeats 4000000 in
theorem aput_any (h : DiskAt w base p A c D) (ha : AreaAt w ga p.d f m) (hfm : f + m ≤ D.many) (n kind number : Int) (B : Option Addr) (k d : Nat) (l : List UInt8) (hl : RB w B k l) (hk : k ≤ maxLen) (hnum : number ≤ 9223372036854775807) (hw : D.waits.length < 1000000) (hbase : base ≤ w.heap.size) :
    Calls Tryz.prog 107 #[.pointer (some ⟨ga, 0, none⟩), .int .i64 n, .int .i64 kind, .int .i64 number, .slice B k d] w fun e w' => e = .returned (.int .i64 (aPutV D f m n kind number l).2) ∧ DiskNext w base p A (aPutV D f m n kind number l).1 w' := by
  have hz := (zero_of_info zero128).1
  have Hi := Lib.hid (zero_of_info zero128).2
  have hlz : Hid ((zerosL.map bv).length = 128) := by show _ = _; simp [zerosL_len]
  have hmk := make_any kind number B k d l w hnum hk hl
  have hml := makeL_len kind number l
  have c0 : w.cell? ⟨ga, 0, none⟩ = some (.pointer (some ⟨p.d, 0, none⟩)) := Blk.cell ha 0
  have H := Lib.hid h
  have HA := Lib.hid ha
  unfold aPutV
  have hwr := fun w' (hb : Below w.heap.size w w') => awrite_any (h.below hb) (ha.below hb) hfm n (makeL kind number l).1 hml hw (by have := hb.size; omega)
  have hsl : Hid (((makeL kind number l).1.map bv).length = 128) := by show _ = _; rw [List.length_map, hml]
  have hsm := Lib.hid (mem_bv (l := (makeL kind number l).1))
  generalize makeL kind number l = M at *
  obtain ⟨S, z⟩ := M
  simp only at hmk hml hwr hsl hsm ⊢
  by_cases hzz : z = 0
  · rw [if_neg (by omega)]
    subst hzz
    have hne : ((0 : Int) != 0) = false := rfl
    generalize aWriteV D f m n S = RR at *
    obtain ⟨D', z⟩ := RR
    simp only at hwr ⊢
    unfold aggB at *
    generalize S.map bv = SV at *
    generalize zerosL.map bv = Z at *
    clear h ha hml
    go_enter Tryz.func107, Tryz.ntmps107
    go_wp2_with (first
      | ((go_at_call 169; (with_reducible refine (hmk).mono ?_); rintro e w1 ⟨rfl, hb1⟩); have s1 := hb1.size)
      | (refine wpList_store_arr rfl (x := .tmp 11) (y := .tmp 27) rfl rfl rfl (t := 137) (cs := Z) (xs := SV) (Blk.top _ rfl rfl) Hi.out hsl.out (by rw [hlz.out]; omega) hsm.out ?_; intro w2 hb2 hg2 hs2; rw [splice_all _ _ (hlz.out.trans hsl.out.symm)] at hb2; have b2 : Below w.heap.size w w2 := below_of_only (hb1.alloc s1 _) hg2 (by simp; omega) s1)
      | (refine wpList_load_arr rfl (x := .tmp 11) rfl rfl hb2 Tryz.underlying137 Hi.out hsl.out (by rw [List.drop_zero, List.take_of_length_le (by rw [hsl.out]; omega)]) ?_)
      | (go_at_call 170; (with_reducible refine (hwr _ b2).mono ?_); rintro e w3 ⟨rfl, hN⟩)
      | fail "no arm")
    go_ret
    exact ⟨rfl, hN.of_below b2⟩
  · rw [if_pos hzz]
    have hne : (z != 0) = true := by rw [bne_iff_ne]; exact hzz
    unfold aggB at *
    generalize S.map bv = SV at *
    generalize zerosL.map bv = Z at *
    clear h ha hml hwr hzz
    go_enter Tryz.func107, Tryz.ntmps107
    go_wp2_with (first
      | ((go_at_call 169; (with_reducible refine (hmk).mono ?_); rintro e w1 ⟨rfl, hb1⟩); have s1 := hb1.size)
      | (refine wpList_store_arr rfl (x := .tmp 11) (y := .tmp 27) rfl rfl rfl (t := 137) (cs := Z) (xs := SV) (Blk.top _ rfl rfl) Hi.out hsl.out (by rw [hlz.out]; omega) hsm.out ?_; intro w2 hb2 hg2 hs2; rw [splice_all _ _ (hlz.out.trans hsl.out.symm)] at hb2; have b2 : Below w.heap.size w w2 := below_of_only (hb1.alloc s1 _) hg2 (by simp; omega) s1)
      | fail "no arm")
    go_ret
    exact ⟨rfl, DiskNext.same H.out b2⟩
theorem open_v (S : List UInt8) (kind : Int) (w : World) (hl : S.length = 128) : Calls Tryz.prog 150 #[aggB S, .int .i64 kind] w fun e w' =>
    ∃ B k d, e = .returned (.tuple #[.int .i64 (openV S kind).1, .slice B k d, .int .i64 (openV S kind).2.2]) ∧ OB w' w.heap.size 5 B k d (openV S kind).2.1 ∧ Below w.heap.size w w' := by
  refine (open_any S kind w hl).mono fun e w' hE => ?_
  unfold openV
  rcases hE with ⟨hq, he, hb⟩ | ⟨hq, B, d, he, ho, hb⟩
  · rw [hq, if_neg (by simp)]; exact ⟨none, 0, 0, he, Ow.nil _ _ _ _, hb⟩
  · rw [hq, if_pos rfl]; exact ⟨B, _, d, he, ho, hb⟩
set_option maxRecDepth 100000 in
set_option maxHeartbeats 4000000 in
theorem atake_any (h : DiskAt w base p A c D) (ha : AreaAt w ga p.d f m) (hfm : f + m ≤ D.many) (n kind : Int) :
    Calls Tryz.prog 148 #[.pointer (some ⟨ga, 0, none⟩), .int .i64 n, .int .i64 kind] w fun e w' =>
      ∃ B k d, e = .returned (.tuple #[.int .i64 (aTakeV D f m n kind).1, .slice B k d, .int .i64 (aTakeV D f m n kind).2.2]) ∧ OB w' w.heap.size 5 B k d (aTakeV D f m n kind).2.1 ∧ DiskAt w' base p A c (aReadV D f m n).1 ∧ Keep (foot p A) w w' := by
  have hz := (zero_of_info zero128).1
  have Hi := Lib.hid (zero_of_info zero128).2
  have hlz : Hid ((zerosL.map bv).length = 128) := by show _ = _; simp [zerosL_len]
  have hrd := aread_any h ha hfm n
  have hl := aReadV_len (f := f) (m := m) h.ok n
  have hl4 := Lib.hid (fun g hg => h.lt g hg)
  unfold aTakeV
  generalize aReadV D f m n = RR at *
  obtain ⟨D', S, z⟩ := RR
  simp only at hrd hl ⊢
  have hop := fun w => open_v S kind w hl
  have hsl : Hid ((S.map bv).length = 128) := by show _ = _; rw [List.length_map, hl]
  have hsm := Lib.hid (mem_bv (l := S))
  by_cases hzz : z = 0
  · rw [if_neg (by omega)]
    subst hzz
    generalize openV S kind = OV at *
    obtain ⟨N, L, er⟩ := OV
    simp only at hop ⊢
    unfold aggB at *
    generalize S.map bv = SV at *
    generalize zerosL.map bv = Z at *
    clear h ha hl
    go_enter Tryz.func148, Tryz.ntmps148
    go_wp2_with (first
      | ((go_at_call 149; (with_reducible refine (hrd).mono ?_); rintro e w1 ⟨rfl, h1, k1⟩); have s1 := k1.size; have H1 := Lib.hid h1; clear h1)
      | (refine wpList_store_arr rfl (x := .tmp 9) (y := .tmp 14) rfl rfl rfl (t := 137) (cs := Z) (xs := SV) (Blk.top _ rfl rfl) Hi.out hsl.out (by rw [hlz.out]; omega) hsm.out ?_; intro w2 hb2 hg2 hs2; rw [splice_all _ _ (hlz.out.trans hsl.out.symm)] at hb2; have b2 : Below w1.heap.size w1 w2 := below_of_only ((Below.refl w1.heap.size w1).alloc (Nat.le_refl _) _) hg2 (by first | omega | (simp; done) | (simp; omega)) (by first | omega | (simp; done) | (simp; omega)); have s2 := b2.size)
      | (refine wpList_load_arr rfl (x := .tmp 9) rfl rfl hb2 Tryz.underlying137 Hi.out hsl.out (by rw [List.drop_zero, List.take_of_length_le (by rw [hsl.out]; omega)]) ?_)
      | (go_at_call 150; (with_reducible refine (hop _).mono ?_); rintro e w3 ⟨B3, k3, d3, rfl, o3, b3⟩)
      | fail "no arm")
    go_ret3
    have b13 : Below w1.heap.size w1 w3 := b2.trans (b3.mono s2)
    exact ⟨B3, k3, d3, rfl, o3.rebase (by omega), H1.out.below b13, k1.then_below b13⟩
  · rw [if_pos hzz]
    have hne : (z != 0) = true := by rw [bne_iff_ne]; exact hzz
    unfold aggB at *
    generalize S.map bv = SV at *
    generalize zerosL.map bv = Z at *
    clear h ha hl hop hzz
    go_enter Tryz.func148, Tryz.ntmps148
    go_wp2_with (first
      | ((go_at_call 149; (with_reducible refine (hrd).mono ?_); rintro e w1 ⟨rfl, h1, k1⟩); have s1 := k1.size; have H1 := Lib.hid h1; clear h1)
      | (refine wpList_store_arr rfl (x := .tmp 9) (y := .tmp 14) rfl rfl rfl (t := 137) (cs := Z) (xs := SV) (Blk.top _ rfl rfl) Hi.out hsl.out (by rw [hlz.out]; omega) hsm.out ?_; intro w2 hb2 hg2 hs2; rw [splice_all _ _ (hlz.out.trans hsl.out.symm)] at hb2; have b2 : Below w1.heap.size w1 w2 := below_of_only ((Below.refl w1.heap.size w1).alloc (Nat.le_refl _) _) hg2 (by first | omega | (simp; done) | (simp; omega)) (by first | omega | (simp; done) | (simp; omega)); have s2 := b2.size)
      | fail "no arm")
    go_ret3
    exact ⟨none, 0, 0, rfl, Ow.nil _ _ _ _, H1.out.below b2, k1.then_below b2⟩
theorem anew_ok (h : DiskAt w base p A c D) (f m : Nat) (h1 : 1 ≤ m) (h2 : f + m ≤ D.many) :
    Calls Tryz.prog 53 #[.pointer (some ⟨p.d, 0, none⟩), .agg #[.int .i64 (f : Int), .int .i64 (m : Int)]] w fun e w' => ∃ ga, e = .returned (.tuple #[.pointer (some ⟨ga, 0, none⟩), .int .i64 0]) ∧ AreaAt w' ga p.d f m ∧ w.heap.size ≤ ga ∧ Below w.heap.size w w' := by
  have hs := fun o => size_any (h.alloc o)
  have hm := h.ok.many1
  generalize D.many = many at *
  clear h
  unfold AreaAt
  go_enter Tryz.func53, Tryz.ntmps53
  go_wp2_with (first
    | (go_at_call 112; (with_reducible refine (hs _).mono ?_); rintro e w1 ⟨rfl, rfl⟩)
    | fail "no arm")
  go_ret2
  exact ⟨w.heap.size + 1, by simp, (by (repeat' (first | (with_reducible assumption) | (with_reducible refine Blk.top _ (by first | rfl | omega | (simp; done) | (simp; omega)) rfl) | (with_reducible refine Blk.alloc ?_ _) | (with_reducible refine Blk.drew ?_) | (with_reducible refine Blk.drewN ?_ _) | (with_reducible refine Blk.far ?_ (by first | omega | (simp; done) | (simp; omega)) _)))), by omega, (by (repeat' (first | (with_reducible exact Below.refl _ _) | (with_reducible assumption) | (with_reducible refine Below.drew ?_) | (with_reducible refine below_drewN ?_ _) | (with_reducible refine Below.alloc ?_ ?_ _) | (with_reducible refine Below.setCell ?_ ?_ _) | omega | (simp; done) | (simp; omega))))⟩
end
end Go.Proofs.YtalmdccgpigppaaGreat
namespace Go.Proofs.YtalmdccgpigppaaGreat
open Go.RowKit
set_option linter.unusedVariables false
set_option linter.unusedSimpArgs false
/-- Types of blocks that what is done to a disk changes. -/
def mutD : List TypeId := [136, 137, 311, 167]
/-- Only blocks of those types were changed, and the two rows of bools. -/
def Touch (M : List TypeId) (p : DiskP) (w w' : World) : Prop := ∃ F : Nat → Prop, Keep F w w' ∧ ∀ g t cs, F g → Blk w g t cs → t ∈ M ∨ g = p.gi ∨ g = p.gm
structure Step (M : List TypeId) (base : Nat) (p : DiskP) (w w' : World) : Prop where
  bel : Below base w w'
  tch : Touch M p w w'
section
variable {M N : List TypeId} {w w' w'' : World} {base : Nat} {p : DiskP} {A : Option Addr} {c : Nat} {D D' : DiskV}
theorem Touch.of_below (hb : Below w.heap.size w w') : Touch M p w w' := ⟨fun _ => False, Keep.of_below hb, fun _ _ _ h => h.elim⟩
theorem Touch.refl (M : List TypeId) (p : DiskP) (w : World) : Touch M p w w := Touch.of_below (Below.refl _ _)
theorem Touch.trans (h : Touch M p w w') (k : Touch M p w' w'') : Touch M p w w'' := by
  obtain ⟨F, hF, tF⟩ := h
  obtain ⟨G, hG, tG⟩ := k
  refine ⟨fun g => F g ∨ G g, (hF.mono (fun g _ e => .inl e)).trans hG (fun g _ e => .inr e), fun g t cs hfg hb => ?_⟩
  by_cases hf : F g
  · exact tF g t cs hf hb
  · rcases hfg with e | e
    · exact absurd e hf
    · exact tG g t cs e (hb.keep hF hf)
theorem Touch.of_next (h : DiskAt w base p A c D) (k : Keep (foot p A) w w') : Touch mutD p w w' := ⟨foot p A, k, fun g t cs hg hb => by
  by_cases h1 : g = p.gi
  · exact .inr (.inl h1)
  by_cases h2 : g = p.gm
  · exact .inr (.inr h2)
  left
  rcases h.foot_ty hb hg with q | q | q | q | q
  · subst q; decide
  · subst q; decide
  · subst q
    have hne : ∀ {g' : Nat} {t' : TypeId} {cs' : List Value}, Blk w g' t' cs' → 4 ≠ t' → g ≠ g' := fun hb' hn => hb.ne_ hb' hn
    rcases hg with e | e | e | e | e | e | e
    · exact absurd e (hne h.st (by decide))
    · exact absurd e (hne h.bk (by decide))
    · exact absurd e (hne h.bn (by decide))
    · exact absurd e h1
    · exact absurd e h2
    · exact absurd e (hne h.mt.2 (by decide))
    · exfalso
      rcases h.wa.2 with ⟨hv, _⟩ | ⟨g', cap, cur, hv, _, hh, _⟩
      · injection hv with hv; subst hv; cases e
      · injection hv with hv; subst hv
        simp only [Option.map_some, Option.some.injEq] at e
        exact hne (g' := g') (t' := 167) (cs' := cur.toList) (by unfold Blk; rw [hh]) (by decide) e.symm
  · subst q; decide
  · subst q; decide⟩
theorem Touch.one {g : Nat} {t : TypeId} {cs : List Value} (hg : w.grownBy w' (some g)) (hb : Blk w g t cs) (ht : t ∈ M) : Touch M p w w' := ⟨(· = g), Keep.one hg, fun g' t' cs' e hb' => by
  subst e
  by_cases q : t' = t
  · subst q; exact .inl ht
  · exact absurd rfl (hb'.ne_ hb q)⟩
theorem Blk.touch {g : Nat} {t : TypeId} {cs : List Value} (h : Blk w g t cs) (k : Touch M p w w') (ht : t ∉ M) (h1 : g ≠ p.gi) (h2 : g ≠ p.gm) : Blk w' g t cs := by
  obtain ⟨F, hF, tF⟩ := k
  refine h.keep hF (fun e => ?_)
  rcases tF g t cs e h with q | q | q
  · exact ht q
  · exact h1 q
  · exact h2 q
/-- A block of a type that is not bool. -/
theorem DiskS.notBool (h : DiskS w base p D) {g : Nat} {t : TypeId} {cs : List Value} (hb : Blk w g t cs) (ht : t ≠ 4) : g ≠ p.gi ∧ g ≠ p.gm := by
  obtain ⟨A, c, h⟩ := h
  exact ⟨hb.ne_ h.bi ht, hb.ne_ h.bm ht⟩
theorem DiskS.blk (h : DiskS w base p D) {g : Nat} {t : TypeId} {cs : List Value} (hb : Blk w g t cs) (k : Touch M p w w') (ht : t ∉ 4 :: M) : Blk w' g t cs := by
  obtain ⟨h1, h2⟩ := h.notBool hb (fun e => ht (by rw [e]; exact List.mem_cons_self ..))
  exact hb.touch k (fun e => ht (List.mem_cons_of_mem _ e)) h1 h2
theorem DiskS.area (h : DiskS w base p D) {ga d f m : Nat} (ha : AreaAt w ga d f m) (k : Touch M p w w') (ht : 204 ∉ 4 :: M) : AreaAt w' ga d f m := h.blk ha k ht
theorem DiskS.ow {α : Type} {enc : α → Value} {b n d : Nat} {e : TypeId} {B : Option Addr} {l : List α} (h : DiskS w base p D) (ho : Ow enc w b e B n d l) (k : Touch M p w w') (ht : e ∉ 4 :: M) : Ow enc w' b e B n d l := by
  obtain ⟨F, hF, tF⟩ := k
  refine ⟨ho.1, own_keep ho.2 hF (fun g hg hf => ?_)⟩
  rcases ho.2.2 with ⟨hv, _⟩ | ⟨g', cap, cur, hv, _, hh, _⟩
  · rw [hv] at hg; cases hg
  · rw [hv] at hg
    have : g' = g := by simpa [Value.ownBlock] using hg
    subst this
    have hb : Blk w g' e cur.toList := by unfold Blk; rw [hh]
    obtain ⟨h1, h2⟩ := h.notBool hb (fun e => ht (by rw [e]; exact List.mem_cons_self ..))
    rcases tF _ _ _ hf hb with q | q | q
    · exact ht (List.mem_cons_of_mem _ q)
    · exact h1 q
    · exact h2 q
theorem Touch.mono (h : Touch M p w w') (hs : ∀ t, t ∈ M → t ∈ N) : Touch N p w w' := by
  obtain ⟨F, hF, tF⟩ := h
  exact ⟨F, hF, fun g t cs e hb => by rcases tF g t cs e hb with q | q; exact .inl (hs t q); exact .inr q⟩
theorem Step.mono (h : Step M base p w w') (hs : ∀ t, t ∈ M → t ∈ N) : Step N base p w w' := ⟨h.bel, h.tch.mono hs⟩
theorem Step.refl (M : List TypeId) (base : Nat) (p : DiskP) (w : World) : Step M base p w w := ⟨Below.refl _ _, Touch.refl _ _ _⟩
theorem Step.of_below (hb : Below w.heap.size w w') (hs : base ≤ w.heap.size) : Step M base p w w' := ⟨hb.mono hs, Touch.of_below hb⟩
theorem Step.trans (h : Step M base p w w') (k : Step M base p w' w'') : Step M base p w w'' := ⟨h.bel.trans k.bel, h.tch.trans k.tch⟩
theorem Step.of_next (h : DiskAt w base p A c D) (hs : base ≤ w.heap.size) (hN : DiskNext w base p A D' w') : Step mutD base p w w' := by
  obtain ⟨A', c', h1, k, _⟩ := hN
  exact ⟨h.belowK k hs, Touch.of_next h k⟩
theorem Step.of_keep (h : DiskAt w base p A c D) (hs : base ≤ w.heap.size) (k : Keep (foot p A) w w') : Step mutD base p w w' := ⟨h.belowK k hs, Touch.of_next h k⟩
theorem Step.one {g : Nat} {t : TypeId} {cs : List Value} (hg : w.grownBy w' (some g)) (hb : Blk w g t cs) (ht : t ∈ M) (hs : base ≤ g) (hw : base ≤ w.heap.size) : Step M base p w w' := ⟨below_of_only (Below.refl _ _) hg hw hs, Touch.one hg hb ht⟩
theorem Step.size (h : Step M base p w w') : w.heap.size ≤ w'.heap.size := h.bel.size
end
section
variable {w : World} {base ga f m : Nat} {p : DiskP} {D : DiskV}
theorem s_cut (h : DiskS w base p D) (hs : base ≤ w.heap.size) (n : Int) (hn : n ≤ 9223372036854775807) : Calls Tryz.prog 30 #[.pointer (some ⟨p.d, 0, none⟩), .int .i64 n] w fun e w' => e = .returned (.tuple #[]) ∧ DiskS w' base p { D with cut := max n (-1) } ∧ Step mutD base p w w' := by
  obtain ⟨A, c, h⟩ := h
  exact (cut_any h n hn).mono fun e w' ⟨h1, h2, h3, _⟩ => ⟨h1, h2.s, Step.of_keep h hs h3⟩
theorem s_crash (h : DiskS w base p D) (hs : base ≤ w.heap.size) (B : Option Addr) (n d : Nat) (cs : List UInt8) (hl : RB w B n cs) (hB : 0 < n → ∀ g, B.map (·.block) = some g → g < base) (hn : n ≤ maxLen) :
    Calls Tryz.prog 32 #[.pointer (some ⟨p.d, 0, none⟩), .slice B n d] w fun e w' => e = .returned (.tuple #[]) ∧ DiskS w' base p (crashV D cs) ∧ Step mutD base p w w' := by
  obtain ⟨A, c, h⟩ := h
  exact (crash_any h B n d cs hl (fun h0 g hg e => by have := hB h0 g e; have := h.bs g hg; omega) hn).mono fun e w' ⟨h1, h2⟩ => ⟨h1, h2.s, Step.of_next h hs h2⟩
theorem s_image (h : DiskS w base p D) (hs : base ≤ w.heap.size) : Calls Tryz.prog 17 #[.pointer (some ⟨p.d, 0, none⟩)] w fun e w' => ∃ B N d, e = .returned (.slice B N d) ∧ OB w' w.heap.size 5 B N d D.kept ∧ DiskS w' base p D ∧ Step mutD base p w w' := by
  obtain ⟨A, c, h⟩ := h
  exact (image_any h).mono fun e w' ⟨B, N, d, h1, h2, h3⟩ => ⟨B, N, d, h1, h2, (h.below h3).s, Step.of_below h3 hs⟩
theorem s_aread (h : DiskS w base p D) (hs : base ≤ w.heap.size) (ha : AreaAt w ga p.d f m) (hfm : f + m ≤ D.many) (n : Int) :
    Calls Tryz.prog 149 #[.pointer (some ⟨ga, 0, none⟩), .int .i64 n] w fun e w' => e = .returned (.tuple #[aggB (aReadV D f m n).2.1, .int .i64 (aReadV D f m n).2.2]) ∧ DiskS w' base p (aReadV D f m n).1 ∧ Step mutD base p w w' := by
  obtain ⟨A, c, h⟩ := h
  exact (aread_any h ha hfm n).mono fun e w' ⟨h1, h2, h3⟩ => ⟨h1, h2.s, Step.of_keep h hs h3⟩
theorem s_awipe (h : DiskS w base p D) (hs : base ≤ w.heap.size) (ha : AreaAt w ga p.d f m) (hfm : f + m ≤ D.many) (n : Int) (hw : D.waits.length < 1000000) :
    Calls Tryz.prog 110 #[.pointer (some ⟨ga, 0, none⟩), .int .i64 n] w fun e w' => e = .returned (.int .i64 (aWriteV D f m n zerosL).2) ∧ DiskS w' base p (aWriteV D f m n zerosL).1 ∧ Step mutD base p w w' := by
  obtain ⟨A, c, h⟩ := h
  exact (awipe_any h ha hfm n hw hs).mono fun e w' ⟨h1, h2⟩ => ⟨h1, h2.s, Step.of_next h hs h2⟩
theorem s_aflush (h : DiskS w base p D) (hs : base ≤ w.heap.size) (ha : AreaAt w ga p.d f m) :
    Calls Tryz.prog 108 #[.pointer (some ⟨ga, 0, none⟩)] w fun e w' => e = .returned (.int .i64 (flushV D).2) ∧ DiskS w' base p (flushV D).1 ∧ Step mutD base p w w' := by
  obtain ⟨A, c, h⟩ := h
  exact (aflush_any h ha).mono fun e w' ⟨h1, h2⟩ => ⟨h1, h2.s, Step.of_next h hs h2⟩
theorem s_aput (h : DiskS w base p D) (hs : base ≤ w.heap.size) (ha : AreaAt w ga p.d f m) (hfm : f + m ≤ D.many) (n kind number : Int) (B : Option Addr) (k d : Nat) (l : List UInt8) (hl : RB w B k l) (hk : k ≤ maxLen) (hnum : number ≤ 9223372036854775807) (hw : D.waits.length < 1000000) :
    Calls Tryz.prog 107 #[.pointer (some ⟨ga, 0, none⟩), .int .i64 n, .int .i64 kind, .int .i64 number, .slice B k d] w fun e w' => e = .returned (.int .i64 (aPutV D f m n kind number l).2) ∧ DiskS w' base p (aPutV D f m n kind number l).1 ∧ Step mutD base p w w' := by
  obtain ⟨A, c, h⟩ := h
  exact (aput_any (d := d) h ha hfm n kind number B k l hl hk hnum hw hs).mono fun e w' ⟨h1, h2⟩ => ⟨h1, h2.s, Step.of_next h hs h2⟩
theorem s_atake (h : DiskS w base p D) (hs : base ≤ w.heap.size) (ha : AreaAt w ga p.d f m) (hfm : f + m ≤ D.many) (n kind : Int) :
    Calls Tryz.prog 148 #[.pointer (some ⟨ga, 0, none⟩), .int .i64 n, .int .i64 kind] w fun e w' =>
      ∃ B k d, e = .returned (.tuple #[.int .i64 (aTakeV D f m n kind).1, .slice B k d, .int .i64 (aTakeV D f m n kind).2.2]) ∧ OB w' w.heap.size 5 B k d (aTakeV D f m n kind).2.1 ∧ DiskS w' base p (aReadV D f m n).1 ∧ Step mutD base p w w' := by
  obtain ⟨A, c, h⟩ := h
  exact (atake_any h ha hfm n kind).mono fun e w' ⟨B, k, d, h1, h2, h3, h4⟩ => ⟨B, k, d, h1, h2, h3.s, Step.of_keep h hs h4⟩
end
end Go.Proofs.YtalmdccgpigppaaGreat
