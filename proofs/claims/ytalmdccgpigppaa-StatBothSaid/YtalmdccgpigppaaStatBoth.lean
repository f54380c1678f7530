/- StatBoth: the tally of events one behind the other is that of both parts together. -/
import Derived.Test.YtalmdccgpigppaaStatD
import Derived.Test.YtalmdccgpigppaaEqInts
import Derived.IntWalk
namespace Go.Proofs.Ytalmdccgpigppaa
open Go.RowKit
set_option linter.unusedVariables false
set_option linter.unusedSimpArgs false
set_option maxRecDepth 100000 in
theorem run_eq_tally (X : Nat → Int) (w : World) : (Op.equalIn 10000 49 (.agg #[.int .i64 (X 0), .int .i64 (X 1), .int .i64 (X 2), .int .i64 (X 3), .int .i64 (X 4), .int .i64 (X 5), .int .i64 (X 6), .int .i64 (X 7), .int .i64 (X 8), .int .i64 (X 9)]) (.agg #[.int .i64 (X 0), .int .i64 (X 1), .int .i64 (X 2), .int .i64 (X 3), .int .i64 (X 4), .int .i64 (X 5), .int .i64 (X 6), .int .i64 (X 7), .int .i64 (X 8), .int .i64 (X 9)])).run Try.prog w = .ok true w := by
  have h := run_eq_ints (P := Try.prog) w Try.underlying3 (by kernel_rfl) Try.underlying49 (by kernel_rfl) 10 (by kernel_rfl) (by kernel_rfl) [X 0, X 1, X 2, X 3, X 4, X 5, X 6, X 7, X 8, X 9] [X 0, X 1, X 2, X 3, X 4, X 5, X 6, X 7, X 8, X 9] rfl rfl
  rw [decide_eq_true rfl] at h
  exact h
set_option maxRecDepth 100000 in
theorem run_eq_tally1 (w : World) : (Op.equalIn 10000 49 (.agg #[.int .i64 1, .int .i64 0, .int .i64 3, .int .i64 0, .int .i64 0, .int .i64 0, .int .i64 0, .int .i64 0, .int .i64 0, .int .i64 0]) (.agg #[.int .i64 1, .int .i64 0, .int .i64 3, .int .i64 0, .int .i64 0, .int .i64 0, .int .i64 0, .int .i64 0, .int .i64 0, .int .i64 0])).run Try.prog w = .ok true w := by
  have h := run_eq_ints (P := Try.prog) w Try.underlying3 (by kernel_rfl) Try.underlying49 (by kernel_rfl) 10 (by kernel_rfl) (by kernel_rfl) [1, 0, 3, 0, 0, 0, 0, 0, 0, 0] [1, 0, 3, 0, 0, 0, 0, 0, 0, 0] rfl rfl
  rw [decide_eq_true rfl] at h
  exact h
theorem elemEv : ElemOf Try.prog 44 133 (.agg #[.int .i64 0, .int .i64 0, .slice none 0 0, .slice none 0 0]) 4 64 := ElemOf.mk' Try.underlying44 (by kernel_rfl) rfl (by decide)
theorem elemRp : ElemOf Try.prog 45 47 (.agg #[.int .i64 0, .int .i64 0]) 2 16 := ElemOf.mk' Try.underlying45 (by kernel_rfl) rfl (by decide)
theorem run_cut_mid {P : Program} {t e : TypeId} {z : Value} {size bytes : Nat} (hE : ElemOf P t e z size bytes) (A : Option Addr) (len cap k n : Nat) (hk : k ≤ n) (h : n ≤ cap) (W : World) :
    (Instr.slice t (.slice A len cap) (some (.int .i64 (k : Int))) (some (.int .i64 (n : Int))) none).run P W = .ok (.slice (if cap = k then A else A.map (·.add (k * size))) (n - k) (cap - k)) W := by
  obtain ⟨ht, ⟨i, hi, _, hs, _⟩, _⟩ := hE
  have hb : (0 : Int) ≤ (k : Int) ∧ (k : Int) ≤ (n : Int) := by omega
  have hb2 : (0 : Int) ≤ (n : Int) ∧ (n : Int) ≤ (cap : Int) := by omega
  simp [Instr.slice, run_underlying ht, Instr.sliceBounds, Instr.sliceBound, hb, hb2, sizeOf, typeInfo, hi, asIntOf, hs]
  rw [if_pos h, if_pos hk]
set_option maxRecDepth 100000 in
set_option maxHeartbeats 4000000 in
theorem awake45 (w : World) : Calls Try.prog 17 #[] w fun e w' => e = .returned (.bool true) ∧ Below w.heap.size w w' := by
  have hadd : ∀ w : World, Calls Try.prog 57 #[.agg #[.int .i64 0, .int .i64 0, .int .i64 0, .int .i64 0, .int .i64 0, .int .i64 0, .int .i64 0, .int .i64 0, .int .i64 0, .int .i64 0], .agg #[.int .i64 2, .int .i64 0, .slice none 0 0, .slice none 0 0], .agg #[.int .i64 0, .int .i64 3]] w fun x w' => x = .returned (.agg #[.int .i64 1, .int .i64 0, .int .i64 3, .int .i64 0, .int .i64 0, .int .i64 0, .int .i64 0, .int .i64 0, .int .i64 0, .int .i64 0]) ∧ Below w.heap.size w w' := fun w => by
    have := add45_any noT 2 0 none none 0 0 0 0 0 3 w ⟨by omega, by omega⟩
    rw [show addT noT 2 0 3 0 = 1 from by decide +kernel, show addT noT 2 0 3 1 = 0 from by decide +kernel, show addT noT 2 0 3 2 = 3 from by decide +kernel, show addT noT 2 0 3 3 = 0 from by decide +kernel, show addT noT 2 0 3 4 = 0 from by decide +kernel, show addT noT 2 0 3 5 = 0 from by decide +kernel, show addT noT 2 0 3 6 = 0 from by decide +kernel, show addT noT 2 0 3 7 = 0 from by decide +kernel, show addT noT 2 0 3 8 = 0 from by decide +kernel, show addT noT 2 0 3 9 = 0 from by decide +kernel] at this
    exact this
  have heq := fun w => run_eq_tally1 w
  go_enter Try.func17, Try.ntmps17
  go_wp2_with (first
    | ((go_at_call 57; (with_reducible refine (hadd _).mono ?_); rintro e w1 ⟨rfl, hb1⟩); have B1 := Lib.hid hb1; clear hb1)
    | fail "no arm")
  go_ret
  have b1 := B1.out
  have s1 := b1.size
  exact ⟨rfl, (by (repeat' (first | (with_reducible exact Below.refl _ _) | (with_reducible assumption) | (with_reducible refine Below.drew ?_) | (with_reducible refine below_drewN ?_ _) | (with_reducible refine Below.alloc ?_ ?_ _) | (with_reducible refine Below.setCell ?_ ?_ _) | omega | (simp; done) | (simp; omega))))⟩
end Go.Proofs.Ytalmdccgpigppaa
namespace Go.Proofs.Ytalmdccgpigppaa.statBoth
open Go.ChangeShapes Go.WideShapes Go.ChangeAt Go.RowKit
set_option linter.unusedVariables false
set_option linter.unusedSimpArgs false
--WALKS
set_option maxRecDepth 100000 in
set_option maxHeartbeats 20000000 in
theorem walk_a (A B : Option Addr) (n0 : Nat) (n c d : Nat) (v : Int) (Kd En Nn : Nat → Int) (w : World) (hA : EvW w A n Kd) (hB : RpW w B n0 En Nn) (hN : ∀ i, Nn i ≤ 9223372036854775807) (hnc : n ≤ c) (hcm : c ≤ maxLen) (hmd : n0 ≤ d) (hdm : d ≤ maxLen) (hv : 0 ≤ v ∧ v ≤ 255) (hnn : n0 ≤ n) (hnm : n0 ≤ n0) (h60 : n0 ≤ 60) (hcase : (n0 : Int) < (n : Int)) :
    Calls Try.prog 4 #[.slice A n c, .slice B n0 d, .int .u8 v] w fun e w' => e = .returned (.bool true) ∧ Below w.heap.size w w' := by
  obtain ⟨k0, hk0⟩ : ∃ k0 : Nat, v.tmod ((n0 : Int) + 1) = (k0 : Int) := ⟨(v.tmod ((n0 : Int) + 1)).toNat, by rw [Int.tmod_eq_emod_of_nonneg hv.1]; have := Int.emod_nonneg v (show (n0 : Int) + 1 ≠ 0 by omega); omega⟩
  have hk1 : k0 ≤ n0 := by
    have h1 := Int.emod_lt_of_pos v (show (0 : Int) < (n0 : Int) + 1 by omega)
    rw [Int.tmod_eq_emod_of_nonneg hv.1] at hk0
    omega
  have hwr : IntKind.i64.wrap (k0 : Int) = (k0 : Int) := by rw [IntKind.wrap_i64]; omega
  have hwv : IntKind.i64.wrap v = v := by rw [IntKind.wrap_i64]; omega
  have hsA1 : ∀ W : World, (Instr.slice 44 (.slice A n c) none (some (.int .i64 (k0 : Int))) none).run Try.prog W = .ok (.slice A k0 c) W := run_cut_to elemEv A n c k0 (by omega)
  have hsB1 : ∀ W : World, (Instr.slice 45 (.slice B n0 d) none (some (.int .i64 (k0 : Int))) none).run Try.prog W = .ok (.slice B k0 d) W := run_cut_to elemRp B n0 d k0 (by omega)
  have hsA3 : ∀ W : World, (Instr.slice 44 (.slice A n c) none (some (.int .i64 (n0 : Int))) none).run Try.prog W = .ok (.slice A n0 c) W := run_cut_to elemEv A n c n0 (by omega)
  have hsB3 : ∀ W : World, (Instr.slice 45 (.slice B n0 d) none (some (.int .i64 (n0 : Int))) none).run Try.prog W = .ok (.slice B n0 d) W := run_cut_to elemRp B n0 d n0 (by omega)
  obtain ⟨A2, hA2⟩ : ∃ A2, (if c = k0 then A else A.map (·.add (k0 * 4))) = A2 := ⟨_, rfl⟩
  obtain ⟨B2, hB2⟩ : ∃ B2, (if d = k0 then B else B.map (·.add (k0 * 2))) = B2 := ⟨_, rfl⟩
  have hsA2 : ∀ W : World, (Instr.slice 44 (.slice A n c) (some (.int .i64 (k0 : Int))) (some (.int .i64 (n0 : Int))) none).run Try.prog W = .ok (.slice A2 (n0 - k0) (c - k0)) W := fun W => by rw [← hA2]; exact run_cut_mid elemEv A n c k0 n0 hk1 (by omega) W
  have hsB2 : ∀ W : World, (Instr.slice 45 (.slice B n0 d) (some (.int .i64 (k0 : Int))) (some (.int .i64 (n0 : Int))) none).run Try.prog W = .ok (.slice B2 (n0 - k0) (d - k0)) W := fun W => by rw [← hB2]; exact run_cut_mid elemRp B n0 d k0 n0 hk1 (by omega) W
  have hw1 : ∀ {V : World}, Below w.heap.size w V → EvW V A n Kd ∧ RpW V B n0 En Nn := fun h => ⟨hA.below h (Nat.le_refl _), hB.below h (Nat.le_refl _)⟩
  have hof1 : ∀ V : World, Below w.heap.size w V → Calls Try.prog 18 #[.slice A k0 c, .slice B k0 d] V fun e w' => e = .returned (.tuple #[.agg #[.int .i64 ((ofN Kd En Nn k0) 0), .int .i64 ((ofN Kd En Nn k0) 1), .int .i64 ((ofN Kd En Nn k0) 2), .int .i64 ((ofN Kd En Nn k0) 3), .int .i64 ((ofN Kd En Nn k0) 4), .int .i64 ((ofN Kd En Nn k0) 5), .int .i64 ((ofN Kd En Nn k0) 6), .int .i64 ((ofN Kd En Nn k0) 7), .int .i64 ((ofN Kd En Nn k0) 8), .int .i64 ((ofN Kd En Nn k0) 9)], .int .i64 0]) ∧ Below V.heap.size V w' := fun V h => of_any A B k0 c d Kd En Nn V ((hw1 h).1.front (by omega)) ((hw1 h).2.front (by omega)) (by omega)
  have hof3 : ∀ V : World, Below w.heap.size w V → Calls Try.prog 18 #[.slice A n0 c, .slice B n0 d] V fun e w' => e = .returned (.tuple #[.agg #[.int .i64 ((ofN Kd En Nn n0) 0), .int .i64 ((ofN Kd En Nn n0) 1), .int .i64 ((ofN Kd En Nn n0) 2), .int .i64 ((ofN Kd En Nn n0) 3), .int .i64 ((ofN Kd En Nn n0) 4), .int .i64 ((ofN Kd En Nn n0) 5), .int .i64 ((ofN Kd En Nn n0) 6), .int .i64 ((ofN Kd En Nn n0) 7), .int .i64 ((ofN Kd En Nn n0) 8), .int .i64 ((ofN Kd En Nn n0) 9)], .int .i64 0]) ∧ Below V.heap.size V w' := fun V h => of_any A B n0 c d Kd En Nn V ((hw1 h).1.front (by omega)) ((hw1 h).2.front (by omega)) (by omega)
  have hof2 : ∀ V : World, Below w.heap.size w V → Calls Try.prog 18 #[.slice A2 (n0 - k0) (c - k0), .slice B2 (n0 - k0) (d - k0)] V fun e w' => e = .returned (.tuple #[.agg #[.int .i64 ((ofN (fun i => Kd (k0 + i)) (fun i => En (k0 + i)) (fun i => Nn (k0 + i)) (n0 - k0)) 0), .int .i64 ((ofN (fun i => Kd (k0 + i)) (fun i => En (k0 + i)) (fun i => Nn (k0 + i)) (n0 - k0)) 1), .int .i64 ((ofN (fun i => Kd (k0 + i)) (fun i => En (k0 + i)) (fun i => Nn (k0 + i)) (n0 - k0)) 2), .int .i64 ((ofN (fun i => Kd (k0 + i)) (fun i => En (k0 + i)) (fun i => Nn (k0 + i)) (n0 - k0)) 3), .int .i64 ((ofN (fun i => Kd (k0 + i)) (fun i => En (k0 + i)) (fun i => Nn (k0 + i)) (n0 - k0)) 4), .int .i64 ((ofN (fun i => Kd (k0 + i)) (fun i => En (k0 + i)) (fun i => Nn (k0 + i)) (n0 - k0)) 5), .int .i64 ((ofN (fun i => Kd (k0 + i)) (fun i => En (k0 + i)) (fun i => Nn (k0 + i)) (n0 - k0)) 6), .int .i64 ((ofN (fun i => Kd (k0 + i)) (fun i => En (k0 + i)) (fun i => Nn (k0 + i)) (n0 - k0)) 7), .int .i64 ((ofN (fun i => Kd (k0 + i)) (fun i => En (k0 + i)) (fun i => Nn (k0 + i)) (n0 - k0)) 8), .int .i64 ((ofN (fun i => Kd (k0 + i)) (fun i => En (k0 + i)) (fun i => Nn (k0 + i)) (n0 - k0)) 9)], .int .i64 0]) ∧ Below V.heap.size V w' := fun V h => of_any A2 B2 (n0 - k0) (c - k0) (d - k0) _ _ _ V (by
    rw [← hA2]
    by_cases q : c = k0
    · intro i hi; omega
    · rw [if_neg q]; exact (hw1 h).1.cut (n0 - k0) (by omega)) (by
    rw [← hB2]
    by_cases q : d = k0
    · intro i hi; omega
    · rw [if_neg q]; exact (hw1 h).2.cut (n0 - k0) (by omega)) (by omega)
  have hbo := fun W => both_any (ofN Kd En Nn k0) (ofN (fun i => Kd (k0 + i)) (fun i => En (k0 + i)) (fun i => Nn (k0 + i)) (n0 - k0)) W
  rw [show bothT (ofN Kd En Nn k0) (ofN (fun i => Kd (k0 + i)) (fun i => En (k0 + i)) (fun i => Nn (k0 + i)) (n0 - k0)) = ofN Kd En Nn n0 from by
    funext j
    rw [both_parts Kd En Nn hN k0 (n0 - k0) j, show k0 + (n0 - k0) = n0 by omega]] at hbo
  generalize ofN Kd En Nn k0 = R1 at *
  generalize ofN (fun i => Kd (k0 + i)) (fun i => En (k0 + i)) (fun i => Nn (k0 + i)) (n0 - k0) = R2 at *
  generalize ofN Kd En Nn n0 = R3 at *
  have HRP := Lib.hid (fun (V : World) (h : Below w.heap.size w V) => (hw1 h).2)
  have hcI : (c : Int) ≤ 9223372036854775807 := by unfold maxLen at hcm; omega
  have hdI : (d : Int) ≤ 9223372036854775807 := by unfold maxLen at hdm; omega
  have heq := fun W => run_eq_tally R3 W
  clear hw1 hA2 hB2 hA hB hv hcm hdm
  go_enter Try.func4, Try.ntmps4
  go_wp2_with (first
    | ((go_at_call 17; (with_reducible refine (awake45 _).mono ?_); rintro e w1 ⟨rfl, hb1⟩); have B1 := Lib.hid hb1; clear hb1)
    | fail "no arm")
  go_loopw [9, 30] (fun _ i wr => ∃ k : Nat, k ≤ n0 ∧ i = .int .i64 (k : Nat) ∧ Below w.heap.size w wr) (fun _ i _ => n0 - (intOf i).toNat)
  case atStart => exact ⟨0, by omega, rfl, B1.out⟩
  case round =>
    obtain ⟨k, hk, rfl, hb⟩ := hrel
    have HB := Lib.hid hb
    have hbs := hb.size
    clear hb B1
    by_cases hlt : k < n0
    · obtain ⟨b', o', hBB, hbl', y0, y1, _, _⟩ := (HRP.out _ HB.out) k (by omega)
      have hkI : (k : Int) < n0 := by omega
      subst hBB
      clear hsA1 hsA2 hsA3 hsB1 hsB2 hsB3 hof1 hof2 hof3 hbo heq
      by_cases hneg : Nn k < 0
      · go_wp2
        go_ret
        have hb := HB.out
        exact ⟨rfl, (by (repeat' (first | (with_reducible exact Below.refl _ _) | (with_reducible assumption) | (with_reducible refine Below.drew ?_) | (with_reducible refine below_drewN ?_ _) | (with_reducible refine Below.alloc ?_ ?_ _) | (with_reducible refine Below.setCell ?_ ?_ _) | omega | (simp; done) | (simp; omega))))⟩
      · go_wp2
        go_roundw
        have hb := HB.out
        case rel => first
          | exact ⟨k + 1, by omega, by go_num, (by (repeat' (first | (with_reducible exact Below.refl _ _) | (with_reducible assumption) | (with_reducible refine Below.drew ?_) | (with_reducible refine below_drewN ?_ _) | (with_reducible refine Below.alloc ?_ ?_ _) | (with_reducible refine Below.setCell ?_ ?_ _) | omega | (simp; done) | (simp; omega))))⟩
          | ((repeat apply Exists.intro); exact ⟨⟨k + 1, by omega, by go_num, (by (repeat' (first | (with_reducible exact Below.refl _ _) | (with_reducible assumption) | (with_reducible refine Below.drew ?_) | (with_reducible refine below_drewN ?_ _) | (with_reducible refine Below.alloc ?_ ?_ _) | (with_reducible refine Below.setCell ?_ ?_ _) | omega | (simp; done) | (simp; omega))))⟩, rfl⟩)
        case measure => simp [intOf]; omega
    · have hk9 : k = n0 := by omega
      subst hk9
      clear hlt hk
      go_wp2_with fail
      go_upto_region 13 with fail
      go_cut [11, 12] (fun xa xe wx => ∃ g, xa = .pointer (some ⟨g, 0, none⟩) ∧ xe = .int .i64 0 ∧ Blk wx g 49 [.int .i64 (R1 0), .int .i64 (R1 1), .int .i64 (R1 2), .int .i64 (R1 3), .int .i64 (R1 4), .int .i64 (R1 5), .int .i64 (R1 6), .int .i64 (R1 7), .int .i64 (R1 8), .int .i64 (R1 9)] ∧ Below w.heap.size w wx)
      case first =>
        have hb := HB.out
        refine wp_region_held_drew (S := fun w' => Below w.heap.size w w') (by kernel_rfl) hb.drew (fun hHeld => ?_)
        replace hb := hb.drew
        generalize World.drew _ = W0 at *
        refine wpAnyH_take (i := 0) (v := ?_) rfl (by decide +kernel) (by decide +kernel) (by decide +kernel) (fun _ _ _ h => h) (Or.inl ⟨by rfl, ?_⟩) (by assumption) ?_
        rotate_left 1
        · (intro w hSw; (try dsimp only at hSw); go_simp; try (with_reducible rfl))
        try simp only [List.getElem_toArray, List.getElem_cons_zero, List.getElem_cons_succ, Act.put, List.setIfInBounds_toArray, List.set_cons_zero, List.set_cons_succ]
        refine wpAnyH_take (i := 1) (v := ?_) rfl (by decide +kernel) (by decide +kernel) (by decide +kernel) (fun _ _ _ h => h) (Or.inl ⟨by rfl, ?_⟩) (by assumption) ?_
        rotate_left 1
        · (intro w hSw; (try dsimp only at hSw); go_simp; try (with_reducible rfl))
        try simp only [List.getElem_toArray, List.getElem_cons_zero, List.getElem_cons_succ, Act.put, List.setIfInBounds_toArray, List.set_cons_zero, List.set_cons_succ]
        refine wpAnyH_take (i := 2) (v := ?_) rfl (by decide +kernel) (by decide +kernel) (by decide +kernel) (fun _ _ _ h => h) (Or.inl ⟨by rfl, ?_⟩) (by assumption) ?_
        rotate_left 1
        · (intro w hSw; (try dsimp only at hSw); go_simp; try (with_reducible rfl))
        try simp only [List.getElem_toArray, List.getElem_cons_zero, List.getElem_cons_succ, Act.put, List.setIfInBounds_toArray, List.set_cons_zero, List.set_cons_succ]
        refine wpAnyH_take (i := 3) (v := ?_) rfl (by decide +kernel) (by decide +kernel) (by decide +kernel) (fun _ _ _ h => h) (Or.inl ⟨by rfl, ?_⟩) (by assumption) ?_
        rotate_left 1
        · (intro w hSw; (try dsimp only at hSw); go_simp; try (with_reducible rfl))
        try simp only [List.getElem_toArray, List.getElem_cons_zero, List.getElem_cons_succ, Act.put, List.setIfInBounds_toArray, List.set_cons_zero, List.set_cons_succ]
        refine wpAnyH_take (i := 4) (v := ?_) rfl (by decide +kernel) (by decide +kernel) (by decide +kernel) (fun _ _ _ h => h) (Or.inl ⟨by rfl, ?_⟩) (by assumption) ?_
        rotate_left 1
        · (intro w hSw; (try dsimp only at hSw); go_simp; try (with_reducible rfl))
        try simp only [List.getElem_toArray, List.getElem_cons_zero, List.getElem_cons_succ, Act.put, List.setIfInBounds_toArray, List.set_cons_zero, List.set_cons_succ]
        refine wpAnyH_take (i := 5) (v := ?_) rfl (by decide +kernel) (by decide +kernel) (by decide +kernel) (fun _ _ _ h => h) (Or.inl ⟨by rfl, ?_⟩) (by assumption) ?_
        rotate_left 1
        · (intro w hSw; (try dsimp only at hSw); go_simp; try (with_reducible rfl))
        try simp only [List.getElem_toArray, List.getElem_cons_zero, List.getElem_cons_succ, Act.put, List.setIfInBounds_toArray, List.set_cons_zero, List.set_cons_succ]
        refine wpAnyH_ready (rs := [6, 10]) (by decide +kernel) (by simp) ?_
        refine AllReadyH.cons rfl (fun K hK => ?_) (AllReadyH.cons rfl (fun K hK => ?_) AllReadyH.nil)
        · skip
          go_simp
          (go_at_call 18; (with_reducible refine (hof1 _ hb).mono ?_); rintro e w5 ⟨rfl, hb5⟩)
          have hs5 := hb.size
          replace hb := hb.trans (hb5.mono hs5)
          clear hb5
          refine hK.out _ _ (hb) (fun hHeld => ?_)
          clear hK K
          try simp only [List.getElem_toArray, List.getElem_cons_zero, List.getElem_cons_succ, Act.put, List.setIfInBounds_toArray, List.set_cons_zero, List.set_cons_succ]
          refine wpAnyH_take (i := 7) (v := ?_) rfl (by decide +kernel) (by decide +kernel) (by decide +kernel) (fun _ _ _ h => h) (Or.inl ⟨by rfl, ?_⟩) (by assumption) ?_
          rotate_left 1
          · (intro w hSw; (try dsimp only at hSw); go_simp; try (with_reducible rfl))
          try simp only [List.getElem_toArray, List.getElem_cons_zero, List.getElem_cons_succ, Act.put, List.setIfInBounds_toArray, List.set_cons_zero, List.set_cons_succ]
          refine wpAnyH_take (i := 8) (v := ?_) rfl (by decide +kernel) (by decide +kernel) (by decide +kernel) (fun _ _ _ h => h) (Or.inl ⟨by rfl, ?_⟩) (by assumption) ?_
          rotate_left 1
          · (intro w hSw; (try dsimp only at hSw); go_simp; try (with_reducible rfl))
          try simp only [List.getElem_toArray, List.getElem_cons_zero, List.getElem_cons_succ, Act.put, List.setIfInBounds_toArray, List.set_cons_zero, List.set_cons_succ]
          refine wpAnyH_take (i := 9) (v := ?_) rfl (by decide +kernel) (by decide +kernel) (by decide +kernel) (fun _ _ _ h => h) (Or.inl ⟨by rfl, ?_⟩) (by assumption) ?_
          rotate_left 1
          · (intro w hSw; (try dsimp only at hSw); go_simp; try (with_reducible rfl))
          try simp only [List.getElem_toArray, List.getElem_cons_zero, List.getElem_cons_succ, Act.put, List.setIfInBounds_toArray, List.set_cons_zero, List.set_cons_succ]
          refine wpAnyH_ready (rs := [10]) (by decide +kernel) (by simp) ?_
          refine AllReadyH.cons rfl (fun K hK => ?_) AllReadyH.nil
          go_simp
          have hz := Blk.top (g := (w5).heap.size) (t := 49) (cs := [.int .i64 0, .int .i64 0, .int .i64 0, .int .i64 0, .int .i64 0, .int .i64 0, .int .i64 0, .int .i64 0, .int .i64 0, .int .i64 0]) w5 rfl rfl
          have hlow := hb.size
          replace hb := hb.alloc hlow (.cells #[.int .i64 0, .int .i64 0, .int .i64 0, .int .i64 0, .int .i64 0, .int .i64 0, .int .i64 0, .int .i64 0, .int .i64 0, .int .i64 0] 49)
          obtain ⟨W6, hW6⟩ : ∃ W6, (w5).alloc (.cells #[.int .i64 0, .int .i64 0, .int .i64 0, .int .i64 0, .int .i64 0, .int .i64 0, .int .i64 0, .int .i64 0, .int .i64 0, .int .i64 0] 49) = W6 := ⟨_, rfl⟩
          obtain ⟨G6, hG6⟩ : ∃ G6, (w5).heap.size = G6 := ⟨_, rfl⟩
          simp only [hW6, hG6] at *
          clear hW6 hG6
          refine hK.out _ _ (hb) (fun hHeld => ?_)
          clear hK K
          try simp only [List.getElem_toArray, List.getElem_cons_zero, List.getElem_cons_succ, Act.put, List.setIfInBounds_toArray, List.set_cons_zero, List.set_cons_succ]
          refine wpAnyH_ready (rs := [11]) (by decide +kernel) (by simp) ?_
          refine AllReadyH.cons rfl (fun K hK => ?_) AllReadyH.nil
          rw [if_pos (by rfl)]
          refine wp_store_eq 49 (.tmp 11) (.tmp 51) rfl G6 0 #[.int .i64 (R1 0), .int .i64 (R1 1), .int .i64 (R1 2), .int .i64 (R1 3), .int .i64 (R1 4), .int .i64 (R1 5), .int .i64 (R1 6), .int .i64 (R1 7), .int .i64 (R1 8), .int .i64 (R1 9)] rfl rfl (hz.there 0 10 (by simp)) (by kernel_rfl) (all_oneCell_toArray (tl_one R1)) ?_
          intro S1 hS1
          replace hz : Blk S1 G6 49 [.int .i64 (R1 0), .int .i64 (R1 1), .int .i64 (R1 2), .int .i64 (R1 3), .int .i64 (R1 4), .int .i64 (R1 5), .int .i64 (R1 6), .int .i64 (R1 7), .int .i64 (R1 8), .int .i64 (R1 9)] := by rw [hS1]; exact hz.setAll rfl
          replace hb : Below w.heap.size w S1 := by rw [hS1]; exact below_setCells hb hlow _ _
          clear hS1
          refine hK.out _ _ (hb) (fun hHeld => ?_)
          clear hK K
          try simp only [List.getElem_toArray, List.getElem_cons_zero, List.getElem_cons_succ, Act.put, List.setIfInBounds_toArray, List.set_cons_zero, List.set_cons_succ]
          refine wpAnyH_take (i := 12) (v := ?_) rfl (by decide +kernel) (by decide +kernel) (by decide +kernel) (fun _ _ _ h => h) (Or.inl ⟨by rfl, ?_⟩) (by assumption) ?_
          rotate_left 1
          · (intro w hSw; (try dsimp only at hSw); go_simp; try (with_reducible rfl))
          try simp only [List.getElem_toArray, List.getElem_cons_zero, List.getElem_cons_succ, Act.put, List.setIfInBounds_toArray, List.set_cons_zero, List.set_cons_succ]
          refine wpAnyH_done (by decide +kernel) ?_ _
          clear hHeld
          go_wp2
          go_meet
          exact ⟨G6, rfl, rfl, hz, hb⟩
        · skip
          go_simp
          have hz := Blk.top (g := (W0).heap.size) (t := 49) (cs := [.int .i64 0, .int .i64 0, .int .i64 0, .int .i64 0, .int .i64 0, .int .i64 0, .int .i64 0, .int .i64 0, .int .i64 0, .int .i64 0]) W0 rfl rfl
          have hlow := hb.size
          replace hb := hb.alloc hlow (.cells #[.int .i64 0, .int .i64 0, .int .i64 0, .int .i64 0, .int .i64 0, .int .i64 0, .int .i64 0, .int .i64 0, .int .i64 0, .int .i64 0] 49)
          obtain ⟨W6, hW6⟩ : ∃ W6, (W0).alloc (.cells #[.int .i64 0, .int .i64 0, .int .i64 0, .int .i64 0, .int .i64 0, .int .i64 0, .int .i64 0, .int .i64 0, .int .i64 0, .int .i64 0] 49) = W6 := ⟨_, rfl⟩
          obtain ⟨G6, hG6⟩ : ∃ G6, (W0).heap.size = G6 := ⟨_, rfl⟩
          simp only [hW6, hG6] at *
          clear hW6 hG6
          refine hK.out _ _ (hb) (fun hHeld => ?_)
          clear hK K
          try simp only [List.getElem_toArray, List.getElem_cons_zero, List.getElem_cons_succ, Act.put, List.setIfInBounds_toArray, List.set_cons_zero, List.set_cons_succ]
          refine wpAnyH_ready (rs := [6]) (by decide +kernel) (by simp) ?_
          refine AllReadyH.cons rfl (fun K hK => ?_) AllReadyH.nil
          go_simp
          (go_at_call 18; (with_reducible refine (hof1 _ hb).mono ?_); rintro e w5 ⟨rfl, hb5⟩)
          have hs5 := hb.size
          replace hz := hz.below hb5 hz.lt
          replace hb := hb.trans (hb5.mono hs5)
          clear hb5
          refine hK.out _ _ (hb) (fun hHeld => ?_)
          clear hK K
          try simp only [List.getElem_toArray, List.getElem_cons_zero, List.getElem_cons_succ, Act.put, List.setIfInBounds_toArray, List.set_cons_zero, List.set_cons_succ]
          refine wpAnyH_take (i := 7) (v := ?_) rfl (by decide +kernel) (by decide +kernel) (by decide +kernel) (fun _ _ _ h => h) (Or.inl ⟨by rfl, ?_⟩) (by assumption) ?_
          rotate_left 1
          · (intro w hSw; (try dsimp only at hSw); go_simp; try (with_reducible rfl))
          try simp only [List.getElem_toArray, List.getElem_cons_zero, List.getElem_cons_succ, Act.put, List.setIfInBounds_toArray, List.set_cons_zero, List.set_cons_succ]
          refine wpAnyH_take (i := 8) (v := ?_) rfl (by decide +kernel) (by decide +kernel) (by decide +kernel) (fun _ _ _ h => h) (Or.inl ⟨by rfl, ?_⟩) (by assumption) ?_
          rotate_left 1
          · (intro w hSw; (try dsimp only at hSw); go_simp; try (with_reducible rfl))
          try simp only [List.getElem_toArray, List.getElem_cons_zero, List.getElem_cons_succ, Act.put, List.setIfInBounds_toArray, List.set_cons_zero, List.set_cons_succ]
          refine wpAnyH_take (i := 9) (v := ?_) rfl (by decide +kernel) (by decide +kernel) (by decide +kernel) (fun _ _ _ h => h) (Or.inl ⟨by rfl, ?_⟩) (by assumption) ?_
          rotate_left 1
          · (intro w hSw; (try dsimp only at hSw); go_simp; try (with_reducible rfl))
          try simp only [List.getElem_toArray, List.getElem_cons_zero, List.getElem_cons_succ, Act.put, List.setIfInBounds_toArray, List.set_cons_zero, List.set_cons_succ]
          refine wpAnyH_ready (rs := [11]) (by decide +kernel) (by simp) ?_
          refine AllReadyH.cons rfl (fun K hK => ?_) AllReadyH.nil
          rw [if_pos (by rfl)]
          refine wp_store_eq 49 (.tmp 11) (.tmp 51) rfl G6 0 #[.int .i64 (R1 0), .int .i64 (R1 1), .int .i64 (R1 2), .int .i64 (R1 3), .int .i64 (R1 4), .int .i64 (R1 5), .int .i64 (R1 6), .int .i64 (R1 7), .int .i64 (R1 8), .int .i64 (R1 9)] rfl rfl (hz.there 0 10 (by simp)) (by kernel_rfl) (all_oneCell_toArray (tl_one R1)) ?_
          intro S1 hS1
          replace hz : Blk S1 G6 49 [.int .i64 (R1 0), .int .i64 (R1 1), .int .i64 (R1 2), .int .i64 (R1 3), .int .i64 (R1 4), .int .i64 (R1 5), .int .i64 (R1 6), .int .i64 (R1 7), .int .i64 (R1 8), .int .i64 (R1 9)] := by rw [hS1]; exact hz.setAll rfl
          replace hb : Below w.heap.size w S1 := by rw [hS1]; exact below_setCells hb hlow _ _
          clear hS1
          refine hK.out _ _ (hb) (fun hHeld => ?_)
          clear hK K
          try simp only [List.getElem_toArray, List.getElem_cons_zero, List.getElem_cons_succ, Act.put, List.setIfInBounds_toArray, List.set_cons_zero, List.set_cons_succ]
          refine wpAnyH_take (i := 12) (v := ?_) rfl (by decide +kernel) (by decide +kernel) (by decide +kernel) (fun _ _ _ h => h) (Or.inl ⟨by rfl, ?_⟩) (by assumption) ?_
          rotate_left 1
          · (intro w hSw; (try dsimp only at hSw); go_simp; try (with_reducible rfl))
          try simp only [List.getElem_toArray, List.getElem_cons_zero, List.getElem_cons_succ, Act.put, List.setIfInBounds_toArray, List.set_cons_zero, List.set_cons_succ]
          refine wpAnyH_done (by decide +kernel) ?_ _
          clear hHeld
          go_wp2
          go_meet
          exact ⟨G6, rfl, rfl, hz, hb⟩
      case rest =>
        obtain ⟨g1, rfl, rfl, hz13, hb13⟩ := hcut
        clear HB
        have HB := Lib.hid hb13
        clear hb13
        have Hhg1 := Lib.hid hz13
        clear hz13
        go_upto_region 14 with fail
        go_cut [13, 14] (fun xa xe wx => ∃ g, xa = .pointer (some ⟨g, 0, none⟩) ∧ xe = .int .i64 0 ∧ Blk wx g 49 [.int .i64 (R2 0), .int .i64 (R2 1), .int .i64 (R2 2), .int .i64 (R2 3), .int .i64 (R2 4), .int .i64 (R2 5), .int .i64 (R2 6), .int .i64 (R2 7), .int .i64 (R2 8), .int .i64 (R2 9)] ∧ Below w.heap.size w wx ∧ Blk wx g1 49 [.int .i64 (R1 0), .int .i64 (R1 1), .int .i64 (R1 2), .int .i64 (R1 3), .int .i64 (R1 4), .int .i64 (R1 5), .int .i64 (R1 6), .int .i64 (R1 7), .int .i64 (R1 8), .int .i64 (R1 9)])
        case first =>
          have hb := HB.out
          have hg1 := Hhg1.out
          refine wp_region_held_drew (S := fun w' => Below w.heap.size w w') (by kernel_rfl) hb.drew (fun hHeld => ?_)
          replace hb := hb.drew
          replace hg1 := hg1.drew
          generalize World.drew _ = W0 at *
          refine wpAnyH_take (i := 0) (v := ?_) rfl (by decide +kernel) (by decide +kernel) (by decide +kernel) (fun _ _ _ h => h) (Or.inl ⟨by rfl, ?_⟩) (by assumption) ?_
          rotate_left 1
          · (intro w hSw; (try dsimp only at hSw); go_simp; try (with_reducible rfl))
          try simp only [List.getElem_toArray, List.getElem_cons_zero, List.getElem_cons_succ, Act.put, List.setIfInBounds_toArray, List.set_cons_zero, List.set_cons_succ]
          refine wpAnyH_take (i := 1) (v := ?_) rfl (by decide +kernel) (by decide +kernel) (by decide +kernel) (fun _ _ _ h => h) (Or.inl ⟨by rfl, ?_⟩) (by assumption) ?_
          rotate_left 1
          · (intro w hSw; (try dsimp only at hSw); go_simp; try (with_reducible rfl))
          try simp only [List.getElem_toArray, List.getElem_cons_zero, List.getElem_cons_succ, Act.put, List.setIfInBounds_toArray, List.set_cons_zero, List.set_cons_succ]
          refine wpAnyH_take (i := 2) (v := ?_) rfl (by decide +kernel) (by decide +kernel) (by decide +kernel) (fun _ _ _ h => h) (Or.inl ⟨by rfl, ?_⟩) (by assumption) ?_
          rotate_left 1
          · (intro w hSw; (try dsimp only at hSw); go_simp; try (with_reducible rfl))
          try simp only [List.getElem_toArray, List.getElem_cons_zero, List.getElem_cons_succ, Act.put, List.setIfInBounds_toArray, List.set_cons_zero, List.set_cons_succ]
          refine wpAnyH_take (i := 3) (v := ?_) rfl (by decide +kernel) (by decide +kernel) (by decide +kernel) (fun _ _ _ h => h) (Or.inl ⟨by rfl, ?_⟩) (by assumption) ?_
          rotate_left 1
          · (intro w hSw; (try dsimp only at hSw); go_simp; try (with_reducible rfl))
          try simp only [List.getElem_toArray, List.getElem_cons_zero, List.getElem_cons_succ, Act.put, List.setIfInBounds_toArray, List.set_cons_zero, List.set_cons_succ]
          refine wpAnyH_take (i := 4) (v := ?_) rfl (by decide +kernel) (by decide +kernel) (by decide +kernel) (fun _ _ _ h => h) (Or.inl ⟨by rfl, ?_⟩) (by assumption) ?_
          rotate_left 1
          · (intro w hSw; (try dsimp only at hSw); go_simp; try (with_reducible rfl))
          try simp only [List.getElem_toArray, List.getElem_cons_zero, List.getElem_cons_succ, Act.put, List.setIfInBounds_toArray, List.set_cons_zero, List.set_cons_succ]
          refine wpAnyH_take (i := 5) (v := ?_) rfl (by decide +kernel) (by decide +kernel) (by decide +kernel) (fun _ _ _ h => h) (Or.inl ⟨by rfl, ?_⟩) (by assumption) ?_
          rotate_left 1
          · (intro w hSw; (try dsimp only at hSw); go_simp; try (with_reducible rfl))
          try simp only [List.getElem_toArray, List.getElem_cons_zero, List.getElem_cons_succ, Act.put, List.setIfInBounds_toArray, List.set_cons_zero, List.set_cons_succ]
          refine wpAnyH_take (i := 6) (v := ?_) rfl (by decide +kernel) (by decide +kernel) (by decide +kernel) (fun _ _ _ h => h) (Or.inl ⟨by rfl, ?_⟩) (by assumption) ?_
          rotate_left 1
          · (intro w hSw; (try dsimp only at hSw); go_simp; try (with_reducible rfl))
          try simp only [List.getElem_toArray, List.getElem_cons_zero, List.getElem_cons_succ, Act.put, List.setIfInBounds_toArray, List.set_cons_zero, List.set_cons_succ]
          refine wpAnyH_take (i := 7) (v := ?_) rfl (by decide +kernel) (by decide +kernel) (by decide +kernel) (fun _ _ _ h => h) (Or.inl ⟨by rfl, ?_⟩) (by assumption) ?_
          rotate_left 1
          · (intro w hSw; (try dsimp only at hSw); go_simp; try (with_reducible rfl))
          try simp only [List.getElem_toArray, List.getElem_cons_zero, List.getElem_cons_succ, Act.put, List.setIfInBounds_toArray, List.set_cons_zero, List.set_cons_succ]
          refine wpAnyH_ready (rs := [8, 12]) (by decide +kernel) (by simp) ?_
          refine AllReadyH.cons rfl (fun K hK => ?_) (AllReadyH.cons rfl (fun K hK => ?_) AllReadyH.nil)
          · skip
            go_simp
            (go_at_call 18; (with_reducible refine (hof2 _ hb).mono ?_); rintro e w5 ⟨rfl, hb5⟩)
            have hs5 := hb.size
            replace hg1 := hg1.below hb5 hg1.lt
            replace hb := hb.trans (hb5.mono hs5)
            clear hb5
            refine hK.out _ _ (hb) (fun hHeld => ?_)
            clear hK K
            try simp only [List.getElem_toArray, List.getElem_cons_zero, List.getElem_cons_succ, Act.put, List.setIfInBounds_toArray, List.set_cons_zero, List.set_cons_succ]
            refine wpAnyH_take (i := 9) (v := ?_) rfl (by decide +kernel) (by decide +kernel) (by decide +kernel) (fun _ _ _ h => h) (Or.inl ⟨by rfl, ?_⟩) (by assumption) ?_
            rotate_left 1
            · (intro w hSw; (try dsimp only at hSw); go_simp; try (with_reducible rfl))
            try simp only [List.getElem_toArray, List.getElem_cons_zero, List.getElem_cons_succ, Act.put, List.setIfInBounds_toArray, List.set_cons_zero, List.set_cons_succ]
            refine wpAnyH_take (i := 10) (v := ?_) rfl (by decide +kernel) (by decide +kernel) (by decide +kernel) (fun _ _ _ h => h) (Or.inl ⟨by rfl, ?_⟩) (by assumption) ?_
            rotate_left 1
            · (intro w hSw; (try dsimp only at hSw); go_simp; try (with_reducible rfl))
            try simp only [List.getElem_toArray, List.getElem_cons_zero, List.getElem_cons_succ, Act.put, List.setIfInBounds_toArray, List.set_cons_zero, List.set_cons_succ]
            refine wpAnyH_take (i := 11) (v := ?_) rfl (by decide +kernel) (by decide +kernel) (by decide +kernel) (fun _ _ _ h => h) (Or.inl ⟨by rfl, ?_⟩) (by assumption) ?_
            rotate_left 1
            · (intro w hSw; (try dsimp only at hSw); go_simp; try (with_reducible rfl))
            try simp only [List.getElem_toArray, List.getElem_cons_zero, List.getElem_cons_succ, Act.put, List.setIfInBounds_toArray, List.set_cons_zero, List.set_cons_succ]
            refine wpAnyH_ready (rs := [12]) (by decide +kernel) (by simp) ?_
            refine AllReadyH.cons rfl (fun K hK => ?_) AllReadyH.nil
            go_simp
            have hz := Blk.top (g := (w5).heap.size) (t := 49) (cs := [.int .i64 0, .int .i64 0, .int .i64 0, .int .i64 0, .int .i64 0, .int .i64 0, .int .i64 0, .int .i64 0, .int .i64 0, .int .i64 0]) w5 rfl rfl
            have hlow := hb.size
            have lhg1 := hg1.lt
            replace hg1 := hg1.alloc (.cells #[.int .i64 0, .int .i64 0, .int .i64 0, .int .i64 0, .int .i64 0, .int .i64 0, .int .i64 0, .int .i64 0, .int .i64 0, .int .i64 0] 49)
            replace hb := hb.alloc hlow (.cells #[.int .i64 0, .int .i64 0, .int .i64 0, .int .i64 0, .int .i64 0, .int .i64 0, .int .i64 0, .int .i64 0, .int .i64 0, .int .i64 0] 49)
            obtain ⟨W6, hW6⟩ : ∃ W6, (w5).alloc (.cells #[.int .i64 0, .int .i64 0, .int .i64 0, .int .i64 0, .int .i64 0, .int .i64 0, .int .i64 0, .int .i64 0, .int .i64 0, .int .i64 0] 49) = W6 := ⟨_, rfl⟩
            obtain ⟨G6, hG6⟩ : ∃ G6, (w5).heap.size = G6 := ⟨_, rfl⟩
            simp only [hW6, hG6] at *
            clear hW6 hG6
            refine hK.out _ _ (hb) (fun hHeld => ?_)
            clear hK K
            try simp only [List.getElem_toArray, List.getElem_cons_zero, List.getElem_cons_succ, Act.put, List.setIfInBounds_toArray, List.set_cons_zero, List.set_cons_succ]
            refine wpAnyH_ready (rs := [13]) (by decide +kernel) (by simp) ?_
            refine AllReadyH.cons rfl (fun K hK => ?_) AllReadyH.nil
            rw [if_pos (by rfl)]
            refine wp_store_eq 49 (.tmp 13) (.tmp 63) rfl G6 0 #[.int .i64 (R2 0), .int .i64 (R2 1), .int .i64 (R2 2), .int .i64 (R2 3), .int .i64 (R2 4), .int .i64 (R2 5), .int .i64 (R2 6), .int .i64 (R2 7), .int .i64 (R2 8), .int .i64 (R2 9)] rfl rfl (hz.there 0 10 (by simp)) (by kernel_rfl) (all_oneCell_toArray (tl_one R2)) ?_
            intro S1 hS1
            replace hz : Blk S1 G6 49 [.int .i64 (R2 0), .int .i64 (R2 1), .int .i64 (R2 2), .int .i64 (R2 3), .int .i64 (R2 4), .int .i64 (R2 5), .int .i64 (R2 6), .int .i64 (R2 7), .int .i64 (R2 8), .int .i64 (R2 9)] := by rw [hS1]; exact hz.setAll rfl
            replace hg1 : Blk S1 g1 49 [.int .i64 (R1 0), .int .i64 (R1 1), .int .i64 (R1 2), .int .i64 (R1 3), .int .i64 (R1 4), .int .i64 (R1 5), .int .i64 (R1 6), .int .i64 (R1 7), .int .i64 (R1 8), .int .i64 (R1 9)] := by rw [hS1]; exact Blk.setCellsFar (by omega) _ _ _ hg1
            replace hb : Below w.heap.size w S1 := by rw [hS1]; exact below_setCells hb hlow _ _
            clear hS1
            refine hK.out _ _ (hb) (fun hHeld => ?_)
            clear hK K
            try simp only [List.getElem_toArray, List.getElem_cons_zero, List.getElem_cons_succ, Act.put, List.setIfInBounds_toArray, List.set_cons_zero, List.set_cons_succ]
            refine wpAnyH_take (i := 14) (v := ?_) rfl (by decide +kernel) (by decide +kernel) (by decide +kernel) (fun _ _ _ h => h) (Or.inl ⟨by rfl, ?_⟩) (by assumption) ?_
            rotate_left 1
            · (intro w hSw; (try dsimp only at hSw); go_simp; try (with_reducible rfl))
            try simp only [List.getElem_toArray, List.getElem_cons_zero, List.getElem_cons_succ, Act.put, List.setIfInBounds_toArray, List.set_cons_zero, List.set_cons_succ]
            refine wpAnyH_done (by decide +kernel) ?_ _
            clear hHeld
            go_wp2
            go_meet
            exact ⟨G6, rfl, rfl, hz, hb, hg1⟩
          · skip
            go_simp
            have hz := Blk.top (g := (W0).heap.size) (t := 49) (cs := [.int .i64 0, .int .i64 0, .int .i64 0, .int .i64 0, .int .i64 0, .int .i64 0, .int .i64 0, .int .i64 0, .int .i64 0, .int .i64 0]) W0 rfl rfl
            have hlow := hb.size
            have lhg1 := hg1.lt
            replace hg1 := hg1.alloc (.cells #[.int .i64 0, .int .i64 0, .int .i64 0, .int .i64 0, .int .i64 0, .int .i64 0, .int .i64 0, .int .i64 0, .int .i64 0, .int .i64 0] 49)
            replace hb := hb.alloc hlow (.cells #[.int .i64 0, .int .i64 0, .int .i64 0, .int .i64 0, .int .i64 0, .int .i64 0, .int .i64 0, .int .i64 0, .int .i64 0, .int .i64 0] 49)
            obtain ⟨W6, hW6⟩ : ∃ W6, (W0).alloc (.cells #[.int .i64 0, .int .i64 0, .int .i64 0, .int .i64 0, .int .i64 0, .int .i64 0, .int .i64 0, .int .i64 0, .int .i64 0, .int .i64 0] 49) = W6 := ⟨_, rfl⟩
            obtain ⟨G6, hG6⟩ : ∃ G6, (W0).heap.size = G6 := ⟨_, rfl⟩
            simp only [hW6, hG6] at *
            clear hW6 hG6
            refine hK.out _ _ (hb) (fun hHeld => ?_)
            clear hK K
            try simp only [List.getElem_toArray, List.getElem_cons_zero, List.getElem_cons_succ, Act.put, List.setIfInBounds_toArray, List.set_cons_zero, List.set_cons_succ]
            refine wpAnyH_ready (rs := [8]) (by decide +kernel) (by simp) ?_
            refine AllReadyH.cons rfl (fun K hK => ?_) AllReadyH.nil
            go_simp
            (go_at_call 18; (with_reducible refine (hof2 _ hb).mono ?_); rintro e w5 ⟨rfl, hb5⟩)
            have hs5 := hb.size
            replace hg1 := hg1.below hb5 hg1.lt
            replace hz := hz.below hb5 hz.lt
            replace hb := hb.trans (hb5.mono hs5)
            clear hb5
            refine hK.out _ _ (hb) (fun hHeld => ?_)
            clear hK K
            try simp only [List.getElem_toArray, List.getElem_cons_zero, List.getElem_cons_succ, Act.put, List.setIfInBounds_toArray, List.set_cons_zero, List.set_cons_succ]
            refine wpAnyH_take (i := 9) (v := ?_) rfl (by decide +kernel) (by decide +kernel) (by decide +kernel) (fun _ _ _ h => h) (Or.inl ⟨by rfl, ?_⟩) (by assumption) ?_
            rotate_left 1
            · (intro w hSw; (try dsimp only at hSw); go_simp; try (with_reducible rfl))
            try simp only [List.getElem_toArray, List.getElem_cons_zero, List.getElem_cons_succ, Act.put, List.setIfInBounds_toArray, List.set_cons_zero, List.set_cons_succ]
            refine wpAnyH_take (i := 10) (v := ?_) rfl (by decide +kernel) (by decide +kernel) (by decide +kernel) (fun _ _ _ h => h) (Or.inl ⟨by rfl, ?_⟩) (by assumption) ?_
            rotate_left 1
            · (intro w hSw; (try dsimp only at hSw); go_simp; try (with_reducible rfl))
            try simp only [List.getElem_toArray, List.getElem_cons_zero, List.getElem_cons_succ, Act.put, List.setIfInBounds_toArray, List.set_cons_zero, List.set_cons_succ]
            refine wpAnyH_take (i := 11) (v := ?_) rfl (by decide +kernel) (by decide +kernel) (by decide +kernel) (fun _ _ _ h => h) (Or.inl ⟨by rfl, ?_⟩) (by assumption) ?_
            rotate_left 1
            · (intro w hSw; (try dsimp only at hSw); go_simp; try (with_reducible rfl))
            try simp only [List.getElem_toArray, List.getElem_cons_zero, List.getElem_cons_succ, Act.put, List.setIfInBounds_toArray, List.set_cons_zero, List.set_cons_succ]
            refine wpAnyH_ready (rs := [13]) (by decide +kernel) (by simp) ?_
            refine AllReadyH.cons rfl (fun K hK => ?_) AllReadyH.nil
            rw [if_pos (by rfl)]
            refine wp_store_eq 49 (.tmp 13) (.tmp 63) rfl G6 0 #[.int .i64 (R2 0), .int .i64 (R2 1), .int .i64 (R2 2), .int .i64 (R2 3), .int .i64 (R2 4), .int .i64 (R2 5), .int .i64 (R2 6), .int .i64 (R2 7), .int .i64 (R2 8), .int .i64 (R2 9)] rfl rfl (hz.there 0 10 (by simp)) (by kernel_rfl) (all_oneCell_toArray (tl_one R2)) ?_
            intro S1 hS1
            replace hz : Blk S1 G6 49 [.int .i64 (R2 0), .int .i64 (R2 1), .int .i64 (R2 2), .int .i64 (R2 3), .int .i64 (R2 4), .int .i64 (R2 5), .int .i64 (R2 6), .int .i64 (R2 7), .int .i64 (R2 8), .int .i64 (R2 9)] := by rw [hS1]; exact hz.setAll rfl
            replace hg1 : Blk S1 g1 49 [.int .i64 (R1 0), .int .i64 (R1 1), .int .i64 (R1 2), .int .i64 (R1 3), .int .i64 (R1 4), .int .i64 (R1 5), .int .i64 (R1 6), .int .i64 (R1 7), .int .i64 (R1 8), .int .i64 (R1 9)] := by rw [hS1]; exact Blk.setCellsFar (by omega) _ _ _ hg1
            replace hb : Below w.heap.size w S1 := by rw [hS1]; exact below_setCells hb hlow _ _
            clear hS1
            refine hK.out _ _ (hb) (fun hHeld => ?_)
            clear hK K
            try simp only [List.getElem_toArray, List.getElem_cons_zero, List.getElem_cons_succ, Act.put, List.setIfInBounds_toArray, List.set_cons_zero, List.set_cons_succ]
            refine wpAnyH_take (i := 14) (v := ?_) rfl (by decide +kernel) (by decide +kernel) (by decide +kernel) (fun _ _ _ h => h) (Or.inl ⟨by rfl, ?_⟩) (by assumption) ?_
            rotate_left 1
            · (intro w hSw; (try dsimp only at hSw); go_simp; try (with_reducible rfl))
            try simp only [List.getElem_toArray, List.getElem_cons_zero, List.getElem_cons_succ, Act.put, List.setIfInBounds_toArray, List.set_cons_zero, List.set_cons_succ]
            refine wpAnyH_done (by decide +kernel) ?_ _
            clear hHeld
            go_wp2
            go_meet
            exact ⟨G6, rfl, rfl, hz, hb, hg1⟩
        case rest =>
          obtain ⟨g2, rfl, rfl, hz14, hb14, hg1⟩ := hcut
          clear HB
          have HB := Lib.hid hb14
          clear hb14
          clear Hhg1
          have Hhg1 := Lib.hid hg1
          clear hg1
          have Hhg2 := Lib.hid hz14
          clear hz14
          go_upto_region 15 with fail
          go_cut [15, 16] (fun xa xe wx => ∃ g, xa = .pointer (some ⟨g, 0, none⟩) ∧ xe = .int .i64 0 ∧ Blk wx g 49 [.int .i64 (R3 0), .int .i64 (R3 1), .int .i64 (R3 2), .int .i64 (R3 3), .int .i64 (R3 4), .int .i64 (R3 5), .int .i64 (R3 6), .int .i64 (R3 7), .int .i64 (R3 8), .int .i64 (R3 9)] ∧ Below w.heap.size w wx ∧ Blk wx g1 49 [.int .i64 (R1 0), .int .i64 (R1 1), .int .i64 (R1 2), .int .i64 (R1 3), .int .i64 (R1 4), .int .i64 (R1 5), .int .i64 (R1 6), .int .i64 (R1 7), .int .i64 (R1 8), .int .i64 (R1 9)] ∧ Blk wx g2 49 [.int .i64 (R2 0), .int .i64 (R2 1), .int .i64 (R2 2), .int .i64 (R2 3), .int .i64 (R2 4), .int .i64 (R2 5), .int .i64 (R2 6), .int .i64 (R2 7), .int .i64 (R2 8), .int .i64 (R2 9)])
          case first =>
            have hb := HB.out
            have hg1 := Hhg1.out
            have hg2 := Hhg2.out
            refine wp_region_held_drew (S := fun w' => Below w.heap.size w w') (by kernel_rfl) hb.drew (fun hHeld => ?_)
            replace hb := hb.drew
            replace hg1 := hg1.drew
            replace hg2 := hg2.drew
            generalize World.drew _ = W0 at *
            refine wpAnyH_take (i := 0) (v := ?_) rfl (by decide +kernel) (by decide +kernel) (by decide +kernel) (fun _ _ _ h => h) (Or.inl ⟨by rfl, ?_⟩) (by assumption) ?_
            rotate_left 1
            · (intro w hSw; (try dsimp only at hSw); go_simp; try (with_reducible rfl))
            try simp only [List.getElem_toArray, List.getElem_cons_zero, List.getElem_cons_succ, Act.put, List.setIfInBounds_toArray, List.set_cons_zero, List.set_cons_succ]
            refine wpAnyH_take (i := 1) (v := ?_) rfl (by decide +kernel) (by decide +kernel) (by decide +kernel) (fun _ _ _ h => h) (Or.inl ⟨by rfl, ?_⟩) (by assumption) ?_
            rotate_left 1
            · (intro w hSw; (try dsimp only at hSw); go_simp; try (with_reducible rfl))
            try simp only [List.getElem_toArray, List.getElem_cons_zero, List.getElem_cons_succ, Act.put, List.setIfInBounds_toArray, List.set_cons_zero, List.set_cons_succ]
            refine wpAnyH_take (i := 2) (v := ?_) rfl (by decide +kernel) (by decide +kernel) (by decide +kernel) (fun _ _ _ h => h) (Or.inl ⟨by rfl, ?_⟩) (by assumption) ?_
            rotate_left 1
            · (intro w hSw; (try dsimp only at hSw); go_simp; try (with_reducible rfl))
            try simp only [List.getElem_toArray, List.getElem_cons_zero, List.getElem_cons_succ, Act.put, List.setIfInBounds_toArray, List.set_cons_zero, List.set_cons_succ]
            refine wpAnyH_take (i := 3) (v := ?_) rfl (by decide +kernel) (by decide +kernel) (by decide +kernel) (fun _ _ _ h => h) (Or.inl ⟨by rfl, ?_⟩) (by assumption) ?_
            rotate_left 1
            · (intro w hSw; (try dsimp only at hSw); go_simp; try (with_reducible rfl))
            try simp only [List.getElem_toArray, List.getElem_cons_zero, List.getElem_cons_succ, Act.put, List.setIfInBounds_toArray, List.set_cons_zero, List.set_cons_succ]
            refine wpAnyH_take (i := 4) (v := ?_) rfl (by decide +kernel) (by decide +kernel) (by decide +kernel) (fun _ _ _ h => h) (Or.inl ⟨by rfl, ?_⟩) (by assumption) ?_
            rotate_left 1
            · (intro w hSw; (try dsimp only at hSw); go_simp; try (with_reducible rfl))
            try simp only [List.getElem_toArray, List.getElem_cons_zero, List.getElem_cons_succ, Act.put, List.setIfInBounds_toArray, List.set_cons_zero, List.set_cons_succ]
            refine wpAnyH_take (i := 5) (v := ?_) rfl (by decide +kernel) (by decide +kernel) (by decide +kernel) (fun _ _ _ h => h) (Or.inl ⟨by rfl, ?_⟩) (by assumption) ?_
            rotate_left 1
            · (intro w hSw; (try dsimp only at hSw); go_simp; try (with_reducible rfl))
            try simp only [List.getElem_toArray, List.getElem_cons_zero, List.getElem_cons_succ, Act.put, List.setIfInBounds_toArray, List.set_cons_zero, List.set_cons_succ]
            refine wpAnyH_ready (rs := [6, 10]) (by decide +kernel) (by simp) ?_
            refine AllReadyH.cons rfl (fun K hK => ?_) (AllReadyH.cons rfl (fun K hK => ?_) AllReadyH.nil)
            · skip
              go_simp
              (go_at_call 18; (with_reducible refine (hof3 _ hb).mono ?_); rintro e w5 ⟨rfl, hb5⟩)
              have hs5 := hb.size
              replace hg1 := hg1.below hb5 hg1.lt
              replace hg2 := hg2.below hb5 hg2.lt
              replace hb := hb.trans (hb5.mono hs5)
              clear hb5
              refine hK.out _ _ (hb) (fun hHeld => ?_)
              clear hK K
              try simp only [List.getElem_toArray, List.getElem_cons_zero, List.getElem_cons_succ, Act.put, List.setIfInBounds_toArray, List.set_cons_zero, List.set_cons_succ]
              refine wpAnyH_take (i := 7) (v := ?_) rfl (by decide +kernel) (by decide +kernel) (by decide +kernel) (fun _ _ _ h => h) (Or.inl ⟨by rfl, ?_⟩) (by assumption) ?_
              rotate_left 1
              · (intro w hSw; (try dsimp only at hSw); go_simp; try (with_reducible rfl))
              try simp only [List.getElem_toArray, List.getElem_cons_zero, List.getElem_cons_succ, Act.put, List.setIfInBounds_toArray, List.set_cons_zero, List.set_cons_succ]
              refine wpAnyH_take (i := 8) (v := ?_) rfl (by decide +kernel) (by decide +kernel) (by decide +kernel) (fun _ _ _ h => h) (Or.inl ⟨by rfl, ?_⟩) (by assumption) ?_
              rotate_left 1
              · (intro w hSw; (try dsimp only at hSw); go_simp; try (with_reducible rfl))
              try simp only [List.getElem_toArray, List.getElem_cons_zero, List.getElem_cons_succ, Act.put, List.setIfInBounds_toArray, List.set_cons_zero, List.set_cons_succ]
              refine wpAnyH_take (i := 9) (v := ?_) rfl (by decide +kernel) (by decide +kernel) (by decide +kernel) (fun _ _ _ h => h) (Or.inl ⟨by rfl, ?_⟩) (by assumption) ?_
              rotate_left 1
              · (intro w hSw; (try dsimp only at hSw); go_simp; try (with_reducible rfl))
              try simp only [List.getElem_toArray, List.getElem_cons_zero, List.getElem_cons_succ, Act.put, List.setIfInBounds_toArray, List.set_cons_zero, List.set_cons_succ]
              refine wpAnyH_ready (rs := [10]) (by decide +kernel) (by simp) ?_
              refine AllReadyH.cons rfl (fun K hK => ?_) AllReadyH.nil
              go_simp
              have hz := Blk.top (g := (w5).heap.size) (t := 49) (cs := [.int .i64 0, .int .i64 0, .int .i64 0, .int .i64 0, .int .i64 0, .int .i64 0, .int .i64 0, .int .i64 0, .int .i64 0, .int .i64 0]) w5 rfl rfl
              have hlow := hb.size
              have lhg1 := hg1.lt
              replace hg1 := hg1.alloc (.cells #[.int .i64 0, .int .i64 0, .int .i64 0, .int .i64 0, .int .i64 0, .int .i64 0, .int .i64 0, .int .i64 0, .int .i64 0, .int .i64 0] 49)
              have lhg2 := hg2.lt
              replace hg2 := hg2.alloc (.cells #[.int .i64 0, .int .i64 0, .int .i64 0, .int .i64 0, .int .i64 0, .int .i64 0, .int .i64 0, .int .i64 0, .int .i64 0, .int .i64 0] 49)
              replace hb := hb.alloc hlow (.cells #[.int .i64 0, .int .i64 0, .int .i64 0, .int .i64 0, .int .i64 0, .int .i64 0, .int .i64 0, .int .i64 0, .int .i64 0, .int .i64 0] 49)
              obtain ⟨W6, hW6⟩ : ∃ W6, (w5).alloc (.cells #[.int .i64 0, .int .i64 0, .int .i64 0, .int .i64 0, .int .i64 0, .int .i64 0, .int .i64 0, .int .i64 0, .int .i64 0, .int .i64 0] 49) = W6 := ⟨_, rfl⟩
              obtain ⟨G6, hG6⟩ : ∃ G6, (w5).heap.size = G6 := ⟨_, rfl⟩
              simp only [hW6, hG6] at *
              clear hW6 hG6
              refine hK.out _ _ (hb) (fun hHeld => ?_)
              clear hK K
              try simp only [List.getElem_toArray, List.getElem_cons_zero, List.getElem_cons_succ, Act.put, List.setIfInBounds_toArray, List.set_cons_zero, List.set_cons_succ]
              refine wpAnyH_ready (rs := [11]) (by decide +kernel) (by simp) ?_
              refine AllReadyH.cons rfl (fun K hK => ?_) AllReadyH.nil
              rw [if_pos (by rfl)]
              refine wp_store_eq 49 (.tmp 15) (.tmp 73) rfl G6 0 #[.int .i64 (R3 0), .int .i64 (R3 1), .int .i64 (R3 2), .int .i64 (R3 3), .int .i64 (R3 4), .int .i64 (R3 5), .int .i64 (R3 6), .int .i64 (R3 7), .int .i64 (R3 8), .int .i64 (R3 9)] rfl rfl (hz.there 0 10 (by simp)) (by kernel_rfl) (all_oneCell_toArray (tl_one R3)) ?_
              intro S1 hS1
              replace hz : Blk S1 G6 49 [.int .i64 (R3 0), .int .i64 (R3 1), .int .i64 (R3 2), .int .i64 (R3 3), .int .i64 (R3 4), .int .i64 (R3 5), .int .i64 (R3 6), .int .i64 (R3 7), .int .i64 (R3 8), .int .i64 (R3 9)] := by rw [hS1]; exact hz.setAll rfl
              replace hg1 : Blk S1 g1 49 [.int .i64 (R1 0), .int .i64 (R1 1), .int .i64 (R1 2), .int .i64 (R1 3), .int .i64 (R1 4), .int .i64 (R1 5), .int .i64 (R1 6), .int .i64 (R1 7), .int .i64 (R1 8), .int .i64 (R1 9)] := by rw [hS1]; exact Blk.setCellsFar (by omega) _ _ _ hg1
              replace hg2 : Blk S1 g2 49 [.int .i64 (R2 0), .int .i64 (R2 1), .int .i64 (R2 2), .int .i64 (R2 3), .int .i64 (R2 4), .int .i64 (R2 5), .int .i64 (R2 6), .int .i64 (R2 7), .int .i64 (R2 8), .int .i64 (R2 9)] := by rw [hS1]; exact Blk.setCellsFar (by omega) _ _ _ hg2
              replace hb : Below w.heap.size w S1 := by rw [hS1]; exact below_setCells hb hlow _ _
              clear hS1
              refine hK.out _ _ (hb) (fun hHeld => ?_)
              clear hK K
              try simp only [List.getElem_toArray, List.getElem_cons_zero, List.getElem_cons_succ, Act.put, List.setIfInBounds_toArray, List.set_cons_zero, List.set_cons_succ]
              refine wpAnyH_take (i := 12) (v := ?_) rfl (by decide +kernel) (by decide +kernel) (by decide +kernel) (fun _ _ _ h => h) (Or.inl ⟨by rfl, ?_⟩) (by assumption) ?_
              rotate_left 1
              · (intro w hSw; (try dsimp only at hSw); go_simp; try (with_reducible rfl))
              try simp only [List.getElem_toArray, List.getElem_cons_zero, List.getElem_cons_succ, Act.put, List.setIfInBounds_toArray, List.set_cons_zero, List.set_cons_succ]
              refine wpAnyH_done (by decide +kernel) ?_ _
              clear hHeld
              go_wp2
              go_meet
              exact ⟨G6, rfl, rfl, hz, hb, hg1, hg2⟩
            · skip
              go_simp
              have hz := Blk.top (g := (W0).heap.size) (t := 49) (cs := [.int .i64 0, .int .i64 0, .int .i64 0, .int .i64 0, .int .i64 0, .int .i64 0, .int .i64 0, .int .i64 0, .int .i64 0, .int .i64 0]) W0 rfl rfl
              have hlow := hb.size
              have lhg1 := hg1.lt
              replace hg1 := hg1.alloc (.cells #[.int .i64 0, .int .i64 0, .int .i64 0, .int .i64 0, .int .i64 0, .int .i64 0, .int .i64 0, .int .i64 0, .int .i64 0, .int .i64 0] 49)
              have lhg2 := hg2.lt
              replace hg2 := hg2.alloc (.cells #[.int .i64 0, .int .i64 0, .int .i64 0, .int .i64 0, .int .i64 0, .int .i64 0, .int .i64 0, .int .i64 0, .int .i64 0, .int .i64 0] 49)
              replace hb := hb.alloc hlow (.cells #[.int .i64 0, .int .i64 0, .int .i64 0, .int .i64 0, .int .i64 0, .int .i64 0, .int .i64 0, .int .i64 0, .int .i64 0, .int .i64 0] 49)
              obtain ⟨W6, hW6⟩ : ∃ W6, (W0).alloc (.cells #[.int .i64 0, .int .i64 0, .int .i64 0, .int .i64 0, .int .i64 0, .int .i64 0, .int .i64 0, .int .i64 0, .int .i64 0, .int .i64 0] 49) = W6 := ⟨_, rfl⟩
              obtain ⟨G6, hG6⟩ : ∃ G6, (W0).heap.size = G6 := ⟨_, rfl⟩
              simp only [hW6, hG6] at *
              clear hW6 hG6
              refine hK.out _ _ (hb) (fun hHeld => ?_)
              clear hK K
              try simp only [List.getElem_toArray, List.getElem_cons_zero, List.getElem_cons_succ, Act.put, List.setIfInBounds_toArray, List.set_cons_zero, List.set_cons_succ]
              refine wpAnyH_ready (rs := [6]) (by decide +kernel) (by simp) ?_
              refine AllReadyH.cons rfl (fun K hK => ?_) AllReadyH.nil
              go_simp
              (go_at_call 18; (with_reducible refine (hof3 _ hb).mono ?_); rintro e w5 ⟨rfl, hb5⟩)
              have hs5 := hb.size
              replace hg1 := hg1.below hb5 hg1.lt
              replace hg2 := hg2.below hb5 hg2.lt
              replace hz := hz.below hb5 hz.lt
              replace hb := hb.trans (hb5.mono hs5)
              clear hb5
              refine hK.out _ _ (hb) (fun hHeld => ?_)
              clear hK K
              try simp only [List.getElem_toArray, List.getElem_cons_zero, List.getElem_cons_succ, Act.put, List.setIfInBounds_toArray, List.set_cons_zero, List.set_cons_succ]
              refine wpAnyH_take (i := 7) (v := ?_) rfl (by decide +kernel) (by decide +kernel) (by decide +kernel) (fun _ _ _ h => h) (Or.inl ⟨by rfl, ?_⟩) (by assumption) ?_
              rotate_left 1
              · (intro w hSw; (try dsimp only at hSw); go_simp; try (with_reducible rfl))
              try simp only [List.getElem_toArray, List.getElem_cons_zero, List.getElem_cons_succ, Act.put, List.setIfInBounds_toArray, List.set_cons_zero, List.set_cons_succ]
              refine wpAnyH_take (i := 8) (v := ?_) rfl (by decide +kernel) (by decide +kernel) (by decide +kernel) (fun _ _ _ h => h) (Or.inl ⟨by rfl, ?_⟩) (by assumption) ?_
              rotate_left 1
              · (intro w hSw; (try dsimp only at hSw); go_simp; try (with_reducible rfl))
              try simp only [List.getElem_toArray, List.getElem_cons_zero, List.getElem_cons_succ, Act.put, List.setIfInBounds_toArray, List.set_cons_zero, List.set_cons_succ]
              refine wpAnyH_take (i := 9) (v := ?_) rfl (by decide +kernel) (by decide +kernel) (by decide +kernel) (fun _ _ _ h => h) (Or.inl ⟨by rfl, ?_⟩) (by assumption) ?_
              rotate_left 1
              · (intro w hSw; (try dsimp only at hSw); go_simp; try (with_reducible rfl))
              try simp only [List.getElem_toArray, List.getElem_cons_zero, List.getElem_cons_succ, Act.put, List.setIfInBounds_toArray, List.set_cons_zero, List.set_cons_succ]
              refine wpAnyH_ready (rs := [11]) (by decide +kernel) (by simp) ?_
              refine AllReadyH.cons rfl (fun K hK => ?_) AllReadyH.nil
              rw [if_pos (by rfl)]
              refine wp_store_eq 49 (.tmp 15) (.tmp 73) rfl G6 0 #[.int .i64 (R3 0), .int .i64 (R3 1), .int .i64 (R3 2), .int .i64 (R3 3), .int .i64 (R3 4), .int .i64 (R3 5), .int .i64 (R3 6), .int .i64 (R3 7), .int .i64 (R3 8), .int .i64 (R3 9)] rfl rfl (hz.there 0 10 (by simp)) (by kernel_rfl) (all_oneCell_toArray (tl_one R3)) ?_
              intro S1 hS1
              replace hz : Blk S1 G6 49 [.int .i64 (R3 0), .int .i64 (R3 1), .int .i64 (R3 2), .int .i64 (R3 3), .int .i64 (R3 4), .int .i64 (R3 5), .int .i64 (R3 6), .int .i64 (R3 7), .int .i64 (R3 8), .int .i64 (R3 9)] := by rw [hS1]; exact hz.setAll rfl
              replace hg1 : Blk S1 g1 49 [.int .i64 (R1 0), .int .i64 (R1 1), .int .i64 (R1 2), .int .i64 (R1 3), .int .i64 (R1 4), .int .i64 (R1 5), .int .i64 (R1 6), .int .i64 (R1 7), .int .i64 (R1 8), .int .i64 (R1 9)] := by rw [hS1]; exact Blk.setCellsFar (by omega) _ _ _ hg1
              replace hg2 : Blk S1 g2 49 [.int .i64 (R2 0), .int .i64 (R2 1), .int .i64 (R2 2), .int .i64 (R2 3), .int .i64 (R2 4), .int .i64 (R2 5), .int .i64 (R2 6), .int .i64 (R2 7), .int .i64 (R2 8), .int .i64 (R2 9)] := by rw [hS1]; exact Blk.setCellsFar (by omega) _ _ _ hg2
              replace hb : Below w.heap.size w S1 := by rw [hS1]; exact below_setCells hb hlow _ _
              clear hS1
              refine hK.out _ _ (hb) (fun hHeld => ?_)
              clear hK K
              try simp only [List.getElem_toArray, List.getElem_cons_zero, List.getElem_cons_succ, Act.put, List.setIfInBounds_toArray, List.set_cons_zero, List.set_cons_succ]
              refine wpAnyH_take (i := 12) (v := ?_) rfl (by decide +kernel) (by decide +kernel) (by decide +kernel) (fun _ _ _ h => h) (Or.inl ⟨by rfl, ?_⟩) (by assumption) ?_
              rotate_left 1
              · (intro w hSw; (try dsimp only at hSw); go_simp; try (with_reducible rfl))
              try simp only [List.getElem_toArray, List.getElem_cons_zero, List.getElem_cons_succ, Act.put, List.setIfInBounds_toArray, List.set_cons_zero, List.set_cons_succ]
              refine wpAnyH_done (by decide +kernel) ?_ _
              clear hHeld
              go_wp2
              go_meet
              exact ⟨G6, rfl, rfl, hz, hb, hg1, hg2⟩
          case rest =>
            obtain ⟨g3, rfl, rfl, hz15, hb15, hg1, hg2⟩ := hcut
            clear HB
            have HB := Lib.hid hb15
            clear hb15
            clear Hhg1
            have Hhg1 := Lib.hid hg1
            clear hg1
            clear Hhg2
            have Hhg2 := Lib.hid hg2
            clear hg2
            have Hhg3 := Lib.hid hz15
            clear hz15
            go_upto_region 16 with fail
            have hb := HB.out
            have hg1 := Hhg1.out
            have hg2 := Hhg2.out
            have hg3 := Hhg3.out
            refine wp_region_held_drew (S := fun w' => Blk w' g1 49 [.int .i64 (R1 0), .int .i64 (R1 1), .int .i64 (R1 2), .int .i64 (R1 3), .int .i64 (R1 4), .int .i64 (R1 5), .int .i64 (R1 6), .int .i64 (R1 7), .int .i64 (R1 8), .int .i64 (R1 9)] ∧ Blk w' g2 49 [.int .i64 (R2 0), .int .i64 (R2 1), .int .i64 (R2 2), .int .i64 (R2 3), .int .i64 (R2 4), .int .i64 (R2 5), .int .i64 (R2 6), .int .i64 (R2 7), .int .i64 (R2 8), .int .i64 (R2 9)] ∧ Blk w' g3 49 [.int .i64 (R3 0), .int .i64 (R3 1), .int .i64 (R3 2), .int .i64 (R3 3), .int .i64 (R3 4), .int .i64 (R3 5), .int .i64 (R3 6), .int .i64 (R3 7), .int .i64 (R3 8), .int .i64 (R3 9)]) (by kernel_rfl) ⟨hg1.drew, hg2.drew, hg3.drew⟩ (fun hHeld => ?_)
            replace hb := hb.drew
            replace hg1 := hg1.drew
            replace hg2 := hg2.drew
            replace hg3 := hg3.drew
            generalize World.drew _ = W0 at *
            refine wpAnyH_take (i := 0) (v := ?_) rfl (by decide +kernel) (by decide +kernel) (by decide +kernel) (fun _ _ _ h => h) (Or.inl ⟨by rfl, ?_⟩) (by assumption) ?_
            rotate_left 1
            · (intro w hSw; (try dsimp only at hSw); go_simp; try (with_reducible rfl))
            try simp only [List.getElem_toArray, List.getElem_cons_zero, List.getElem_cons_succ, Act.put, List.setIfInBounds_toArray, List.set_cons_zero, List.set_cons_succ]
            refine wpAnyH_take (i := 1) (v := ?_) rfl (by decide +kernel) (by decide +kernel) (by decide +kernel) (fun _ _ _ h => h) (Or.inl ⟨by rfl, ?_⟩) (by assumption) ?_
            rotate_left 1
            · (intro w hSw; (try dsimp only at hSw); go_simp; try (with_reducible rfl))
            try simp only [List.getElem_toArray, List.getElem_cons_zero, List.getElem_cons_succ, Act.put, List.setIfInBounds_toArray, List.set_cons_zero, List.set_cons_succ]
            refine wpAnyH_take (i := 2) (v := ?_) rfl (by decide +kernel) (by decide +kernel) (by decide +kernel) (fun _ _ _ h => h) (Or.inl ⟨by rfl, ?_⟩) (by assumption) ?_
            rotate_left 1
            · (intro w hSw; (try dsimp only at hSw); go_simp; try (with_reducible rfl))
            try simp only [List.getElem_toArray, List.getElem_cons_zero, List.getElem_cons_succ, Act.put, List.setIfInBounds_toArray, List.set_cons_zero, List.set_cons_succ]
            refine wpAnyH_take (i := 3) (v := ?_) rfl (by decide +kernel) (by decide +kernel) (by decide +kernel) (fun _ _ _ h => h) (Or.inl ⟨by rfl, ?_⟩) (by assumption) ?_
            rotate_left 1
            · (intro w hSw; (try dsimp only at hSw); go_simp; try (with_reducible rfl))
            try simp only [List.getElem_toArray, List.getElem_cons_zero, List.getElem_cons_succ, Act.put, List.setIfInBounds_toArray, List.set_cons_zero, List.set_cons_succ]
            refine wpAnyH_take (i := 4) (v := ?_) rfl (by decide +kernel) (by decide +kernel) (by decide +kernel) (fun _ _ _ h => h) (Or.inl ⟨by rfl, ?_⟩) (by assumption) ?_
            rotate_left 1
            · (intro w hSw; (try dsimp only at hSw); go_simp; try (with_reducible rfl))
            try simp only [List.getElem_toArray, List.getElem_cons_zero, List.getElem_cons_succ, Act.put, List.setIfInBounds_toArray, List.set_cons_zero, List.set_cons_succ]
            refine wpAnyH_take (i := 5) (v := ?_) rfl (by decide +kernel) (by decide +kernel) (by decide +kernel) (fun _ _ _ h => h) (Or.inl ⟨by rfl, ?_⟩) (by assumption) ?_
            rotate_left 1
            · (intro w hSw; (try dsimp only at hSw); go_simp; try (with_reducible rfl))
            try simp only [List.getElem_toArray, List.getElem_cons_zero, List.getElem_cons_succ, Act.put, List.setIfInBounds_toArray, List.set_cons_zero, List.set_cons_succ]
            refine wpAnyH_take (i := 6) (v := ?_) rfl (by decide +kernel) (by decide +kernel) (by decide +kernel) (fun _ _ _ h => h) (Or.inl ⟨by rfl, ?_⟩) (by assumption) ?_
            rotate_left 1
            · (intro w hSw; (try dsimp only at hSw); go_simp; try (with_reducible rfl))
            try simp only [List.getElem_toArray, List.getElem_cons_zero, List.getElem_cons_succ, Act.put, List.setIfInBounds_toArray, List.set_cons_zero, List.set_cons_succ]
            refine wpAnyH_take (i := 7) (v := ?_) rfl (by decide +kernel) (by decide +kernel) (by decide +kernel) (fun _ _ _ h => h) (Or.inl ⟨by rfl, ?_⟩) (by assumption) ?_
            rotate_left 1
            · (intro w hSw; (try dsimp only at hSw); go_simp; try (with_reducible rfl))
            try simp only [List.getElem_toArray, List.getElem_cons_zero, List.getElem_cons_succ, Act.put, List.setIfInBounds_toArray, List.set_cons_zero, List.set_cons_succ]
            refine wpAnyH_take (i := 8) (v := ?_) rfl (by decide +kernel) (by decide +kernel) (by decide +kernel) (fun _ _ _ h => h) (Or.inl ⟨by rfl, ?_⟩) (by assumption) ?_
            rotate_left 1
            · (intro w hSw; (try dsimp only at hSw); go_simp; try (with_reducible rfl))
            try simp only [List.getElem_toArray, List.getElem_cons_zero, List.getElem_cons_succ, Act.put, List.setIfInBounds_toArray, List.set_cons_zero, List.set_cons_succ]
            refine wpAnyH_take (i := 9) (v := ?_) rfl (by decide +kernel) (by decide +kernel) (by decide +kernel) (fun _ _ _ h => h) (Or.inl ⟨by rfl, ?_⟩) (by assumption) ?_
            rotate_left 1
            · (intro w hSw; (try dsimp only at hSw); go_simp; try (with_reducible rfl))
            try simp only [List.getElem_toArray, List.getElem_cons_zero, List.getElem_cons_succ, Act.put, List.setIfInBounds_toArray, List.set_cons_zero, List.set_cons_succ]
            refine wpAnyH_take (i := 10) (v := ?_) rfl (by decide +kernel) (by decide +kernel) (by decide +kernel) (fun _ _ _ h => h) (Or.inl ⟨by rfl, ?_⟩) (by assumption) ?_
            rotate_left 1
            · (intro w hSw; (try dsimp only at hSw); go_simp; try (with_reducible rfl))
            try simp only [List.getElem_toArray, List.getElem_cons_zero, List.getElem_cons_succ, Act.put, List.setIfInBounds_toArray, List.set_cons_zero, List.set_cons_succ]
            refine wpAnyH_take (i := 11) (v := ?_) rfl (by decide +kernel) (by decide +kernel) (by decide +kernel) (fun _ _ _ h => h) (Or.inl ⟨by rfl, ?_⟩) (by assumption) ?_
            rotate_left 1
            · (intro w hSw; (try dsimp only at hSw); obtain ⟨s1, s2, s3⟩ := hSw; obtain ⟨c0, c1, c2, c3, c4, c5, c6, c7, c8, c9⟩ := blk10 s1; go_simp; rfl)
            try simp only [List.getElem_toArray, List.getElem_cons_zero, List.getElem_cons_succ, Act.put, List.setIfInBounds_toArray, List.set_cons_zero, List.set_cons_succ]
            refine wpAnyH_take (i := 12) (v := ?_) rfl (by decide +kernel) (by decide +kernel) (by decide +kernel) (fun _ _ _ h => h) (Or.inl ⟨by rfl, ?_⟩) (by assumption) ?_
            rotate_left 1
            · (intro w hSw; (try dsimp only at hSw); obtain ⟨s1, s2, s3⟩ := hSw; obtain ⟨c0, c1, c2, c3, c4, c5, c6, c7, c8, c9⟩ := blk10 s2; go_simp; rfl)
            try simp only [List.getElem_toArray, List.getElem_cons_zero, List.getElem_cons_succ, Act.put, List.setIfInBounds_toArray, List.set_cons_zero, List.set_cons_succ]
            refine wpAnyH_take (i := 14) (v := ?_) rfl (by decide +kernel) (by decide +kernel) (by decide +kernel) (fun _ _ _ h => h) (Or.inl ⟨by rfl, ?_⟩) (by assumption) ?_
            rotate_left 1
            · (intro w hSw; (try dsimp only at hSw); obtain ⟨s1, s2, s3⟩ := hSw; obtain ⟨c0, c1, c2, c3, c4, c5, c6, c7, c8, c9⟩ := blk10 s3; go_simp; rfl)
            try simp only [List.getElem_toArray, List.getElem_cons_zero, List.getElem_cons_succ, Act.put, List.setIfInBounds_toArray, List.set_cons_zero, List.set_cons_succ]
            refine wpAnyH_ready (rs := [13]) (by decide +kernel) (by simp) ?_
            refine AllReadyH.cons rfl (fun K hK => ?_) AllReadyH.nil
            go_simp
            (go_at_call 19; (with_reducible refine (hbo _).mono ?_); rintro e w5 ⟨rfl, hb5⟩)
            have hs5 := hb.size
            replace hg1 := hg1.below hb5 hg1.lt
            replace hg2 := hg2.below hb5 hg2.lt
            replace hg3 := hg3.below hb5 hg3.lt
            replace hb := hb.trans (hb5.mono hs5)
            refine hK.out _ _ (⟨hg1, hg2, hg3⟩) (fun hHeld => ?_)
            clear hK K
            try simp only [List.getElem_toArray, List.getElem_cons_zero, List.getElem_cons_succ, Act.put, List.setIfInBounds_toArray, List.set_cons_zero, List.set_cons_succ]
            refine wpAnyH_take (i := 15) (v := ?_) rfl (by decide +kernel) (by decide +kernel) (by decide +kernel) (fun _ _ _ h => h) (Or.inl ⟨by rfl, ?_⟩) (by assumption) ?_
            rotate_left 1
            · (intro w hSw; (try dsimp only at hSw); go_simp; try (with_reducible rfl))
            try simp only [List.getElem_toArray, List.getElem_cons_zero, List.getElem_cons_succ, Act.put, List.setIfInBounds_toArray, List.set_cons_zero, List.set_cons_succ]
            refine wpAnyH_take (i := 16) (v := ?_) rfl (by decide +kernel) (by decide +kernel) (by decide +kernel) (fun _ _ _ h => h) (Or.inl ⟨by rfl, ?_⟩) (by assumption) ?_
            rotate_left 1
            · (intro w hSw; (try dsimp only at hSw); go_simp; try (with_reducible rfl))
            try simp only [List.getElem_toArray, List.getElem_cons_zero, List.getElem_cons_succ, Act.put, List.setIfInBounds_toArray, List.set_cons_zero, List.set_cons_succ]
            refine wpAnyH_take (i := 17) (v := ?_) rfl (by decide +kernel) (by decide +kernel) (by decide +kernel) (fun _ _ _ h => h) (Or.inl ⟨by rfl, ?_⟩) (by assumption) ?_
            rotate_left 1
            · (intro w hSw; (try dsimp only at hSw); go_simp; try (with_reducible rfl))
            try simp only [List.getElem_toArray, List.getElem_cons_zero, List.getElem_cons_succ, Act.put, List.setIfInBounds_toArray, List.set_cons_zero, List.set_cons_succ]
            refine wpAnyH_done (by decide +kernel) ?_ _
            clear hHeld hb5
            go_wp2
            go_ret
            exact ⟨rfl, hb⟩
set_option maxRecDepth 100000 in
set_option maxHeartbeats 20000000 in
theorem walk_b (A B : Option Addr) (n0 : Nat) (c m d : Nat) (v : Int) (Kd En Nn : Nat → Int) (w : World) (hA : EvW w A n0 Kd) (hB : RpW w B m En Nn) (hN : ∀ i, Nn i ≤ 9223372036854775807) (hnc : n0 ≤ c) (hcm : c ≤ maxLen) (hmd : m ≤ d) (hdm : d ≤ maxLen) (hv : 0 ≤ v ∧ v ≤ 255) (hnn : n0 ≤ n0) (hnm : n0 ≤ m) (h60 : n0 ≤ 60) (hcase : ¬ (m : Int) < (n0 : Int)) :
    Calls Try.prog 4 #[.slice A n0 c, .slice B m d, .int .u8 v] w fun e w' => e = .returned (.bool true) ∧ Below w.heap.size w w' := by
  obtain ⟨k0, hk0⟩ : ∃ k0 : Nat, v.tmod ((n0 : Int) + 1) = (k0 : Int) := ⟨(v.tmod ((n0 : Int) + 1)).toNat, by rw [Int.tmod_eq_emod_of_nonneg hv.1]; have := Int.emod_nonneg v (show (n0 : Int) + 1 ≠ 0 by omega); omega⟩
  have hk1 : k0 ≤ n0 := by
    have h1 := Int.emod_lt_of_pos v (show (0 : Int) < (n0 : Int) + 1 by omega)
    rw [Int.tmod_eq_emod_of_nonneg hv.1] at hk0
    omega
  have hwr : IntKind.i64.wrap (k0 : Int) = (k0 : Int) := by rw [IntKind.wrap_i64]; omega
  have hwv : IntKind.i64.wrap v = v := by rw [IntKind.wrap_i64]; omega
  have hsA1 : ∀ W : World, (Instr.slice 44 (.slice A n0 c) none (some (.int .i64 (k0 : Int))) none).run Try.prog W = .ok (.slice A k0 c) W := run_cut_to elemEv A n0 c k0 (by omega)
  have hsB1 : ∀ W : World, (Instr.slice 45 (.slice B m d) none (some (.int .i64 (k0 : Int))) none).run Try.prog W = .ok (.slice B k0 d) W := run_cut_to elemRp B m d k0 (by omega)
  have hsA3 : ∀ W : World, (Instr.slice 44 (.slice A n0 c) none (some (.int .i64 (n0 : Int))) none).run Try.prog W = .ok (.slice A n0 c) W := run_cut_to elemEv A n0 c n0 (by omega)
  have hsB3 : ∀ W : World, (Instr.slice 45 (.slice B m d) none (some (.int .i64 (n0 : Int))) none).run Try.prog W = .ok (.slice B n0 d) W := run_cut_to elemRp B m d n0 (by omega)
  obtain ⟨A2, hA2⟩ : ∃ A2, (if c = k0 then A else A.map (·.add (k0 * 4))) = A2 := ⟨_, rfl⟩
  obtain ⟨B2, hB2⟩ : ∃ B2, (if d = k0 then B else B.map (·.add (k0 * 2))) = B2 := ⟨_, rfl⟩
  have hsA2 : ∀ W : World, (Instr.slice 44 (.slice A n0 c) (some (.int .i64 (k0 : Int))) (some (.int .i64 (n0 : Int))) none).run Try.prog W = .ok (.slice A2 (n0 - k0) (c - k0)) W := fun W => by rw [← hA2]; exact run_cut_mid elemEv A n0 c k0 n0 hk1 (by omega) W
  have hsB2 : ∀ W : World, (Instr.slice 45 (.slice B m d) (some (.int .i64 (k0 : Int))) (some (.int .i64 (n0 : Int))) none).run Try.prog W = .ok (.slice B2 (n0 - k0) (d - k0)) W := fun W => by rw [← hB2]; exact run_cut_mid elemRp B m d k0 n0 hk1 (by omega) W
  have hw1 : ∀ {V : World}, Below w.heap.size w V → EvW V A n0 Kd ∧ RpW V B m En Nn := fun h => ⟨hA.below h (Nat.le_refl _), hB.below h (Nat.le_refl _)⟩
  have hof1 : ∀ V : World, Below w.heap.size w V → Calls Try.prog 18 #[.slice A k0 c, .slice B k0 d] V fun e w' => e = .returned (.tuple #[.agg #[.int .i64 ((ofN Kd En Nn k0) 0), .int .i64 ((ofN Kd En Nn k0) 1), .int .i64 ((ofN Kd En Nn k0) 2), .int .i64 ((ofN Kd En Nn k0) 3), .int .i64 ((ofN Kd En Nn k0) 4), .int .i64 ((ofN Kd En Nn k0) 5), .int .i64 ((ofN Kd En Nn k0) 6), .int .i64 ((ofN Kd En Nn k0) 7), .int .i64 ((ofN Kd En Nn k0) 8), .int .i64 ((ofN Kd En Nn k0) 9)], .int .i64 0]) ∧ Below V.heap.size V w' := fun V h => of_any A B k0 c d Kd En Nn V ((hw1 h).1.front (by omega)) ((hw1 h).2.front (by omega)) (by omega)
  have hof3 : ∀ V : World, Below w.heap.size w V → Calls Try.prog 18 #[.slice A n0 c, .slice B n0 d] V fun e w' => e = .returned (.tuple #[.agg #[.int .i64 ((ofN Kd En Nn n0) 0), .int .i64 ((ofN Kd En Nn n0) 1), .int .i64 ((ofN Kd En Nn n0) 2), .int .i64 ((ofN Kd En Nn n0) 3), .int .i64 ((ofN Kd En Nn n0) 4), .int .i64 ((ofN Kd En Nn n0) 5), .int .i64 ((ofN Kd En Nn n0) 6), .int .i64 ((ofN Kd En Nn n0) 7), .int .i64 ((ofN Kd En Nn n0) 8), .int .i64 ((ofN Kd En Nn n0) 9)], .int .i64 0]) ∧ Below V.heap.size V w' := fun V h => of_any A B n0 c d Kd En Nn V ((hw1 h).1.front (by omega)) ((hw1 h).2.front (by omega)) (by omega)
  have hof2 : ∀ V : World, Below w.heap.size w V → Calls Try.prog 18 #[.slice A2 (n0 - k0) (c - k0), .slice B2 (n0 - k0) (d - k0)] V fun e w' => e = .returned (.tuple #[.agg #[.int .i64 ((ofN (fun i => Kd (k0 + i)) (fun i => En (k0 + i)) (fun i => Nn (k0 + i)) (n0 - k0)) 0), .int .i64 ((ofN (fun i => Kd (k0 + i)) (fun i => En (k0 + i)) (fun i => Nn (k0 + i)) (n0 - k0)) 1), .int .i64 ((ofN (fun i => Kd (k0 + i)) (fun i => En (k0 + i)) (fun i => Nn (k0 + i)) (n0 - k0)) 2), .int .i64 ((ofN (fun i => Kd (k0 + i)) (fun i => En (k0 + i)) (fun i => Nn (k0 + i)) (n0 - k0)) 3), .int .i64 ((ofN (fun i => Kd (k0 + i)) (fun i => En (k0 + i)) (fun i => Nn (k0 + i)) (n0 - k0)) 4), .int .i64 ((ofN (fun i => Kd (k0 + i)) (fun i => En (k0 + i)) (fun i => Nn (k0 + i)) (n0 - k0)) 5), .int .i64 ((ofN (fun i => Kd (k0 + i)) (fun i => En (k0 + i)) (fun i => Nn (k0 + i)) (n0 - k0)) 6), .int .i64 ((ofN (fun i => Kd (k0 + i)) (fun i => En (k0 + i)) (fun i => Nn (k0 + i)) (n0 - k0)) 7), .int .i64 ((ofN (fun i => Kd (k0 + i)) (fun i => En (k0 + i)) (fun i => Nn (k0 + i)) (n0 - k0)) 8), .int .i64 ((ofN (fun i => Kd (k0 + i)) (fun i => En (k0 + i)) (fun i => Nn (k0 + i)) (n0 - k0)) 9)], .int .i64 0]) ∧ Below V.heap.size V w' := fun V h => of_any A2 B2 (n0 - k0) (c - k0) (d - k0) _ _ _ V (by
    rw [← hA2]
    by_cases q : c = k0
    · intro i hi; omega
    · rw [if_neg q]; exact (hw1 h).1.cut (n0 - k0) (by omega)) (by
    rw [← hB2]
    by_cases q : d = k0
    · intro i hi; omega
    · rw [if_neg q]; exact (hw1 h).2.cut (n0 - k0) (by omega)) (by omega)
  have hbo := fun W => both_any (ofN Kd En Nn k0) (ofN (fun i => Kd (k0 + i)) (fun i => En (k0 + i)) (fun i => Nn (k0 + i)) (n0 - k0)) W
  rw [show bothT (ofN Kd En Nn k0) (ofN (fun i => Kd (k0 + i)) (fun i => En (k0 + i)) (fun i => Nn (k0 + i)) (n0 - k0)) = ofN Kd En Nn n0 from by
    funext j
    rw [both_parts Kd En Nn hN k0 (n0 - k0) j, show k0 + (n0 - k0) = n0 by omega]] at hbo
  generalize ofN Kd En Nn k0 = R1 at *
  generalize ofN (fun i => Kd (k0 + i)) (fun i => En (k0 + i)) (fun i => Nn (k0 + i)) (n0 - k0) = R2 at *
  generalize ofN Kd En Nn n0 = R3 at *
  have HRP := Lib.hid (fun (V : World) (h : Below w.heap.size w V) => (hw1 h).2)
  have hcI : (c : Int) ≤ 9223372036854775807 := by unfold maxLen at hcm; omega
  have hdI : (d : Int) ≤ 9223372036854775807 := by unfold maxLen at hdm; omega
  have heq := fun W => run_eq_tally R3 W
  clear hw1 hA2 hB2 hA hB hv hcm hdm
  go_enter Try.func4, Try.ntmps4
  go_wp2_with (first
    | ((go_at_call 17; (with_reducible refine (awake45 _).mono ?_); rintro e w1 ⟨rfl, hb1⟩); have B1 := Lib.hid hb1; clear hb1)
    | fail "no arm")
  go_loopw [9, 30] (fun _ i wr => ∃ k : Nat, k ≤ n0 ∧ i = .int .i64 (k : Nat) ∧ Below w.heap.size w wr) (fun _ i _ => n0 - (intOf i).toNat)
  case atStart => exact ⟨0, by omega, rfl, B1.out⟩
  case round =>
    obtain ⟨k, hk, rfl, hb⟩ := hrel
    have HB := Lib.hid hb
    have hbs := hb.size
    clear hb B1
    by_cases hlt : k < n0
    · obtain ⟨b', o', hBB, hbl', y0, y1, _, _⟩ := (HRP.out _ HB.out) k (by omega)
      have hkI : (k : Int) < n0 := by omega
      subst hBB
      clear hsA1 hsA2 hsA3 hsB1 hsB2 hsB3 hof1 hof2 hof3 hbo heq
      by_cases hneg : Nn k < 0
      · go_wp2
        go_ret
        have hb := HB.out
        exact ⟨rfl, (by (repeat' (first | (with_reducible exact Below.refl _ _) | (with_reducible assumption) | (with_reducible refine Below.drew ?_) | (with_reducible refine below_drewN ?_ _) | (with_reducible refine Below.alloc ?_ ?_ _) | (with_reducible refine Below.setCell ?_ ?_ _) | omega | (simp; done) | (simp; omega))))⟩
      · go_wp2
        go_roundw
        have hb := HB.out
        case rel => first
          | exact ⟨k + 1, by omega, by go_num, (by (repeat' (first | (with_reducible exact Below.refl _ _) | (with_reducible assumption) | (with_reducible refine Below.drew ?_) | (with_reducible refine below_drewN ?_ _) | (with_reducible refine Below.alloc ?_ ?_ _) | (with_reducible refine Below.setCell ?_ ?_ _) | omega | (simp; done) | (simp; omega))))⟩
          | ((repeat apply Exists.intro); exact ⟨⟨k + 1, by omega, by go_num, (by (repeat' (first | (with_reducible exact Below.refl _ _) | (with_reducible assumption) | (with_reducible refine Below.drew ?_) | (with_reducible refine below_drewN ?_ _) | (with_reducible refine Below.alloc ?_ ?_ _) | (with_reducible refine Below.setCell ?_ ?_ _) | omega | (simp; done) | (simp; omega))))⟩, rfl⟩)
        case measure => simp [intOf]; omega
    · have hk9 : k = n0 := by omega
      subst hk9
      clear hlt hk
      go_wp2_with fail
      go_upto_region 13 with fail
      go_cut [11, 12] (fun xa xe wx => ∃ g, xa = .pointer (some ⟨g, 0, none⟩) ∧ xe = .int .i64 0 ∧ Blk wx g 49 [.int .i64 (R1 0), .int .i64 (R1 1), .int .i64 (R1 2), .int .i64 (R1 3), .int .i64 (R1 4), .int .i64 (R1 5), .int .i64 (R1 6), .int .i64 (R1 7), .int .i64 (R1 8), .int .i64 (R1 9)] ∧ Below w.heap.size w wx)
      case first =>
        have hb := HB.out
        refine wp_region_held_drew (S := fun w' => Below w.heap.size w w') (by kernel_rfl) hb.drew (fun hHeld => ?_)
        replace hb := hb.drew
        generalize World.drew _ = W0 at *
        refine wpAnyH_take (i := 0) (v := ?_) rfl (by decide +kernel) (by decide +kernel) (by decide +kernel) (fun _ _ _ h => h) (Or.inl ⟨by rfl, ?_⟩) (by assumption) ?_
        rotate_left 1
        · (intro w hSw; (try dsimp only at hSw); go_simp; try (with_reducible rfl))
        try simp only [List.getElem_toArray, List.getElem_cons_zero, List.getElem_cons_succ, Act.put, List.setIfInBounds_toArray, List.set_cons_zero, List.set_cons_succ]
        refine wpAnyH_take (i := 1) (v := ?_) rfl (by decide +kernel) (by decide +kernel) (by decide +kernel) (fun _ _ _ h => h) (Or.inl ⟨by rfl, ?_⟩) (by assumption) ?_
        rotate_left 1
        · (intro w hSw; (try dsimp only at hSw); go_simp; try (with_reducible rfl))
        try simp only [List.getElem_toArray, List.getElem_cons_zero, List.getElem_cons_succ, Act.put, List.setIfInBounds_toArray, List.set_cons_zero, List.set_cons_succ]
        refine wpAnyH_take (i := 2) (v := ?_) rfl (by decide +kernel) (by decide +kernel) (by decide +kernel) (fun _ _ _ h => h) (Or.inl ⟨by rfl, ?_⟩) (by assumption) ?_
        rotate_left 1
        · (intro w hSw; (try dsimp only at hSw); go_simp; try (with_reducible rfl))
        try simp only [List.getElem_toArray, List.getElem_cons_zero, List.getElem_cons_succ, Act.put, List.setIfInBounds_toArray, List.set_cons_zero, List.set_cons_succ]
        refine wpAnyH_take (i := 3) (v := ?_) rfl (by decide +kernel) (by decide +kernel) (by decide +kernel) (fun _ _ _ h => h) (Or.inl ⟨by rfl, ?_⟩) (by assumption) ?_
        rotate_left 1
        · (intro w hSw; (try dsimp only at hSw); go_simp; try (with_reducible rfl))
        try simp only [List.getElem_toArray, List.getElem_cons_zero, List.getElem_cons_succ, Act.put, List.setIfInBounds_toArray, List.set_cons_zero, List.set_cons_succ]
        refine wpAnyH_take (i := 4) (v := ?_) rfl (by decide +kernel) (by decide +kernel) (by decide +kernel) (fun _ _ _ h => h) (Or.inl ⟨by rfl, ?_⟩) (by assumption) ?_
        rotate_left 1
        · (intro w hSw; (try dsimp only at hSw); go_simp; try (with_reducible rfl))
        try simp only [List.getElem_toArray, List.getElem_cons_zero, List.getElem_cons_succ, Act.put, List.setIfInBounds_toArray, List.set_cons_zero, List.set_cons_succ]
        refine wpAnyH_take (i := 5) (v := ?_) rfl (by decide +kernel) (by decide +kernel) (by decide +kernel) (fun _ _ _ h => h) (Or.inl ⟨by rfl, ?_⟩) (by assumption) ?_
        rotate_left 1
        · (intro w hSw; (try dsimp only at hSw); go_simp; try (with_reducible rfl))
        try simp only [List.getElem_toArray, List.getElem_cons_zero, List.getElem_cons_succ, Act.put, List.setIfInBounds_toArray, List.set_cons_zero, List.set_cons_succ]
        refine wpAnyH_ready (rs := [6, 10]) (by decide +kernel) (by simp) ?_
        refine AllReadyH.cons rfl (fun K hK => ?_) (AllReadyH.cons rfl (fun K hK => ?_) AllReadyH.nil)
        · skip
          go_simp
          (go_at_call 18; (with_reducible refine (hof1 _ hb).mono ?_); rintro e w5 ⟨rfl, hb5⟩)
          have hs5 := hb.size
          replace hb := hb.trans (hb5.mono hs5)
          clear hb5
          refine hK.out _ _ (hb) (fun hHeld => ?_)
          clear hK K
          try simp only [List.getElem_toArray, List.getElem_cons_zero, List.getElem_cons_succ, Act.put, List.setIfInBounds_toArray, List.set_cons_zero, List.set_cons_succ]
          refine wpAnyH_take (i := 7) (v := ?_) rfl (by decide +kernel) (by decide +kernel) (by decide +kernel) (fun _ _ _ h => h) (Or.inl ⟨by rfl, ?_⟩) (by assumption) ?_
          rotate_left 1
          · (intro w hSw; (try dsimp only at hSw); go_simp; try (with_reducible rfl))
          try simp only [List.getElem_toArray, List.getElem_cons_zero, List.getElem_cons_succ, Act.put, List.setIfInBounds_toArray, List.set_cons_zero, List.set_cons_succ]
          refine wpAnyH_take (i := 8) (v := ?_) rfl (by decide +kernel) (by decide +kernel) (by decide +kernel) (fun _ _ _ h => h) (Or.inl ⟨by rfl, ?_⟩) (by assumption) ?_
          rotate_left 1
          · (intro w hSw; (try dsimp only at hSw); go_simp; try (with_reducible rfl))
          try simp only [List.getElem_toArray, List.getElem_cons_zero, List.getElem_cons_succ, Act.put, List.setIfInBounds_toArray, List.set_cons_zero, List.set_cons_succ]
          refine wpAnyH_take (i := 9) (v := ?_) rfl (by decide +kernel) (by decide +kernel) (by decide +kernel) (fun _ _ _ h => h) (Or.inl ⟨by rfl, ?_⟩) (by assumption) ?_
          rotate_left 1
          · (intro w hSw; (try dsimp only at hSw); go_simp; try (with_reducible rfl))
          try simp only [List.getElem_toArray, List.getElem_cons_zero, List.getElem_cons_succ, Act.put, List.setIfInBounds_toArray, List.set_cons_zero, List.set_cons_succ]
          refine wpAnyH_ready (rs := [10]) (by decide +kernel) (by simp) ?_
          refine AllReadyH.cons rfl (fun K hK => ?_) AllReadyH.nil
          go_simp
          have hz := Blk.top (g := (w5).heap.size) (t := 49) (cs := [.int .i64 0, .int .i64 0, .int .i64 0, .int .i64 0, .int .i64 0, .int .i64 0, .int .i64 0, .int .i64 0, .int .i64 0, .int .i64 0]) w5 rfl rfl
          have hlow := hb.size
          replace hb := hb.alloc hlow (.cells #[.int .i64 0, .int .i64 0, .int .i64 0, .int .i64 0, .int .i64 0, .int .i64 0, .int .i64 0, .int .i64 0, .int .i64 0, .int .i64 0] 49)
          obtain ⟨W6, hW6⟩ : ∃ W6, (w5).alloc (.cells #[.int .i64 0, .int .i64 0, .int .i64 0, .int .i64 0, .int .i64 0, .int .i64 0, .int .i64 0, .int .i64 0, .int .i64 0, .int .i64 0] 49) = W6 := ⟨_, rfl⟩
          obtain ⟨G6, hG6⟩ : ∃ G6, (w5).heap.size = G6 := ⟨_, rfl⟩
          simp only [hW6, hG6] at *
          clear hW6 hG6
          refine hK.out _ _ (hb) (fun hHeld => ?_)
          clear hK K
          try simp only [List.getElem_toArray, List.getElem_cons_zero, List.getElem_cons_succ, Act.put, List.setIfInBounds_toArray, List.set_cons_zero, List.set_cons_succ]
          refine wpAnyH_ready (rs := [11]) (by decide +kernel) (by simp) ?_
          refine AllReadyH.cons rfl (fun K hK => ?_) AllReadyH.nil
          rw [if_pos (by rfl)]
          refine wp_store_eq 49 (.tmp 11) (.tmp 51) rfl G6 0 #[.int .i64 (R1 0), .int .i64 (R1 1), .int .i64 (R1 2), .int .i64 (R1 3), .int .i64 (R1 4), .int .i64 (R1 5), .int .i64 (R1 6), .int .i64 (R1 7), .int .i64 (R1 8), .int .i64 (R1 9)] rfl rfl (hz.there 0 10 (by simp)) (by kernel_rfl) (all_oneCell_toArray (tl_one R1)) ?_
          intro S1 hS1
          replace hz : Blk S1 G6 49 [.int .i64 (R1 0), .int .i64 (R1 1), .int .i64 (R1 2), .int .i64 (R1 3), .int .i64 (R1 4), .int .i64 (R1 5), .int .i64 (R1 6), .int .i64 (R1 7), .int .i64 (R1 8), .int .i64 (R1 9)] := by rw [hS1]; exact hz.setAll rfl
          replace hb : Below w.heap.size w S1 := by rw [hS1]; exact below_setCells hb hlow _ _
          clear hS1
          refine hK.out _ _ (hb) (fun hHeld => ?_)
          clear hK K
          try simp only [List.getElem_toArray, List.getElem_cons_zero, List.getElem_cons_succ, Act.put, List.setIfInBounds_toArray, List.set_cons_zero, List.set_cons_succ]
          refine wpAnyH_take (i := 12) (v := ?_) rfl (by decide +kernel) (by decide +kernel) (by decide +kernel) (fun _ _ _ h => h) (Or.inl ⟨by rfl, ?_⟩) (by assumption) ?_
          rotate_left 1
          · (intro w hSw; (try dsimp only at hSw); go_simp; try (with_reducible rfl))
          try simp only [List.getElem_toArray, List.getElem_cons_zero, List.getElem_cons_succ, Act.put, List.setIfInBounds_toArray, List.set_cons_zero, List.set_cons_succ]
          refine wpAnyH_done (by decide +kernel) ?_ _
          clear hHeld
          go_wp2
          go_meet
          exact ⟨G6, rfl, rfl, hz, hb⟩
        · skip
          go_simp
          have hz := Blk.top (g := (W0).heap.size) (t := 49) (cs := [.int .i64 0, .int .i64 0, .int .i64 0, .int .i64 0, .int .i64 0, .int .i64 0, .int .i64 0, .int .i64 0, .int .i64 0, .int .i64 0]) W0 rfl rfl
          have hlow := hb.size
          replace hb := hb.alloc hlow (.cells #[.int .i64 0, .int .i64 0, .int .i64 0, .int .i64 0, .int .i64 0, .int .i64 0, .int .i64 0, .int .i64 0, .int .i64 0, .int .i64 0] 49)
          obtain ⟨W6, hW6⟩ : ∃ W6, (W0).alloc (.cells #[.int .i64 0, .int .i64 0, .int .i64 0, .int .i64 0, .int .i64 0, .int .i64 0, .int .i64 0, .int .i64 0, .int .i64 0, .int .i64 0] 49) = W6 := ⟨_, rfl⟩
          obtain ⟨G6, hG6⟩ : ∃ G6, (W0).heap.size = G6 := ⟨_, rfl⟩
          simp only [hW6, hG6] at *
          clear hW6 hG6
          refine hK.out _ _ (hb) (fun hHeld => ?_)
          clear hK K
          try simp only [List.getElem_toArray, List.getElem_cons_zero, List.getElem_cons_succ, Act.put, List.setIfInBounds_toArray, List.set_cons_zero, List.set_cons_succ]
          refine wpAnyH_ready (rs := [6]) (by decide +kernel) (by simp) ?_
          refine AllReadyH.cons rfl (fun K hK => ?_) AllReadyH.nil
          go_simp
          (go_at_call 18; (with_reducible refine (hof1 _ hb).mono ?_); rintro e w5 ⟨rfl, hb5⟩)
          have hs5 := hb.size
          replace hz := hz.below hb5 hz.lt
          replace hb := hb.trans (hb5.mono hs5)
          clear hb5
          refine hK.out _ _ (hb) (fun hHeld => ?_)
          clear hK K
          try simp only [List.getElem_toArray, List.getElem_cons_zero, List.getElem_cons_succ, Act.put, List.setIfInBounds_toArray, List.set_cons_zero, List.set_cons_succ]
          refine wpAnyH_take (i := 7) (v := ?_) rfl (by decide +kernel) (by decide +kernel) (by decide +kernel) (fun _ _ _ h => h) (Or.inl ⟨by rfl, ?_⟩) (by assumption) ?_
          rotate_left 1
          · (intro w hSw; (try dsimp only at hSw); go_simp; try (with_reducible rfl))
          try simp only [List.getElem_toArray, List.getElem_cons_zero, List.getElem_cons_succ, Act.put, List.setIfInBounds_toArray, List.set_cons_zero, List.set_cons_succ]
          refine wpAnyH_take (i := 8) (v := ?_) rfl (by decide +kernel) (by decide +kernel) (by decide +kernel) (fun _ _ _ h => h) (Or.inl ⟨by rfl, ?_⟩) (by assumption) ?_
          rotate_left 1
          · (intro w hSw; (try dsimp only at hSw); go_simp; try (with_reducible rfl))
          try simp only [List.getElem_toArray, List.getElem_cons_zero, List.getElem_cons_succ, Act.put, List.setIfInBounds_toArray, List.set_cons_zero, List.set_cons_succ]
          refine wpAnyH_take (i := 9) (v := ?_) rfl (by decide +kernel) (by decide +kernel) (by decide +kernel) (fun _ _ _ h => h) (Or.inl ⟨by rfl, ?_⟩) (by assumption) ?_
          rotate_left 1
          · (intro w hSw; (try dsimp only at hSw); go_simp; try (with_reducible rfl))
          try simp only [List.getElem_toArray, List.getElem_cons_zero, List.getElem_cons_succ, Act.put, List.setIfInBounds_toArray, List.set_cons_zero, List.set_cons_succ]
          refine wpAnyH_ready (rs := [11]) (by decide +kernel) (by simp) ?_
          refine AllReadyH.cons rfl (fun K hK => ?_) AllReadyH.nil
          rw [if_pos (by rfl)]
          refine wp_store_eq 49 (.tmp 11) (.tmp 51) rfl G6 0 #[.int .i64 (R1 0), .int .i64 (R1 1), .int .i64 (R1 2), .int .i64 (R1 3), .int .i64 (R1 4), .int .i64 (R1 5), .int .i64 (R1 6), .int .i64 (R1 7), .int .i64 (R1 8), .int .i64 (R1 9)] rfl rfl (hz.there 0 10 (by simp)) (by kernel_rfl) (all_oneCell_toArray (tl_one R1)) ?_
          intro S1 hS1
          replace hz : Blk S1 G6 49 [.int .i64 (R1 0), .int .i64 (R1 1), .int .i64 (R1 2), .int .i64 (R1 3), .int .i64 (R1 4), .int .i64 (R1 5), .int .i64 (R1 6), .int .i64 (R1 7), .int .i64 (R1 8), .int .i64 (R1 9)] := by rw [hS1]; exact hz.setAll rfl
          replace hb : Below w.heap.size w S1 := by rw [hS1]; exact below_setCells hb hlow _ _
          clear hS1
          refine hK.out _ _ (hb) (fun hHeld => ?_)
          clear hK K
          try simp only [List.getElem_toArray, List.getElem_cons_zero, List.getElem_cons_succ, Act.put, List.setIfInBounds_toArray, List.set_cons_zero, List.set_cons_succ]
          refine wpAnyH_take (i := 12) (v := ?_) rfl (by decide +kernel) (by decide +kernel) (by decide +kernel) (fun _ _ _ h => h) (Or.inl ⟨by rfl, ?_⟩) (by assumption) ?_
          rotate_left 1
          · (intro w hSw; (try dsimp only at hSw); go_simp; try (with_reducible rfl))
          try simp only [List.getElem_toArray, List.getElem_cons_zero, List.getElem_cons_succ, Act.put, List.setIfInBounds_toArray, List.set_cons_zero, List.set_cons_succ]
          refine wpAnyH_done (by decide +kernel) ?_ _
          clear hHeld
          go_wp2
          go_meet
          exact ⟨G6, rfl, rfl, hz, hb⟩
      case rest =>
        obtain ⟨g1, rfl, rfl, hz13, hb13⟩ := hcut
        clear HB
        have HB := Lib.hid hb13
        clear hb13
        have Hhg1 := Lib.hid hz13
        clear hz13
        go_upto_region 14 with fail
        go_cut [13, 14] (fun xa xe wx => ∃ g, xa = .pointer (some ⟨g, 0, none⟩) ∧ xe = .int .i64 0 ∧ Blk wx g 49 [.int .i64 (R2 0), .int .i64 (R2 1), .int .i64 (R2 2), .int .i64 (R2 3), .int .i64 (R2 4), .int .i64 (R2 5), .int .i64 (R2 6), .int .i64 (R2 7), .int .i64 (R2 8), .int .i64 (R2 9)] ∧ Below w.heap.size w wx ∧ Blk wx g1 49 [.int .i64 (R1 0), .int .i64 (R1 1), .int .i64 (R1 2), .int .i64 (R1 3), .int .i64 (R1 4), .int .i64 (R1 5), .int .i64 (R1 6), .int .i64 (R1 7), .int .i64 (R1 8), .int .i64 (R1 9)])
        case first =>
          have hb := HB.out
          have hg1 := Hhg1.out
          refine wp_region_held_drew (S := fun w' => Below w.heap.size w w') (by kernel_rfl) hb.drew (fun hHeld => ?_)
          replace hb := hb.drew
          replace hg1 := hg1.drew
          generalize World.drew _ = W0 at *
          refine wpAnyH_take (i := 0) (v := ?_) rfl (by decide +kernel) (by decide +kernel) (by decide +kernel) (fun _ _ _ h => h) (Or.inl ⟨by rfl, ?_⟩) (by assumption) ?_
          rotate_left 1
          · (intro w hSw; (try dsimp only at hSw); go_simp; try (with_reducible rfl))
          try simp only [List.getElem_toArray, List.getElem_cons_zero, List.getElem_cons_succ, Act.put, List.setIfInBounds_toArray, List.set_cons_zero, List.set_cons_succ]
          refine wpAnyH_take (i := 1) (v := ?_) rfl (by decide +kernel) (by decide +kernel) (by decide +kernel) (fun _ _ _ h => h) (Or.inl ⟨by rfl, ?_⟩) (by assumption) ?_
          rotate_left 1
          · (intro w hSw; (try dsimp only at hSw); go_simp; try (with_reducible rfl))
          try simp only [List.getElem_toArray, List.getElem_cons_zero, List.getElem_cons_succ, Act.put, List.setIfInBounds_toArray, List.set_cons_zero, List.set_cons_succ]
          refine wpAnyH_take (i := 2) (v := ?_) rfl (by decide +kernel) (by decide +kernel) (by decide +kernel) (fun _ _ _ h => h) (Or.inl ⟨by rfl, ?_⟩) (by assumption) ?_
          rotate_left 1
          · (intro w hSw; (try dsimp only at hSw); go_simp; try (with_reducible rfl))
          try simp only [List.getElem_toArray, List.getElem_cons_zero, List.getElem_cons_succ, Act.put, List.setIfInBounds_toArray, List.set_cons_zero, List.set_cons_succ]
          refine wpAnyH_take (i := 3) (v := ?_) rfl (by decide +kernel) (by decide +kernel) (by decide +kernel) (fun _ _ _ h => h) (Or.inl ⟨by rfl, ?_⟩) (by assumption) ?_
          rotate_left 1
          · (intro w hSw; (try dsimp only at hSw); go_simp; try (with_reducible rfl))
          try simp only [List.getElem_toArray, List.getElem_cons_zero, List.getElem_cons_succ, Act.put, List.setIfInBounds_toArray, List.set_cons_zero, List.set_cons_succ]
          refine wpAnyH_take (i := 4) (v := ?_) rfl (by decide +kernel) (by decide +kernel) (by decide +kernel) (fun _ _ _ h => h) (Or.inl ⟨by rfl, ?_⟩) (by assumption) ?_
          rotate_left 1
          · (intro w hSw; (try dsimp only at hSw); go_simp; try (with_reducible rfl))
          try simp only [List.getElem_toArray, List.getElem_cons_zero, List.getElem_cons_succ, Act.put, List.setIfInBounds_toArray, List.set_cons_zero, List.set_cons_succ]
          refine wpAnyH_take (i := 5) (v := ?_) rfl (by decide +kernel) (by decide +kernel) (by decide +kernel) (fun _ _ _ h => h) (Or.inl ⟨by rfl, ?_⟩) (by assumption) ?_
          rotate_left 1
          · (intro w hSw; (try dsimp only at hSw); go_simp; try (with_reducible rfl))
          try simp only [List.getElem_toArray, List.getElem_cons_zero, List.getElem_cons_succ, Act.put, List.setIfInBounds_toArray, List.set_cons_zero, List.set_cons_succ]
          refine wpAnyH_take (i := 6) (v := ?_) rfl (by decide +kernel) (by decide +kernel) (by decide +kernel) (fun _ _ _ h => h) (Or.inl ⟨by rfl, ?_⟩) (by assumption) ?_
          rotate_left 1
          · (intro w hSw; (try dsimp only at hSw); go_simp; try (with_reducible rfl))
          try simp only [List.getElem_toArray, List.getElem_cons_zero, List.getElem_cons_succ, Act.put, List.setIfInBounds_toArray, List.set_cons_zero, List.set_cons_succ]
          refine wpAnyH_take (i := 7) (v := ?_) rfl (by decide +kernel) (by decide +kernel) (by decide +kernel) (fun _ _ _ h => h) (Or.inl ⟨by rfl, ?_⟩) (by assumption) ?_
          rotate_left 1
          · (intro w hSw; (try dsimp only at hSw); go_simp; try (with_reducible rfl))
          try simp only [List.getElem_toArray, List.getElem_cons_zero, List.getElem_cons_succ, Act.put, List.setIfInBounds_toArray, List.set_cons_zero, List.set_cons_succ]
          refine wpAnyH_ready (rs := [8, 12]) (by decide +kernel) (by simp) ?_
          refine AllReadyH.cons rfl (fun K hK => ?_) (AllReadyH.cons rfl (fun K hK => ?_) AllReadyH.nil)
          · skip
            go_simp
            (go_at_call 18; (with_reducible refine (hof2 _ hb).mono ?_); rintro e w5 ⟨rfl, hb5⟩)
            have hs5 := hb.size
            replace hg1 := hg1.below hb5 hg1.lt
            replace hb := hb.trans (hb5.mono hs5)
            clear hb5
            refine hK.out _ _ (hb) (fun hHeld => ?_)
            clear hK K
            try simp only [List.getElem_toArray, List.getElem_cons_zero, List.getElem_cons_succ, Act.put, List.setIfInBounds_toArray, List.set_cons_zero, List.set_cons_succ]
            refine wpAnyH_take (i := 9) (v := ?_) rfl (by decide +kernel) (by decide +kernel) (by decide +kernel) (fun _ _ _ h => h) (Or.inl ⟨by rfl, ?_⟩) (by assumption) ?_
            rotate_left 1
            · (intro w hSw; (try dsimp only at hSw); go_simp; try (with_reducible rfl))
            try simp only [List.getElem_toArray, List.getElem_cons_zero, List.getElem_cons_succ, Act.put, List.setIfInBounds_toArray, List.set_cons_zero, List.set_cons_succ]
            refine wpAnyH_take (i := 10) (v := ?_) rfl (by decide +kernel) (by decide +kernel) (by decide +kernel) (fun _ _ _ h => h) (Or.inl ⟨by rfl, ?_⟩) (by assumption) ?_
            rotate_left 1
            · (intro w hSw; (try dsimp only at hSw); go_simp; try (with_reducible rfl))
            try simp only [List.getElem_toArray, List.getElem_cons_zero, List.getElem_cons_succ, Act.put, List.setIfInBounds_toArray, List.set_cons_zero, List.set_cons_succ]
            refine wpAnyH_take (i := 11) (v := ?_) rfl (by decide +kernel) (by decide +kernel) (by decide +kernel) (fun _ _ _ h => h) (Or.inl ⟨by rfl, ?_⟩) (by assumption) ?_
            rotate_left 1
            · (intro w hSw; (try dsimp only at hSw); go_simp; try (with_reducible rfl))
            try simp only [List.getElem_toArray, List.getElem_cons_zero, List.getElem_cons_succ, Act.put, List.setIfInBounds_toArray, List.set_cons_zero, List.set_cons_succ]
            refine wpAnyH_ready (rs := [12]) (by decide +kernel) (by simp) ?_
            refine AllReadyH.cons rfl (fun K hK => ?_) AllReadyH.nil
            go_simp
            have hz := Blk.top (g := (w5).heap.size) (t := 49) (cs := [.int .i64 0, .int .i64 0, .int .i64 0, .int .i64 0, .int .i64 0, .int .i64 0, .int .i64 0, .int .i64 0, .int .i64 0, .int .i64 0]) w5 rfl rfl
            have hlow := hb.size
            have lhg1 := hg1.lt
            replace hg1 := hg1.alloc (.cells #[.int .i64 0, .int .i64 0, .int .i64 0, .int .i64 0, .int .i64 0, .int .i64 0, .int .i64 0, .int .i64 0, .int .i64 0, .int .i64 0] 49)
            replace hb := hb.alloc hlow (.cells #[.int .i64 0, .int .i64 0, .int .i64 0, .int .i64 0, .int .i64 0, .int .i64 0, .int .i64 0, .int .i64 0, .int .i64 0, .int .i64 0] 49)
            obtain ⟨W6, hW6⟩ : ∃ W6, (w5).alloc (.cells #[.int .i64 0, .int .i64 0, .int .i64 0, .int .i64 0, .int .i64 0, .int .i64 0, .int .i64 0, .int .i64 0, .int .i64 0, .int .i64 0] 49) = W6 := ⟨_, rfl⟩
            obtain ⟨G6, hG6⟩ : ∃ G6, (w5).heap.size = G6 := ⟨_, rfl⟩
            simp only [hW6, hG6] at *
            clear hW6 hG6
            refine hK.out _ _ (hb) (fun hHeld => ?_)
            clear hK K
            try simp only [List.getElem_toArray, List.getElem_cons_zero, List.getElem_cons_succ, Act.put, List.setIfInBounds_toArray, List.set_cons_zero, List.set_cons_succ]
            refine wpAnyH_ready (rs := [13]) (by decide +kernel) (by simp) ?_
            refine AllReadyH.cons rfl (fun K hK => ?_) AllReadyH.nil
            rw [if_pos (by rfl)]
            refine wp_store_eq 49 (.tmp 13) (.tmp 63) rfl G6 0 #[.int .i64 (R2 0), .int .i64 (R2 1), .int .i64 (R2 2), .int .i64 (R2 3), .int .i64 (R2 4), .int .i64 (R2 5), .int .i64 (R2 6), .int .i64 (R2 7), .int .i64 (R2 8), .int .i64 (R2 9)] rfl rfl (hz.there 0 10 (by simp)) (by kernel_rfl) (all_oneCell_toArray (tl_one R2)) ?_
            intro S1 hS1
            replace hz : Blk S1 G6 49 [.int .i64 (R2 0), .int .i64 (R2 1), .int .i64 (R2 2), .int .i64 (R2 3), .int .i64 (R2 4), .int .i64 (R2 5), .int .i64 (R2 6), .int .i64 (R2 7), .int .i64 (R2 8), .int .i64 (R2 9)] := by rw [hS1]; exact hz.setAll rfl
            replace hg1 : Blk S1 g1 49 [.int .i64 (R1 0), .int .i64 (R1 1), .int .i64 (R1 2), .int .i64 (R1 3), .int .i64 (R1 4), .int .i64 (R1 5), .int .i64 (R1 6), .int .i64 (R1 7), .int .i64 (R1 8), .int .i64 (R1 9)] := by rw [hS1]; exact Blk.setCellsFar (by omega) _ _ _ hg1
            replace hb : Below w.heap.size w S1 := by rw [hS1]; exact below_setCells hb hlow _ _
            clear hS1
            refine hK.out _ _ (hb) (fun hHeld => ?_)
            clear hK K
            try simp only [List.getElem_toArray, List.getElem_cons_zero, List.getElem_cons_succ, Act.put, List.setIfInBounds_toArray, List.set_cons_zero, List.set_cons_succ]
            refine wpAnyH_take (i := 14) (v := ?_) rfl (by decide +kernel) (by decide +kernel) (by decide +kernel) (fun _ _ _ h => h) (Or.inl ⟨by rfl, ?_⟩) (by assumption) ?_
            rotate_left 1
            · (intro w hSw; (try dsimp only at hSw); go_simp; try (with_reducible rfl))
            try simp only [List.getElem_toArray, List.getElem_cons_zero, List.getElem_cons_succ, Act.put, List.setIfInBounds_toArray, List.set_cons_zero, List.set_cons_succ]
            refine wpAnyH_done (by decide +kernel) ?_ _
            clear hHeld
            go_wp2
            go_meet
            exact ⟨G6, rfl, rfl, hz, hb, hg1⟩
          · skip
            go_simp
            have hz := Blk.top (g := (W0).heap.size) (t := 49) (cs := [.int .i64 0, .int .i64 0, .int .i64 0, .int .i64 0, .int .i64 0, .int .i64 0, .int .i64 0, .int .i64 0, .int .i64 0, .int .i64 0]) W0 rfl rfl
            have hlow := hb.size
            have lhg1 := hg1.lt
            replace hg1 := hg1.alloc (.cells #[.int .i64 0, .int .i64 0, .int .i64 0, .int .i64 0, .int .i64 0, .int .i64 0, .int .i64 0, .int .i64 0, .int .i64 0, .int .i64 0] 49)
            replace hb := hb.alloc hlow (.cells #[.int .i64 0, .int .i64 0, .int .i64 0, .int .i64 0, .int .i64 0, .int .i64 0, .int .i64 0, .int .i64 0, .int .i64 0, .int .i64 0] 49)
            obtain ⟨W6, hW6⟩ : ∃ W6, (W0).alloc (.cells #[.int .i64 0, .int .i64 0, .int .i64 0, .int .i64 0, .int .i64 0, .int .i64 0, .int .i64 0, .int .i64 0, .int .i64 0, .int .i64 0] 49) = W6 := ⟨_, rfl⟩
            obtain ⟨G6, hG6⟩ : ∃ G6, (W0).heap.size = G6 := ⟨_, rfl⟩
            simp only [hW6, hG6] at *
            clear hW6 hG6
            refine hK.out _ _ (hb) (fun hHeld => ?_)
            clear hK K
            try simp only [List.getElem_toArray, List.getElem_cons_zero, List.getElem_cons_succ, Act.put, List.setIfInBounds_toArray, List.set_cons_zero, List.set_cons_succ]
            refine wpAnyH_ready (rs := [8]) (by decide +kernel) (by simp) ?_
            refine AllReadyH.cons rfl (fun K hK => ?_) AllReadyH.nil
            go_simp
            (go_at_call 18; (with_reducible refine (hof2 _ hb).mono ?_); rintro e w5 ⟨rfl, hb5⟩)
            have hs5 := hb.size
            replace hg1 := hg1.below hb5 hg1.lt
            replace hz := hz.below hb5 hz.lt
            replace hb := hb.trans (hb5.mono hs5)
            clear hb5
            refine hK.out _ _ (hb) (fun hHeld => ?_)
            clear hK K
            try simp only [List.getElem_toArray, List.getElem_cons_zero, List.getElem_cons_succ, Act.put, List.setIfInBounds_toArray, List.set_cons_zero, List.set_cons_succ]
            refine wpAnyH_take (i := 9) (v := ?_) rfl (by decide +kernel) (by decide +kernel) (by decide +kernel) (fun _ _ _ h => h) (Or.inl ⟨by rfl, ?_⟩) (by assumption) ?_
            rotate_left 1
            · (intro w hSw; (try dsimp only at hSw); go_simp; try (with_reducible rfl))
            try simp only [List.getElem_toArray, List.getElem_cons_zero, List.getElem_cons_succ, Act.put, List.setIfInBounds_toArray, List.set_cons_zero, List.set_cons_succ]
            refine wpAnyH_take (i := 10) (v := ?_) rfl (by decide +kernel) (by decide +kernel) (by decide +kernel) (fun _ _ _ h => h) (Or.inl ⟨by rfl, ?_⟩) (by assumption) ?_
            rotate_left 1
            · (intro w hSw; (try dsimp only at hSw); go_simp; try (with_reducible rfl))
            try simp only [List.getElem_toArray, List.getElem_cons_zero, List.getElem_cons_succ, Act.put, List.setIfInBounds_toArray, List.set_cons_zero, List.set_cons_succ]
            refine wpAnyH_take (i := 11) (v := ?_) rfl (by decide +kernel) (by decide +kernel) (by decide +kernel) (fun _ _ _ h => h) (Or.inl ⟨by rfl, ?_⟩) (by assumption) ?_
            rotate_left 1
            · (intro w hSw; (try dsimp only at hSw); go_simp; try (with_reducible rfl))
            try simp only [List.getElem_toArray, List.getElem_cons_zero, List.getElem_cons_succ, Act.put, List.setIfInBounds_toArray, List.set_cons_zero, List.set_cons_succ]
            refine wpAnyH_ready (rs := [13]) (by decide +kernel) (by simp) ?_
            refine AllReadyH.cons rfl (fun K hK => ?_) AllReadyH.nil
            rw [if_pos (by rfl)]
            refine wp_store_eq 49 (.tmp 13) (.tmp 63) rfl G6 0 #[.int .i64 (R2 0), .int .i64 (R2 1), .int .i64 (R2 2), .int .i64 (R2 3), .int .i64 (R2 4), .int .i64 (R2 5), .int .i64 (R2 6), .int .i64 (R2 7), .int .i64 (R2 8), .int .i64 (R2 9)] rfl rfl (hz.there 0 10 (by simp)) (by kernel_rfl) (all_oneCell_toArray (tl_one R2)) ?_
            intro S1 hS1
            replace hz : Blk S1 G6 49 [.int .i64 (R2 0), .int .i64 (R2 1), .int .i64 (R2 2), .int .i64 (R2 3), .int .i64 (R2 4), .int .i64 (R2 5), .int .i64 (R2 6), .int .i64 (R2 7), .int .i64 (R2 8), .int .i64 (R2 9)] := by rw [hS1]; exact hz.setAll rfl
            replace hg1 : Blk S1 g1 49 [.int .i64 (R1 0), .int .i64 (R1 1), .int .i64 (R1 2), .int .i64 (R1 3), .int .i64 (R1 4), .int .i64 (R1 5), .int .i64 (R1 6), .int .i64 (R1 7), .int .i64 (R1 8), .int .i64 (R1 9)] := by rw [hS1]; exact Blk.setCellsFar (by omega) _ _ _ hg1
            replace hb : Below w.heap.size w S1 := by rw [hS1]; exact below_setCells hb hlow _ _
            clear hS1
            refine hK.out _ _ (hb) (fun hHeld => ?_)
            clear hK K
            try simp only [List.getElem_toArray, List.getElem_cons_zero, List.getElem_cons_succ, Act.put, List.setIfInBounds_toArray, List.set_cons_zero, List.set_cons_succ]
            refine wpAnyH_take (i := 14) (v := ?_) rfl (by decide +kernel) (by decide +kernel) (by decide +kernel) (fun _ _ _ h => h) (Or.inl ⟨by rfl, ?_⟩) (by assumption) ?_
            rotate_left 1
            · (intro w hSw; (try dsimp only at hSw); go_simp; try (with_reducible rfl))
            try simp only [List.getElem_toArray, List.getElem_cons_zero, List.getElem_cons_succ, Act.put, List.setIfInBounds_toArray, List.set_cons_zero, List.set_cons_succ]
            refine wpAnyH_done (by decide +kernel) ?_ _
            clear hHeld
            go_wp2
            go_meet
            exact ⟨G6, rfl, rfl, hz, hb, hg1⟩
        case rest =>
          obtain ⟨g2, rfl, rfl, hz14, hb14, hg1⟩ := hcut
          clear HB
          have HB := Lib.hid hb14
          clear hb14
          clear Hhg1
          have Hhg1 := Lib.hid hg1
          clear hg1
          have Hhg2 := Lib.hid hz14
          clear hz14
          go_upto_region 15 with fail
          go_cut [15, 16] (fun xa xe wx => ∃ g, xa = .pointer (some ⟨g, 0, none⟩) ∧ xe = .int .i64 0 ∧ Blk wx g 49 [.int .i64 (R3 0), .int .i64 (R3 1), .int .i64 (R3 2), .int .i64 (R3 3), .int .i64 (R3 4), .int .i64 (R3 5), .int .i64 (R3 6), .int .i64 (R3 7), .int .i64 (R3 8), .int .i64 (R3 9)] ∧ Below w.heap.size w wx ∧ Blk wx g1 49 [.int .i64 (R1 0), .int .i64 (R1 1), .int .i64 (R1 2), .int .i64 (R1 3), .int .i64 (R1 4), .int .i64 (R1 5), .int .i64 (R1 6), .int .i64 (R1 7), .int .i64 (R1 8), .int .i64 (R1 9)] ∧ Blk wx g2 49 [.int .i64 (R2 0), .int .i64 (R2 1), .int .i64 (R2 2), .int .i64 (R2 3), .int .i64 (R2 4), .int .i64 (R2 5), .int .i64 (R2 6), .int .i64 (R2 7), .int .i64 (R2 8), .int .i64 (R2 9)])
          case first =>
            have hb := HB.out
            have hg1 := Hhg1.out
            have hg2 := Hhg2.out
            refine wp_region_held_drew (S := fun w' => Below w.heap.size w w') (by kernel_rfl) hb.drew (fun hHeld => ?_)
            replace hb := hb.drew
            replace hg1 := hg1.drew
            replace hg2 := hg2.drew
            generalize World.drew _ = W0 at *
            refine wpAnyH_take (i := 0) (v := ?_) rfl (by decide +kernel) (by decide +kernel) (by decide +kernel) (fun _ _ _ h => h) (Or.inl ⟨by rfl, ?_⟩) (by assumption) ?_
            rotate_left 1
            · (intro w hSw; (try dsimp only at hSw); go_simp; try (with_reducible rfl))
            try simp only [List.getElem_toArray, List.getElem_cons_zero, List.getElem_cons_succ, Act.put, List.setIfInBounds_toArray, List.set_cons_zero, List.set_cons_succ]
            refine wpAnyH_take (i := 1) (v := ?_) rfl (by decide +kernel) (by decide +kernel) (by decide +kernel) (fun _ _ _ h => h) (Or.inl ⟨by rfl, ?_⟩) (by assumption) ?_
            rotate_left 1
            · (intro w hSw; (try dsimp only at hSw); go_simp; try (with_reducible rfl))
            try simp only [List.getElem_toArray, List.getElem_cons_zero, List.getElem_cons_succ, Act.put, List.setIfInBounds_toArray, List.set_cons_zero, List.set_cons_succ]
            refine wpAnyH_take (i := 2) (v := ?_) rfl (by decide +kernel) (by decide +kernel) (by decide +kernel) (fun _ _ _ h => h) (Or.inl ⟨by rfl, ?_⟩) (by assumption) ?_
            rotate_left 1
            · (intro w hSw; (try dsimp only at hSw); go_simp; try (with_reducible rfl))
            try simp only [List.getElem_toArray, List.getElem_cons_zero, List.getElem_cons_succ, Act.put, List.setIfInBounds_toArray, List.set_cons_zero, List.set_cons_succ]
            refine wpAnyH_take (i := 3) (v := ?_) rfl (by decide +kernel) (by decide +kernel) (by decide +kernel) (fun _ _ _ h => h) (Or.inl ⟨by rfl, ?_⟩) (by assumption) ?_
            rotate_left 1
            · (intro w hSw; (try dsimp only at hSw); go_simp; try (with_reducible rfl))
            try simp only [List.getElem_toArray, List.getElem_cons_zero, List.getElem_cons_succ, Act.put, List.setIfInBounds_toArray, List.set_cons_zero, List.set_cons_succ]
            refine wpAnyH_take (i := 4) (v := ?_) rfl (by decide +kernel) (by decide +kernel) (by decide +kernel) (fun _ _ _ h => h) (Or.inl ⟨by rfl, ?_⟩) (by assumption) ?_
            rotate_left 1
            · (intro w hSw; (try dsimp only at hSw); go_simp; try (with_reducible rfl))
            try simp only [List.getElem_toArray, List.getElem_cons_zero, List.getElem_cons_succ, Act.put, List.setIfInBounds_toArray, List.set_cons_zero, List.set_cons_succ]
            refine wpAnyH_take (i := 5) (v := ?_) rfl (by decide +kernel) (by decide +kernel) (by decide +kernel) (fun _ _ _ h => h) (Or.inl ⟨by rfl, ?_⟩) (by assumption) ?_
            rotate_left 1
            · (intro w hSw; (try dsimp only at hSw); go_simp; try (with_reducible rfl))
            try simp only [List.getElem_toArray, List.getElem_cons_zero, List.getElem_cons_succ, Act.put, List.setIfInBounds_toArray, List.set_cons_zero, List.set_cons_succ]
            refine wpAnyH_ready (rs := [6, 10]) (by decide +kernel) (by simp) ?_
            refine AllReadyH.cons rfl (fun K hK => ?_) (AllReadyH.cons rfl (fun K hK => ?_) AllReadyH.nil)
            · skip
              go_simp
              (go_at_call 18; (with_reducible refine (hof3 _ hb).mono ?_); rintro e w5 ⟨rfl, hb5⟩)
              have hs5 := hb.size
              replace hg1 := hg1.below hb5 hg1.lt
              replace hg2 := hg2.below hb5 hg2.lt
              replace hb := hb.trans (hb5.mono hs5)
              clear hb5
              refine hK.out _ _ (hb) (fun hHeld => ?_)
              clear hK K
              try simp only [List.getElem_toArray, List.getElem_cons_zero, List.getElem_cons_succ, Act.put, List.setIfInBounds_toArray, List.set_cons_zero, List.set_cons_succ]
              refine wpAnyH_take (i := 7) (v := ?_) rfl (by decide +kernel) (by decide +kernel) (by decide +kernel) (fun _ _ _ h => h) (Or.inl ⟨by rfl, ?_⟩) (by assumption) ?_
              rotate_left 1
              · (intro w hSw; (try dsimp only at hSw); go_simp; try (with_reducible rfl))
              try simp only [List.getElem_toArray, List.getElem_cons_zero, List.getElem_cons_succ, Act.put, List.setIfInBounds_toArray, List.set_cons_zero, List.set_cons_succ]
              refine wpAnyH_take (i := 8) (v := ?_) rfl (by decide +kernel) (by decide +kernel) (by decide +kernel) (fun _ _ _ h => h) (Or.inl ⟨by rfl, ?_⟩) (by assumption) ?_
              rotate_left 1
              · (intro w hSw; (try dsimp only at hSw); go_simp; try (with_reducible rfl))
              try simp only [List.getElem_toArray, List.getElem_cons_zero, List.getElem_cons_succ, Act.put, List.setIfInBounds_toArray, List.set_cons_zero, List.set_cons_succ]
              refine wpAnyH_take (i := 9) (v := ?_) rfl (by decide +kernel) (by decide +kernel) (by decide +kernel) (fun _ _ _ h => h) (Or.inl ⟨by rfl, ?_⟩) (by assumption) ?_
              rotate_left 1
              · (intro w hSw; (try dsimp only at hSw); go_simp; try (with_reducible rfl))
              try simp only [List.getElem_toArray, List.getElem_cons_zero, List.getElem_cons_succ, Act.put, List.setIfInBounds_toArray, List.set_cons_zero, List.set_cons_succ]
              refine wpAnyH_ready (rs := [10]) (by decide +kernel) (by simp) ?_
              refine AllReadyH.cons rfl (fun K hK => ?_) AllReadyH.nil
              go_simp
              have hz := Blk.top (g := (w5).heap.size) (t := 49) (cs := [.int .i64 0, .int .i64 0, .int .i64 0, .int .i64 0, .int .i64 0, .int .i64 0, .int .i64 0, .int .i64 0, .int .i64 0, .int .i64 0]) w5 rfl rfl
              have hlow := hb.size
              have lhg1 := hg1.lt
              replace hg1 := hg1.alloc (.cells #[.int .i64 0, .int .i64 0, .int .i64 0, .int .i64 0, .int .i64 0, .int .i64 0, .int .i64 0, .int .i64 0, .int .i64 0, .int .i64 0] 49)
              have lhg2 := hg2.lt
              replace hg2 := hg2.alloc (.cells #[.int .i64 0, .int .i64 0, .int .i64 0, .int .i64 0, .int .i64 0, .int .i64 0, .int .i64 0, .int .i64 0, .int .i64 0, .int .i64 0] 49)
              replace hb := hb.alloc hlow (.cells #[.int .i64 0, .int .i64 0, .int .i64 0, .int .i64 0, .int .i64 0, .int .i64 0, .int .i64 0, .int .i64 0, .int .i64 0, .int .i64 0] 49)
              obtain ⟨W6, hW6⟩ : ∃ W6, (w5).alloc (.cells #[.int .i64 0, .int .i64 0, .int .i64 0, .int .i64 0, .int .i64 0, .int .i64 0, .int .i64 0, .int .i64 0, .int .i64 0, .int .i64 0] 49) = W6 := ⟨_, rfl⟩
              obtain ⟨G6, hG6⟩ : ∃ G6, (w5).heap.size = G6 := ⟨_, rfl⟩
              simp only [hW6, hG6] at *
              clear hW6 hG6
              refine hK.out _ _ (hb) (fun hHeld => ?_)
              clear hK K
              try simp only [List.getElem_toArray, List.getElem_cons_zero, List.getElem_cons_succ, Act.put, List.setIfInBounds_toArray, List.set_cons_zero, List.set_cons_succ]
              refine wpAnyH_ready (rs := [11]) (by decide +kernel) (by simp) ?_
              refine AllReadyH.cons rfl (fun K hK => ?_) AllReadyH.nil
              rw [if_pos (by rfl)]
              refine wp_store_eq 49 (.tmp 15) (.tmp 73) rfl G6 0 #[.int .i64 (R3 0), .int .i64 (R3 1), .int .i64 (R3 2), .int .i64 (R3 3), .int .i64 (R3 4), .int .i64 (R3 5), .int .i64 (R3 6), .int .i64 (R3 7), .int .i64 (R3 8), .int .i64 (R3 9)] rfl rfl (hz.there 0 10 (by simp)) (by kernel_rfl) (all_oneCell_toArray (tl_one R3)) ?_
              intro S1 hS1
              replace hz : Blk S1 G6 49 [.int .i64 (R3 0), .int .i64 (R3 1), .int .i64 (R3 2), .int .i64 (R3 3), .int .i64 (R3 4), .int .i64 (R3 5), .int .i64 (R3 6), .int .i64 (R3 7), .int .i64 (R3 8), .int .i64 (R3 9)] := by rw [hS1]; exact hz.setAll rfl
              replace hg1 : Blk S1 g1 49 [.int .i64 (R1 0), .int .i64 (R1 1), .int .i64 (R1 2), .int .i64 (R1 3), .int .i64 (R1 4), .int .i64 (R1 5), .int .i64 (R1 6), .int .i64 (R1 7), .int .i64 (R1 8), .int .i64 (R1 9)] := by rw [hS1]; exact Blk.setCellsFar (by omega) _ _ _ hg1
              replace hg2 : Blk S1 g2 49 [.int .i64 (R2 0), .int .i64 (R2 1), .int .i64 (R2 2), .int .i64 (R2 3), .int .i64 (R2 4), .int .i64 (R2 5), .int .i64 (R2 6), .int .i64 (R2 7), .int .i64 (R2 8), .int .i64 (R2 9)] := by rw [hS1]; exact Blk.setCellsFar (by omega) _ _ _ hg2
              replace hb : Below w.heap.size w S1 := by rw [hS1]; exact below_setCells hb hlow _ _
              clear hS1
              refine hK.out _ _ (hb) (fun hHeld => ?_)
              clear hK K
              try simp only [List.getElem_toArray, List.getElem_cons_zero, List.getElem_cons_succ, Act.put, List.setIfInBounds_toArray, List.set_cons_zero, List.set_cons_succ]
              refine wpAnyH_take (i := 12) (v := ?_) rfl (by decide +kernel) (by decide +kernel) (by decide +kernel) (fun _ _ _ h => h) (Or.inl ⟨by rfl, ?_⟩) (by assumption) ?_
              rotate_left 1
              · (intro w hSw; (try dsimp only at hSw); go_simp; try (with_reducible rfl))
              try simp only [List.getElem_toArray, List.getElem_cons_zero, List.getElem_cons_succ, Act.put, List.setIfInBounds_toArray, List.set_cons_zero, List.set_cons_succ]
              refine wpAnyH_done (by decide +kernel) ?_ _
              clear hHeld
              go_wp2
              go_meet
              exact ⟨G6, rfl, rfl, hz, hb, hg1, hg2⟩
            · skip
              go_simp
              have hz := Blk.top (g := (W0).heap.size) (t := 49) (cs := [.int .i64 0, .int .i64 0, .int .i64 0, .int .i64 0, .int .i64 0, .int .i64 0, .int .i64 0, .int .i64 0, .int .i64 0, .int .i64 0]) W0 rfl rfl
              have hlow := hb.size
              have lhg1 := hg1.lt
              replace hg1 := hg1.alloc (.cells #[.int .i64 0, .int .i64 0, .int .i64 0, .int .i64 0, .int .i64 0, .int .i64 0, .int .i64 0, .int .i64 0, .int .i64 0, .int .i64 0] 49)
              have lhg2 := hg2.lt
              replace hg2 := hg2.alloc (.cells #[.int .i64 0, .int .i64 0, .int .i64 0, .int .i64 0, .int .i64 0, .int .i64 0, .int .i64 0, .int .i64 0, .int .i64 0, .int .i64 0] 49)
              replace hb := hb.alloc hlow (.cells #[.int .i64 0, .int .i64 0, .int .i64 0, .int .i64 0, .int .i64 0, .int .i64 0, .int .i64 0, .int .i64 0, .int .i64 0, .int .i64 0] 49)
              obtain ⟨W6, hW6⟩ : ∃ W6, (W0).alloc (.cells #[.int .i64 0, .int .i64 0, .int .i64 0, .int .i64 0, .int .i64 0, .int .i64 0, .int .i64 0, .int .i64 0, .int .i64 0, .int .i64 0] 49) = W6 := ⟨_, rfl⟩
              obtain ⟨G6, hG6⟩ : ∃ G6, (W0).heap.size = G6 := ⟨_, rfl⟩
              simp only [hW6, hG6] at *
              clear hW6 hG6
              refine hK.out _ _ (hb) (fun hHeld => ?_)
              clear hK K
              try simp only [List.getElem_toArray, List.getElem_cons_zero, List.getElem_cons_succ, Act.put, List.setIfInBounds_toArray, List.set_cons_zero, List.set_cons_succ]
              refine wpAnyH_ready (rs := [6]) (by decide +kernel) (by simp) ?_
              refine AllReadyH.cons rfl (fun K hK => ?_) AllReadyH.nil
              go_simp
              (go_at_call 18; (with_reducible refine (hof3 _ hb).mono ?_); rintro e w5 ⟨rfl, hb5⟩)
              have hs5 := hb.size
              replace hg1 := hg1.below hb5 hg1.lt
              replace hg2 := hg2.below hb5 hg2.lt
              replace hz := hz.below hb5 hz.lt
              replace hb := hb.trans (hb5.mono hs5)
              clear hb5
              refine hK.out _ _ (hb) (fun hHeld => ?_)
              clear hK K
              try simp only [List.getElem_toArray, List.getElem_cons_zero, List.getElem_cons_succ, Act.put, List.setIfInBounds_toArray, List.set_cons_zero, List.set_cons_succ]
              refine wpAnyH_take (i := 7) (v := ?_) rfl (by decide +kernel) (by decide +kernel) (by decide +kernel) (fun _ _ _ h => h) (Or.inl ⟨by rfl, ?_⟩) (by assumption) ?_
              rotate_left 1
              · (intro w hSw; (try dsimp only at hSw); go_simp; try (with_reducible rfl))
              try simp only [List.getElem_toArray, List.getElem_cons_zero, List.getElem_cons_succ, Act.put, List.setIfInBounds_toArray, List.set_cons_zero, List.set_cons_succ]
              refine wpAnyH_take (i := 8) (v := ?_) rfl (by decide +kernel) (by decide +kernel) (by decide +kernel) (fun _ _ _ h => h) (Or.inl ⟨by rfl, ?_⟩) (by assumption) ?_
              rotate_left 1
              · (intro w hSw; (try dsimp only at hSw); go_simp; try (with_reducible rfl))
              try simp only [List.getElem_toArray, List.getElem_cons_zero, List.getElem_cons_succ, Act.put, List.setIfInBounds_toArray, List.set_cons_zero, List.set_cons_succ]
              refine wpAnyH_take (i := 9) (v := ?_) rfl (by decide +kernel) (by decide +kernel) (by decide +kernel) (fun _ _ _ h => h) (Or.inl ⟨by rfl, ?_⟩) (by assumption) ?_
              rotate_left 1
              · (intro w hSw; (try dsimp only at hSw); go_simp; try (with_reducible rfl))
              try simp only [List.getElem_toArray, List.getElem_cons_zero, List.getElem_cons_succ, Act.put, List.setIfInBounds_toArray, List.set_cons_zero, List.set_cons_succ]
              refine wpAnyH_ready (rs := [11]) (by decide +kernel) (by simp) ?_
              refine AllReadyH.cons rfl (fun K hK => ?_) AllReadyH.nil
              rw [if_pos (by rfl)]
              refine wp_store_eq 49 (.tmp 15) (.tmp 73) rfl G6 0 #[.int .i64 (R3 0), .int .i64 (R3 1), .int .i64 (R3 2), .int .i64 (R3 3), .int .i64 (R3 4), .int .i64 (R3 5), .int .i64 (R3 6), .int .i64 (R3 7), .int .i64 (R3 8), .int .i64 (R3 9)] rfl rfl (hz.there 0 10 (by simp)) (by kernel_rfl) (all_oneCell_toArray (tl_one R3)) ?_
              intro S1 hS1
              replace hz : Blk S1 G6 49 [.int .i64 (R3 0), .int .i64 (R3 1), .int .i64 (R3 2), .int .i64 (R3 3), .int .i64 (R3 4), .int .i64 (R3 5), .int .i64 (R3 6), .int .i64 (R3 7), .int .i64 (R3 8), .int .i64 (R3 9)] := by rw [hS1]; exact hz.setAll rfl
              replace hg1 : Blk S1 g1 49 [.int .i64 (R1 0), .int .i64 (R1 1), .int .i64 (R1 2), .int .i64 (R1 3), .int .i64 (R1 4), .int .i64 (R1 5), .int .i64 (R1 6), .int .i64 (R1 7), .int .i64 (R1 8), .int .i64 (R1 9)] := by rw [hS1]; exact Blk.setCellsFar (by omega) _ _ _ hg1
              replace hg2 : Blk S1 g2 49 [.int .i64 (R2 0), .int .i64 (R2 1), .int .i64 (R2 2), .int .i64 (R2 3), .int .i64 (R2 4), .int .i64 (R2 5), .int .i64 (R2 6), .int .i64 (R2 7), .int .i64 (R2 8), .int .i64 (R2 9)] := by rw [hS1]; exact Blk.setCellsFar (by omega) _ _ _ hg2
              replace hb : Below w.heap.size w S1 := by rw [hS1]; exact below_setCells hb hlow _ _
              clear hS1
              refine hK.out _ _ (hb) (fun hHeld => ?_)
              clear hK K
              try simp only [List.getElem_toArray, List.getElem_cons_zero, List.getElem_cons_succ, Act.put, List.setIfInBounds_toArray, List.set_cons_zero, List.set_cons_succ]
              refine wpAnyH_take (i := 12) (v := ?_) rfl (by decide +kernel) (by decide +kernel) (by decide +kernel) (fun _ _ _ h => h) (Or.inl ⟨by rfl, ?_⟩) (by assumption) ?_
              rotate_left 1
              · (intro w hSw; (try dsimp only at hSw); go_simp; try (with_reducible rfl))
              try simp only [List.getElem_toArray, List.getElem_cons_zero, List.getElem_cons_succ, Act.put, List.setIfInBounds_toArray, List.set_cons_zero, List.set_cons_succ]
              refine wpAnyH_done (by decide +kernel) ?_ _
              clear hHeld
              go_wp2
              go_meet
              exact ⟨G6, rfl, rfl, hz, hb, hg1, hg2⟩
          case rest =>
            obtain ⟨g3, rfl, rfl, hz15, hb15, hg1, hg2⟩ := hcut
            clear HB
            have HB := Lib.hid hb15
            clear hb15
            clear Hhg1
            have Hhg1 := Lib.hid hg1
            clear hg1
            clear Hhg2
            have Hhg2 := Lib.hid hg2
            clear hg2
            have Hhg3 := Lib.hid hz15
            clear hz15
            go_upto_region 16 with fail
            have hb := HB.out
            have hg1 := Hhg1.out
            have hg2 := Hhg2.out
            have hg3 := Hhg3.out
            refine wp_region_held_drew (S := fun w' => Blk w' g1 49 [.int .i64 (R1 0), .int .i64 (R1 1), .int .i64 (R1 2), .int .i64 (R1 3), .int .i64 (R1 4), .int .i64 (R1 5), .int .i64 (R1 6), .int .i64 (R1 7), .int .i64 (R1 8), .int .i64 (R1 9)] ∧ Blk w' g2 49 [.int .i64 (R2 0), .int .i64 (R2 1), .int .i64 (R2 2), .int .i64 (R2 3), .int .i64 (R2 4), .int .i64 (R2 5), .int .i64 (R2 6), .int .i64 (R2 7), .int .i64 (R2 8), .int .i64 (R2 9)] ∧ Blk w' g3 49 [.int .i64 (R3 0), .int .i64 (R3 1), .int .i64 (R3 2), .int .i64 (R3 3), .int .i64 (R3 4), .int .i64 (R3 5), .int .i64 (R3 6), .int .i64 (R3 7), .int .i64 (R3 8), .int .i64 (R3 9)]) (by kernel_rfl) ⟨hg1.drew, hg2.drew, hg3.drew⟩ (fun hHeld => ?_)
            replace hb := hb.drew
            replace hg1 := hg1.drew
            replace hg2 := hg2.drew
            replace hg3 := hg3.drew
            generalize World.drew _ = W0 at *
            refine wpAnyH_take (i := 0) (v := ?_) rfl (by decide +kernel) (by decide +kernel) (by decide +kernel) (fun _ _ _ h => h) (Or.inl ⟨by rfl, ?_⟩) (by assumption) ?_
            rotate_left 1
            · (intro w hSw; (try dsimp only at hSw); go_simp; try (with_reducible rfl))
            try simp only [List.getElem_toArray, List.getElem_cons_zero, List.getElem_cons_succ, Act.put, List.setIfInBounds_toArray, List.set_cons_zero, List.set_cons_succ]
            refine wpAnyH_take (i := 1) (v := ?_) rfl (by decide +kernel) (by decide +kernel) (by decide +kernel) (fun _ _ _ h => h) (Or.inl ⟨by rfl, ?_⟩) (by assumption) ?_
            rotate_left 1
            · (intro w hSw; (try dsimp only at hSw); go_simp; try (with_reducible rfl))
            try simp only [List.getElem_toArray, List.getElem_cons_zero, List.getElem_cons_succ, Act.put, List.setIfInBounds_toArray, List.set_cons_zero, List.set_cons_succ]
            refine wpAnyH_take (i := 2) (v := ?_) rfl (by decide +kernel) (by decide +kernel) (by decide +kernel) (fun _ _ _ h => h) (Or.inl ⟨by rfl, ?_⟩) (by assumption) ?_
            rotate_left 1
            · (intro w hSw; (try dsimp only at hSw); go_simp; try (with_reducible rfl))
            try simp only [List.getElem_toArray, List.getElem_cons_zero, List.getElem_cons_succ, Act.put, List.setIfInBounds_toArray, List.set_cons_zero, List.set_cons_succ]
            refine wpAnyH_take (i := 3) (v := ?_) rfl (by decide +kernel) (by decide +kernel) (by decide +kernel) (fun _ _ _ h => h) (Or.inl ⟨by rfl, ?_⟩) (by assumption) ?_
            rotate_left 1
            · (intro w hSw; (try dsimp only at hSw); go_simp; try (with_reducible rfl))
            try simp only [List.getElem_toArray, List.getElem_cons_zero, List.getElem_cons_succ, Act.put, List.setIfInBounds_toArray, List.set_cons_zero, List.set_cons_succ]
            refine wpAnyH_take (i := 4) (v := ?_) rfl (by decide +kernel) (by decide +kernel) (by decide +kernel) (fun _ _ _ h => h) (Or.inl ⟨by rfl, ?_⟩) (by assumption) ?_
            rotate_left 1
            · (intro w hSw; (try dsimp only at hSw); go_simp; try (with_reducible rfl))
            try simp only [List.getElem_toArray, List.getElem_cons_zero, List.getElem_cons_succ, Act.put, List.setIfInBounds_toArray, List.set_cons_zero, List.set_cons_succ]
            refine wpAnyH_take (i := 5) (v := ?_) rfl (by decide +kernel) (by decide +kernel) (by decide +kernel) (fun _ _ _ h => h) (Or.inl ⟨by rfl, ?_⟩) (by assumption) ?_
            rotate_left 1
            · (intro w hSw; (try dsimp only at hSw); go_simp; try (with_reducible rfl))
            try simp only [List.getElem_toArray, List.getElem_cons_zero, List.getElem_cons_succ, Act.put, List.setIfInBounds_toArray, List.set_cons_zero, List.set_cons_succ]
            refine wpAnyH_take (i := 6) (v := ?_) rfl (by decide +kernel) (by decide +kernel) (by decide +kernel) (fun _ _ _ h => h) (Or.inl ⟨by rfl, ?_⟩) (by assumption) ?_
            rotate_left 1
            · (intro w hSw; (try dsimp only at hSw); go_simp; try (with_reducible rfl))
            try simp only [List.getElem_toArray, List.getElem_cons_zero, List.getElem_cons_succ, Act.put, List.setIfInBounds_toArray, List.set_cons_zero, List.set_cons_succ]
            refine wpAnyH_take (i := 7) (v := ?_) rfl (by decide +kernel) (by decide +kernel) (by decide +kernel) (fun _ _ _ h => h) (Or.inl ⟨by rfl, ?_⟩) (by assumption) ?_
            rotate_left 1
            · (intro w hSw; (try dsimp only at hSw); go_simp; try (with_reducible rfl))
            try simp only [List.getElem_toArray, List.getElem_cons_zero, List.getElem_cons_succ, Act.put, List.setIfInBounds_toArray, List.set_cons_zero, List.set_cons_succ]
            refine wpAnyH_take (i := 8) (v := ?_) rfl (by decide +kernel) (by decide +kernel) (by decide +kernel) (fun _ _ _ h => h) (Or.inl ⟨by rfl, ?_⟩) (by assumption) ?_
            rotate_left 1
            · (intro w hSw; (try dsimp only at hSw); go_simp; try (with_reducible rfl))
            try simp only [List.getElem_toArray, List.getElem_cons_zero, List.getElem_cons_succ, Act.put, List.setIfInBounds_toArray, List.set_cons_zero, List.set_cons_succ]
            refine wpAnyH_take (i := 9) (v := ?_) rfl (by decide +kernel) (by decide +kernel) (by decide +kernel) (fun _ _ _ h => h) (Or.inl ⟨by rfl, ?_⟩) (by assumption) ?_
            rotate_left 1
            · (intro w hSw; (try dsimp only at hSw); go_simp; try (with_reducible rfl))
            try simp only [List.getElem_toArray, List.getElem_cons_zero, List.getElem_cons_succ, Act.put, List.setIfInBounds_toArray, List.set_cons_zero, List.set_cons_succ]
            refine wpAnyH_take (i := 10) (v := ?_) rfl (by decide +kernel) (by decide +kernel) (by decide +kernel) (fun _ _ _ h => h) (Or.inl ⟨by rfl, ?_⟩) (by assumption) ?_
            rotate_left 1
            · (intro w hSw; (try dsimp only at hSw); go_simp; try (with_reducible rfl))
            try simp only [List.getElem_toArray, List.getElem_cons_zero, List.getElem_cons_succ, Act.put, List.setIfInBounds_toArray, List.set_cons_zero, List.set_cons_succ]
            refine wpAnyH_take (i := 11) (v := ?_) rfl (by decide +kernel) (by decide +kernel) (by decide +kernel) (fun _ _ _ h => h) (Or.inl ⟨by rfl, ?_⟩) (by assumption) ?_
            rotate_left 1
            · (intro w hSw; (try dsimp only at hSw); obtain ⟨s1, s2, s3⟩ := hSw; obtain ⟨c0, c1, c2, c3, c4, c5, c6, c7, c8, c9⟩ := blk10 s1; go_simp; rfl)
            try simp only [List.getElem_toArray, List.getElem_cons_zero, List.getElem_cons_succ, Act.put, List.setIfInBounds_toArray, List.set_cons_zero, List.set_cons_succ]
            refine wpAnyH_take (i := 12) (v := ?_) rfl (by decide +kernel) (by decide +kernel) (by decide +kernel) (fun _ _ _ h => h) (Or.inl ⟨by rfl, ?_⟩) (by assumption) ?_
            rotate_left 1
            · (intro w hSw; (try dsimp only at hSw); obtain ⟨s1, s2, s3⟩ := hSw; obtain ⟨c0, c1, c2, c3, c4, c5, c6, c7, c8, c9⟩ := blk10 s2; go_simp; rfl)
            try simp only [List.getElem_toArray, List.getElem_cons_zero, List.getElem_cons_succ, Act.put, List.setIfInBounds_toArray, List.set_cons_zero, List.set_cons_succ]
            refine wpAnyH_take (i := 14) (v := ?_) rfl (by decide +kernel) (by decide +kernel) (by decide +kernel) (fun _ _ _ h => h) (Or.inl ⟨by rfl, ?_⟩) (by assumption) ?_
            rotate_left 1
            · (intro w hSw; (try dsimp only at hSw); obtain ⟨s1, s2, s3⟩ := hSw; obtain ⟨c0, c1, c2, c3, c4, c5, c6, c7, c8, c9⟩ := blk10 s3; go_simp; rfl)
            try simp only [List.getElem_toArray, List.getElem_cons_zero, List.getElem_cons_succ, Act.put, List.setIfInBounds_toArray, List.set_cons_zero, List.set_cons_succ]
            refine wpAnyH_ready (rs := [13]) (by decide +kernel) (by simp) ?_
            refine AllReadyH.cons rfl (fun K hK => ?_) AllReadyH.nil
            go_simp
            (go_at_call 19; (with_reducible refine (hbo _).mono ?_); rintro e w5 ⟨rfl, hb5⟩)
            have hs5 := hb.size
            replace hg1 := hg1.below hb5 hg1.lt
            replace hg2 := hg2.below hb5 hg2.lt
            replace hg3 := hg3.below hb5 hg3.lt
            replace hb := hb.trans (hb5.mono hs5)
            refine hK.out _ _ (⟨hg1, hg2, hg3⟩) (fun hHeld => ?_)
            clear hK K
            try simp only [List.getElem_toArray, List.getElem_cons_zero, List.getElem_cons_succ, Act.put, List.setIfInBounds_toArray, List.set_cons_zero, List.set_cons_succ]
            refine wpAnyH_take (i := 15) (v := ?_) rfl (by decide +kernel) (by decide +kernel) (by decide +kernel) (fun _ _ _ h => h) (Or.inl ⟨by rfl, ?_⟩) (by assumption) ?_
            rotate_left 1
            · (intro w hSw; (try dsimp only at hSw); go_simp; try (with_reducible rfl))
            try simp only [List.getElem_toArray, List.getElem_cons_zero, List.getElem_cons_succ, Act.put, List.setIfInBounds_toArray, List.set_cons_zero, List.set_cons_succ]
            refine wpAnyH_take (i := 16) (v := ?_) rfl (by decide +kernel) (by decide +kernel) (by decide +kernel) (fun _ _ _ h => h) (Or.inl ⟨by rfl, ?_⟩) (by assumption) ?_
            rotate_left 1
            · (intro w hSw; (try dsimp only at hSw); go_simp; try (with_reducible rfl))
            try simp only [List.getElem_toArray, List.getElem_cons_zero, List.getElem_cons_succ, Act.put, List.setIfInBounds_toArray, List.set_cons_zero, List.set_cons_succ]
            refine wpAnyH_take (i := 17) (v := ?_) rfl (by decide +kernel) (by decide +kernel) (by decide +kernel) (fun _ _ _ h => h) (Or.inl ⟨by rfl, ?_⟩) (by assumption) ?_
            rotate_left 1
            · (intro w hSw; (try dsimp only at hSw); go_simp; try (with_reducible rfl))
            try simp only [List.getElem_toArray, List.getElem_cons_zero, List.getElem_cons_succ, Act.put, List.setIfInBounds_toArray, List.set_cons_zero, List.set_cons_succ]
            refine wpAnyH_done (by decide +kernel) ?_ _
            clear hHeld hb5
            go_wp2
            go_ret
            exact ⟨rfl, hb⟩
--ENDWALKS
set_option maxRecDepth 100000 in
theorem walk_long (A B : Option Addr) (n c m d : Nat) (v : Int) (w : World) (hn : n ≤ maxLen) (hm : m ≤ maxLen) (h60 : 60 < n ∧ 60 < m) :
    Calls Try.prog 4 #[.slice A n c, .slice B m d, .int .u8 v] w fun e w' => e = .returned (.bool true) ∧ Below w.heap.size w w' := by
  unfold maxLen at hn hm
  obtain ⟨h1, h2⟩ := h60
  by_cases hc : (m : Int) < (n : Int)
  · go_enter Try.func4, Try.ntmps4
    go_wp2_with (first
      | ((go_at_call 17; (with_reducible refine (awake45 _).mono ?_); rintro e w1 ⟨rfl, hb1⟩); have B1 := Lib.hid hb1; clear hb1)
      | fail "no arm")
    go_ret
    exact ⟨rfl, B1.out⟩
  · go_enter Try.func4, Try.ntmps4
    go_wp2_with (first
      | ((go_at_call 17; (with_reducible refine (awake45 _).mono ?_); rintro e w1 ⟨rfl, hb1⟩); have B1 := Lib.hid hb1; clear hb1)
      | fail "no arm")
    go_ret
    exact ⟨rfl, B1.out⟩
theorem walk (w : World) (v0 : Value) (x0 : ∃ A n c Kd, v0 = .slice A n c ∧ EvW w A n Kd ∧ n ≤ c ∧ c ≤ maxLen) (v1 : Value) (x1 : ∃ A n c En Nn, v1 = .slice A n c ∧ RpW w A n En Nn ∧ n ≤ c ∧ c ≤ maxLen ∧ ∀ i, Nn i ≤ 9223372036854775807) (v : Int) (wv : (Lit.int .u8 v).wf = true) :
    Calls Try.prog 4 #[v0, v1, .int .u8 v] w fun e w' => e = .returned (.bool true) ∧ Below w.heap.size w w' := by
  obtain ⟨A, n, c, Kd, rfl, hA, nc, cm⟩ := x0
  obtain ⟨B, m, d, En, Nn, rfl, hB, md, dm, hN⟩ := x1
  have hv := bounds_u8 wv
  by_cases h : 60 < n ∧ 60 < m
  · exact walk_long A B n c m d v w (by omega) (by omega) h
  · by_cases hc : m < n
    · exact walk_a A B m n c d v Kd En Nn w hA hB hN nc cm md dm (by omega) (by omega) (by omega) (by omega) (by omega)
    · exact walk_b A B n c m d v Kd En Nn w hA hB hN nc cm md dm (by omega) (by omega) (by omega) (by omega) (by omega)
--FRAME tompionlaw45 StatBoth statBoth walk raw:[]api.Event:args_events:.slice‹_›none‹_›0‹_›0 raw:[]api.Reply:args_replies:.slice‹_›none‹_›0‹_›0 u8
theorem own : ownKnob Try.prog.godebug = none := by kernel_rfl
theorem laidOut : laidOutB Try.prog = true := by kernel_rfl

set_option maxRecDepth 100000 in
theorem lifted (os : Os) (started : os.Started) (H : Type) (enc : TypeId × Value → H) :
    ReturnsInHanded {} Try.checked os 4 .any (Rows.statBothSpec.pre6 enc Try.prog Try.f4 Rows.statBothRow.domain false) (Rows.statBothSpec.post enc Try.prog Try.f4 false true false false) := by
  refine returnsInHanded_of_change (C := Try.checked) own started (by kernel_rfl) Try.func4
    (ChangeSpec.witness6 (enc := enc) (C := Try.checked) false ⟨#[], #[.slice none 0 0, .slice none 0 0, .int .u8 0], []⟩ 8 (by kernel_rfl) (by kernel_rfl) (by kernel_rfl) (by kernel_rfl)) ?_
  intro W base args ds gs before hval0 hW hcnd _
  have hval : ∀ (j : Nat) t v, Try.f4.params[j]? = some t → args[j]? = some v → Value.okWide Try.prog W .any base t v := hval0
  have hW' := hW
  obtain ⟨p, q, hA0, hV, rfl, hfz, hnd⟩ := hW
  have hA : DataW.TrodAll enc Try.prog W 0 (fun _ => true) true Try.f4.params.toList args.toList ds p := hA0
  rw [Try.params4] at hA hval
  obtain ⟨v0, vs0, d0, ds0, p0, q0, hargs, rfl, rfl, h0, rr0⟩ := trodAll_cons hA
  obtain ⟨v1, vs1, d1, ds1, p1, q1, rfl, rfl, rfl, h1, rr1⟩ := trodAll_cons rr0
  obtain ⟨v2, vs2, d2, ds2, p2, q2, rfl, rfl, rfl, h2, rr2⟩ := trodAll_cons rr1
  obtain ⟨rfl, rfl, rfl⟩ := trodAll_nil rr2
  obtain rfl : args = #[v0, v1, v2] := by cases args; simp_all
  obtain ⟨rfl, rfl⟩ := trodVars_none hV
  have k0 := h0
  have lt0 : ∀ x ∈ p0, x.block < W.heap.size := by obtain ⟨m, hm⟩ := k0; exact DataW.trod_lt m _ _ _ hm
  have x0 := args_events (hval 0 44 v0 rfl rfl) h0
  have k1 := h1
  have lt1 : ∀ x ∈ p1, x.block < W.heap.size := by obtain ⟨m, hm⟩ := k1; exact DataW.trod_lt m _ _ _ hm
  have x1 := args_replies (hval 1 45 v1 rfl rfl) h1
  have k2 := h2
  have lt2 : ∀ x ∈ p2, x.block < W.heap.size := by obtain ⟨m, hm⟩ := k2; exact DataW.trod_lt m _ _ _ hm
  obtain ⟨a2, rfl, wf2⟩ := args_int Try.underlying5 (hval 2 5 v2 rfl rfl) h2
  clear hA0 hval0
  refine (walk W v0 x0 v1 x1 a2 wf2).mono fun e W' ⟨he, bel⟩ => ?_
  subst he
  exact ⟨_, rfl, _, _, _, [], _, [], hW', trodAll_mk1 (shut_bool Try.underlying4 _), (trodAll_cons_mk (Below.trod laidOut (by kernel_rfl) (of_decide_eq_true (by kernel_rfl)) k0 bel lt0) (trodAll_cons_mk (Below.trod laidOut (by kernel_rfl) (of_decide_eq_true (by kernel_rfl)) k1 bel lt1) (trodAll_cons_mk (Below.trod laidOut (by kernel_rfl) (of_decide_eq_true (by kernel_rfl)) k2 bel lt2) trodAll_mk0))), rfl, bel.frame _, fun h => by cases h⟩

theorem over : Rows.statBothRow.holds Try.pinned (OpenSpec.ofChange Rows.statBothSpec) :=
  OpenClaim.holds_of_wide 4 Try.f4 rfl rfl rfl rfl rfl rfl rfl ⟨rfl, rfl, rfl, rfl, rfl⟩ rfl rfl rfl rfl rfl (by kernel_rfl) Try.func4 (by kernel_rfl)
    (of_decide_eq_true (by kernel_rfl)) (by unfold Func.isWrapper; first | (rw [if_pos (by decide +kernel)]; kernel_rfl) | (rw [if_neg (by decide +kernel)]; exact ⟨rfl, rfl⟩))
    (fun os started H enc _ => lifted os started H enc)

theorem proved : Rows.StatBothSaid := over
--ENDFRAME
end Go.Proofs.Ytalmdccgpigppaa.statBoth
