/- A snapshot's bytes and back, in plain Lean. -/
import Derived.Test.YtkhihgilodhjfaaStateE
import Derived.Test.YtkhihgilodhjfaaRefNumG
import Derived.Test.YtkhihgilodhjfaaStateLawA
namespace Go.Proofs.Ytkhihgilodhjfaa
open Go.RowKit

theorem putL_getL {l : List UInt8} (h : l.length = 8) : putL (getL l) = l := by
  apply List.ext_getElem
  · rw [putL_len, h]
  intro i h1 h2
  rw [putL_len] at h1
  have hh := getL_at l i (by omega)
  have hb : byteAt l i = (l[i]).toNat := by unfold byteAt; simp [List.getD_eq_getElem?_getD, h2]
  have e : (putL (getL l))[i]'(by rw [putL_len]; exact h1) = UInt8.ofNat (getL l / 256 ^ i % 256) := by
    simp only [putL, tabB, List.getElem_map, List.getElem_range]
  rw [e, hh, hb, UInt8.ofNat_toNat]
theorem nBs_numAt {bs : List UInt8} {i : Nat} (h : i + 8 ≤ bs.length) : nBs (numAt bs i) = (bs.drop i).take 8 := by
  have hl : ((bs.drop i).take 8).length = 8 := by simp; omega
  have := getL_lt ((bs.drop i).take 8)
  rw [hl] at this
  unfold nBs numAt
  rw [un_sg (by omega), putL_getL hl]
theorem numAt_nBs {n : Int} (hn : -9223372036854775808 ≤ n ∧ n ≤ 9223372036854775807) (a b : List UInt8) : numAt (a ++ (nBs n ++ b)) a.length = n := by
  unfold numAt
  rw [List.drop_left, List.take_left' (nBs_len n)]
  unfold nBs
  rw [getL_putL _ (un_lt n), sg_un hn.1 hn.2]
theorem flat_len8 (l : List Int) : (l.flatMap nBs).length = 8 * l.length := by
  induction l with
  | nil => rfl
  | cons a l ih => rw [List.flatMap_cons, List.length_append, ih, nBs_len, List.length_cons]; omega
theorem stBs_len (s : SV) : (stBs s).length = 16 + 8 * s.cells.length := by
  unfold stBs; rw [List.length_append, List.length_append, nBs_len, nBs_len, flat_len8]
theorem numAt_flat (l : List Int) (hl : ∀ z ∈ l, -9223372036854775808 ≤ z ∧ z ≤ 9223372036854775807) (a : List UInt8) (k : Nat) (hk : k < l.length) : numAt (a ++ l.flatMap nBs) (a.length + 8 * k) = l[k] := by
  induction l generalizing a k with
  | nil => simp at hk
  | cons z l ih =>
    rw [List.flatMap_cons]
    cases k with
    | zero => exact numAt_nBs (hl z (by simp)) a _
    | succ k =>
      have := ih (fun y hy => hl y (by simp [hy])) (a ++ nBs z) k (by simpa using hk)
      rw [List.length_append, nBs_len, List.append_assoc] at this
      rw [show a.length + 8 * (k + 1) = a.length + 8 + 8 * k by omega, this]; rfl
theorem snapOf_stBs {s : SV} (ht : I64 s.tick) (hh : I64 s.hash) (hc : ∀ z ∈ s.cells, I64 z) : snapOf s.cells.length (stBs s) = s := by
  have e1 : numAt (stBs s) 0 = s.tick := by
    have := numAt_nBs (n := s.tick) ht [] (nBs s.hash ++ s.cells.flatMap nBs)
    rw [List.nil_append, ← List.append_assoc] at this; exact this
  have e2 : numAt (stBs s) 8 = s.hash := by
    have := numAt_nBs (n := s.hash) hh (nBs s.tick) (s.cells.flatMap nBs)
    rw [← List.append_assoc, nBs_len] at this; exact this
  have e3 : cellsK (stBs s) s.cells.length = s.cells := by
    apply List.ext_getElem
    · simp [cellsK]
    intro k h1 h2
    have := numAt_flat s.cells hc (nBs s.tick ++ nBs s.hash) k h2
    rw [List.length_append, nBs_len, nBs_len] at this
    have e : (cellsK (stBs s) s.cells.length)[k] = numAt (stBs s) (16 + 8 * k) := by
      simp only [cellsK, List.getElem_map, List.getElem_range]
    rw [e]
    exact this
  obtain ⟨t, h, c⟩ := s
  unfold snapOf
  simp only at e1 e2 e3
  rw [e1, e2, e3]
theorem stBs_snapOf {bs : List UInt8} {k : Nat} (h : bs.length = 16 + 8 * k) : stBs (snapOf k bs) = bs := by
  have hk : ∀ j, j ≤ k → (cellsK bs j).flatMap nBs = (bs.drop 16).take (8 * j) := by
    intro j hj
    induction j with
    | zero => simp [cellsK]
    | succ j ih =>
      have : cellsK bs (j + 1) = cellsK bs j ++ [numAt bs (16 + 8 * j)] := by unfold cellsK; rw [List.range_succ, List.map_append]; rfl
      rw [this, List.flatMap_append, ih (by omega), List.flatMap_cons, List.flatMap_nil, List.append_nil, nBs_numAt (by omega), show 8 * (j + 1) = 8 * j + 8 by omega, List.take_add, List.drop_drop]
  unfold stBs snapOf
  simp only
  rw [hk k (Nat.le_refl _), nBs_numAt (by omega), nBs_numAt (by omega), List.drop_zero, List.take_of_length_le (l := bs.drop 16) (by simp; omega)]
  rw [← List.take_add, List.take_append_drop]
end Go.Proofs.Ytkhihgilodhjfaa
