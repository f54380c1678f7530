/- Parts: StateLawA, PlainState. -/
import Derived.Test.YtpmkpckldnnigaaGreatPr05
import Derived.Test.YtpmkpckldnnigaaGreatPr01
import Derived.Test.YtpmkpckldnnigaaGreatPr08
import Derived.Test.YtpmkpckldnnigaaGreatPr06
namespace Go.Proofs.YtpmkpckldnnigaaGreat
open Go.ChangeShapes Go.WideShapes Go.RowKit Go.Deep

section
variable {H : Type} {enc : TypeId × Value → H} {w : World} {base b0 : Nat} {held : Bool} {r : Reach} {v : Value} {d : DataW H} {ps : List MemPlace}
structure SnapAll (s : SV) : Prop where
  tick : I64 s.tick
  hash : I64 s.hash
  cells : ∀ z ∈ s.cells, I64 z
end

end Go.Proofs.YtpmkpckldnnigaaGreat
namespace Go.Proofs.YtpmkpckldnnigaaGreat
open Go.RowKit

theorem numAt_nBs {n : Int} (hn : -9223372036854775808 ≤ n ∧ n ≤ 9223372036854775807) (a b : List UInt8) : numAt (a ++ (nBs n ++ b)) a.length = n := by
  unfold numAt
  rw [List.drop_left, List.take_left' (nBs_len n)]
  unfold nBs
  rw [getL_putL _ (un_lt n), sg_un hn.1 hn.2]
theorem flat_len8 (l : List Int) : (l.flatMap nBs).length = 8 * l.length := by
  induction l with
  | nil => rfl
  | cons a l ih => rw [List.flatMap_cons, List.length_append, ih, nBs_len, List.length_cons]; omega
theorem stBs_len (s : SV) : (stBs s).length = 16 + 8 * s.cells.length := by
  unfold stBs; rw [List.length_append, List.length_append, nBs_len, nBs_len, flat_len8]
theorem numAt_flat (l : List Int) (hl : ∀ z ∈ l, -9223372036854775808 ≤ z ∧ z ≤ 9223372036854775807) (a : List UInt8) (k : Nat) (hk : k < l.length) : numAt (a ++ l.flatMap nBs) (a.length + 8 * k) = l[k] := by
  induction l generalizing a k with
  | nil => simp at hk
  | cons z l ih =>
    rw [List.flatMap_cons]
    cases k with
    | zero => exact numAt_nBs (hl z (by simp)) a _
    | succ k =>
      have := ih (fun y hy => hl y (by simp [hy])) (a ++ nBs z) k (by simpa using hk)
      rw [List.length_append, nBs_len, List.append_assoc] at this
      rw [show a.length + 8 * (k + 1) = a.length + 8 + 8 * k by omega, this]; rfl
theorem snapOf_stBs {s : SV} (ht : I64 s.tick) (hh : I64 s.hash) (hc : ∀ z ∈ s.cells, I64 z) : snapOf s.cells.length (stBs s) = s := by
  have e1 : numAt (stBs s) 0 = s.tick := by
    have := numAt_nBs (n := s.tick) ht [] (nBs s.hash ++ s.cells.flatMap nBs)
    rw [List.nil_append, ← List.append_assoc] at this; exact this
  have e2 : numAt (stBs s) 8 = s.hash := by
    have := numAt_nBs (n := s.hash) hh (nBs s.tick) (s.cells.flatMap nBs)
    rw [← List.append_assoc, nBs_len] at this; exact this
  have e3 : cellsK (stBs s) s.cells.length = s.cells := by
    apply List.ext_getElem
    · simp [cellsK]
    intro k h1 h2
    have := numAt_flat s.cells hc (nBs s.tick ++ nBs s.hash) k h2
    rw [List.length_append, nBs_len, nBs_len] at this
    have e : (cellsK (stBs s) s.cells.length)[k] = numAt (stBs s) (16 + 8 * k) := by
      simp only [cellsK, List.getElem_map, List.getElem_range]
    rw [e]
    exact this
  obtain ⟨t, h, c⟩ := s
  unfold snapOf
  simp only at e1 e2 e3
  rw [e1, e2, e3]
end Go.Proofs.YtpmkpckldnnigaaGreat
