/- The chapter's example of row, and small contracts of its laws. -/
import Derived.Test.YthplicnidknphaaRowE
import Derived.Test.YthplicnidknphaaSame
import Derived.Test.YthplicnidknphaaInts
namespace Go.Proofs.Ythplicnidknphaa
open Go.RowKit

theorem awake4 (w : World) : Calls Try.prog 15 #[] w fun e w' => e = .returned (.bool true) ∧ Below w.heap.size w w' := by
  have d1 : rowB [1, 2] [-1, 1] 2 = [1, 1] := by decide +kernel
  have d2 : fitsB [1, 2] [-1, 1] = true := by decide +kernel
  have hs : ∀ (w : World) (A B : Option Addr) (c d : Nat), RI w A 2 [1, 2] → RI w B 2 [-1, 1] → Calls Try.prog 23 #[.slice A 2 c, .slice B 2 d] w fun e w' => ∃ A' N c', e = .returned (.tuple #[.slice A' N c', .int .i64 0]) ∧ OB w' w.heap.size 5 A' N c' [1, 1] ∧ Below w.heap.size w w' := fun w A B c d h1 h2 => by
    have h := write_ok A B 2 2 c d [1, 2] [-1, 1] w h1 h2 (by decide) (by decide) d2 (fun i hi => by
      match i, hi with
      | 0, _ => exact ⟨by decide, by decide⟩
      | 1, _ => exact ⟨by decide, by decide⟩
      | i + 2, hi => simp at hi; omega)
    rw [show rowB [1, 2] [-1, 1] ([1, 2] : List Int).length = [1, 1] from d1] at h
    exact h
  have hsm1 : ∀ (A B : Option Addr) (n c d : Nat) (w : World), RB w A n [1, 1] → RB w B 2 [1, 1] → Calls Try.prog 24 #[.slice A n c, .slice B 2 d] w fun e w' => e = .returned (.bool true) ∧ ∃ q, w' = w.drewN q :=
    fun A B n c d w ha hb => (same_any A B n 2 c d _ _ w ha hb (by have := ha.1; simp at this; unfold maxLen; omega)).mono fun e w' ⟨h1, h2⟩ => ⟨by simpa using h1, h2⟩
  clear d1 d2
  have n1 : ∀ (w : World), RB (w.alloc (.cells #[.int .u8 1, .int .u8 1] 5)) (some ⟨w.heap.size, 0, none⟩) 2 [1, 1] := fun w => RB.of_block (l := [1, 1]) (heap_top _ _ rfl) rfl
  have n2 : ∀ (w : World) (o : Obj), RI ((w.alloc (.cells #[.int .i64 1, .int .i64 2] 3)).alloc o) (some ⟨w.heap.size, 0, none⟩) 2 [1, 2] := fun w o => (Rd.of_block (enc := iv) (l := [1, 2]) (heap_old _ _ _ (heap_top _ _ rfl)) rfl).ri
  have n3 : ∀ (w : World) (g : Nat), g = w.heap.size → RI (w.alloc (.cells #[.int .i64 (-1), .int .i64 1] 3)) (some ⟨g, 0, none⟩) 2 [-1, 1] := fun w g h => (Rd.of_block (enc := iv) (l := [-1, 1]) (heap_top _ _ h) rfl).ri
  go_enter Try.func15, Try.ntmps15
  go_wp2_with (first
    | ((go_at_call 23; (with_reducible refine (hs _ _ _ _ _ (n2 _ _) (n3 _ _ (by simp))).mono ?_); rintro e w1 ⟨A1, N1, c1, rfl, hown1, hb1⟩); replace hb1 := below_then' (a := w) (B := w.heap.size) (by (repeat' (first | (with_reducible exact Below.refl _ _) | (with_reducible assumption) | (with_reducible refine Below.drew ?_) | (with_reducible refine below_drewN ?_ _) | (with_reducible refine Below.alloc ?_ ?_ _) | (with_reducible refine Below.setCell ?_ ?_ _) | omega | (simp; done) | (simp; omega)))) hb1 (by first | omega | (simp; done) | (simp; omega)); have hb1s := hb1.size)
    | (go_at_call 24; (with_reducible refine (hsm1 _ _ _ _ _ _ (hown1.rd.rb.below (B := w1.heap.size) (by (repeat' (first | (with_reducible exact Below.refl _ _) | (with_reducible assumption) | (with_reducible refine Below.drew ?_) | (with_reducible refine below_drewN ?_ _) | (with_reducible refine Below.alloc ?_ ?_ _) | (with_reducible refine Below.setCell ?_ ?_ _) | omega | (simp; done) | (simp; omega)))) (Nat.le_refl _)) (n1 _)).mono ?_); rintro e w2 ⟨rfl, q2, rfl⟩))
  go_ret
  exact ⟨rfl, (by (repeat' (first | (with_reducible exact Below.refl _ _) | (with_reducible assumption) | (with_reducible refine Below.drew ?_) | (with_reducible refine below_drewN ?_ _) | (with_reducible refine Below.alloc ?_ ?_ _) | (with_reducible refine Below.setCell ?_ ?_ _) | omega | (simp; done) | (simp; omega))))⟩

theorem few4_yes (A B : Option Addr) (n m c d : Nat) (w : World) (hn : n ≤ 20) (hm : m ≤ 20) : Calls Try.prog 16 #[.slice A n c, .slice B m d] w fun e w' => e = .returned (.bool true) ∧ w = w' := by
  go_enter Try.func16, Try.ntmps16
  go_wp2
  go_ret
  exact ⟨ret_bool (by first | rfl | (simp; done) | (simp; omega)), rfl⟩
theorem few4_no (A B : Option Addr) (n m c d : Nat) (w : World) (h : 20 < n ∨ 20 < m) (hn : n ≤ maxLen) (hm : m ≤ maxLen) : Calls Try.prog 16 #[.slice A n c, .slice B m d] w fun e w' => e = .returned (.bool false) ∧ w = w' := by
  unfold maxLen at hn hm
  by_cases h1 : 20 < n
  · go_enter Try.func16, Try.ntmps16
    go_wp2
    go_ret
    exact ⟨ret_bool (by first | rfl | (simp; done) | (simp; omega)), rfl⟩
  · have h2 : 20 < m := by omega
    go_enter Try.func16, Try.ntmps16
    go_wp2
    go_ret
    exact ⟨ret_bool (by first | rfl | (simp; done) | (simp; omega)), rfl⟩
end Go.Proofs.Ythplicnidknphaa
