/- The chapter's example of digest. -/
import Derived.Test.YthplicnidknphaaDigA
namespace Go.Proofs.Ythplicnidknphaa
open Go.RowKit

theorem awake32 (w : World) : Calls Try.prog 49 #[] w fun e w' => e = .returned (.bool true) ∧ Below w.heap.size w w' := by
  have d1 : ((fnv [] % 9223372036854775808 : Nat) : Int) = 5472609002491880229 := by decide +kernel
  have d2 : textL (un 5472609002491880229) = [52, 98, 102, 50, 57, 99, 101, 52, 56, 52, 50, 50, 50, 51, 50, 53] := by decide +kernel
  have h1 : ∀ w : World, Calls Try.prog 101 #[.slice none 0 0] w fun e w' => e = .returned (.int .i64 5472609002491880229) ∧ w = w' := fun w => by
    have h := dbytes_any none 0 0 [] w ⟨rfl, Row.nil _ _ _⟩ (by unfold maxLen; omega)
    rw [d1] at h; exact h
  have h2 := fun w => text_any 5472609002491880229 w
  rw [d2] at h2
  clear d1 d2
  go_enter Try.func49, Try.ntmps49
  go_wp2_with (first
    | (go_at_call 101; (with_reducible refine (h1 _).mono ?_); rintro e w1 ⟨rfl, rfl⟩)
    | (go_at_call 100; (with_reducible refine (h2 _).mono ?_); rintro e w2 ⟨rfl, hb2⟩))
  go_ret
  exact ⟨rfl, hb2⟩
end Go.Proofs.Ythplicnidknphaa
