/- Contracts of package code and of its reference: which instructions may be. -/
import Derived.Test.YtkhihgilodhjfaaCodeA
namespace Go.Proofs.Ytkhihgilodhjfaa
open Go.RowKit

set_option maxHeartbeats 4000000 in
theorem instr_any (op a b c k : Int) (w : World) : Calls Try.prog 61 #[.agg #[.int .i64 op, .int .i64 a, .int .i64 b, .int .i64 c, .int .i64 k]] w fun e w' => e = .returned (.bool (insB ⟨op, a, b, c, k⟩)) ∧ Below w.heap.size w w' := by
  have hf := fun w => fields_any op w
  unfold fieldsV at hf
  have hle := cls_le op
  generalize hI : insB ⟨op, a, b, c, k⟩ = z
  have hI2 : z = true ↔ (cls op ≠ 0 ∧ 0 ≤ a ∧ 0 ≤ b ∧ 0 ≤ c ∧ (cls op = 1 → b = 0) ∧ (cls op ≤ 2 → c = 0) ∧ (cls op = 2 ∨ cls op = 3 → k = 0)) := by
    rw [← hI]; unfold insB; rw [decide_eq_true_iff]; rfl
  clear hI
  generalize cls op = q at *
  have e92 : bits .and .i64 9 2 = 0 := by decide
  have e94 : bits .and .i64 9 4 = 0 := by decide
  have e98 : bits .and .i64 9 8 = 8 := by decide
  have e32 : bits .and .i64 3 2 = 2 := by decide
  have e34 : bits .and .i64 3 4 = 0 := by decide
  have e38 : bits .and .i64 3 8 = 0 := by decide
  have e72 : bits .and .i64 7 2 = 2 := by decide
  have e74 : bits .and .i64 7 4 = 4 := by decide
  have e78 : bits .and .i64 7 8 = 0 := by decide
  have e152 : bits .and .i64 15 2 = 2 := by decide
  have e154 : bits .and .i64 15 4 = 4 := by decide
  have e158 : bits .and .i64 15 8 = 8 := by decide
  rcases (show q = 0 ∨ q = 1 ∨ q = 2 ∨ q = 3 ∨ q = 4 by omega) with rfl | rfl | rfl | rfl | rfl
  · have hf' : ∀ w, Calls Try.prog 59 #[.int .i64 op] w fun e w' => e = .returned (.int .i64 0) ∧ w = w' := hf
    cases z with
    | true => exact absurd rfl (hI2.1 rfl).1
    | false =>
      clear hI2 hf hle
      go_enter Try.func61, Try.ntmps61
      go_wp2_with (go_at_call 59; (with_reducible refine (hf' _).mono ?_); rintro e w1 ⟨rfl, rfl⟩)
      go_ret
      exact ⟨rfl, (by (repeat' (first | (with_reducible exact Below.refl _ _) | (with_reducible assumption) | (with_reducible refine Below.drew ?_) | (with_reducible refine below_drewN ?_ _) | (with_reducible refine Below.alloc ?_ ?_ _) | (with_reducible refine Below.setCell ?_ ?_ _) | omega | (simp; done) | (simp; omega))))⟩
  case' inr.inl =>
    have hf' : ∀ w, Calls Try.prog 59 #[.int .i64 op] w fun e w' => e = .returned (.int .i64 9) ∧ w = w' := hf
    have hcs : (a < 0) ∨ (0 ≤ a ∧ b < 0) ∨ (0 ≤ a ∧ 0 ≤ b ∧ c < 0) ∨ (0 ≤ a ∧ 0 < b ∧ 0 ≤ c) ∨ (0 ≤ a ∧ b = 0 ∧ 0 < c) ∨ (0 ≤ a ∧ b = 0 ∧ c = 0) := by omega
  case' inr.inr.inl =>
    have hf' : ∀ w, Calls Try.prog 59 #[.int .i64 op] w fun e w' => e = .returned (.int .i64 3) ∧ w = w' := hf
    have hcs : (a < 0) ∨ (0 ≤ a ∧ b < 0) ∨ (0 ≤ a ∧ 0 ≤ b ∧ c < 0) ∨ (0 ≤ a ∧ 0 ≤ b ∧ 0 < c) ∨ (0 ≤ a ∧ 0 ≤ b ∧ c = 0 ∧ k ≠ 0) ∨ (0 ≤ a ∧ 0 ≤ b ∧ c = 0 ∧ k = 0) := by omega
  case' inr.inr.inr.inl =>
    have hf' : ∀ w, Calls Try.prog 59 #[.int .i64 op] w fun e w' => e = .returned (.int .i64 7) ∧ w = w' := hf
    have hcs : (a < 0) ∨ (0 ≤ a ∧ b < 0) ∨ (0 ≤ a ∧ 0 ≤ b ∧ c < 0) ∨ (0 ≤ a ∧ 0 ≤ b ∧ 0 ≤ c ∧ k ≠ 0) ∨ (0 ≤ a ∧ 0 ≤ b ∧ 0 ≤ c ∧ k = 0) ∨ False := by omega
  case' inr.inr.inr.inr =>
    have hf' : ∀ w, Calls Try.prog 59 #[.int .i64 op] w fun e w' => e = .returned (.int .i64 15) ∧ w = w' := hf
    have hcs : (a < 0) ∨ (0 ≤ a ∧ b < 0) ∨ (0 ≤ a ∧ 0 ≤ b ∧ c < 0) ∨ (0 ≤ a ∧ 0 ≤ b ∧ 0 ≤ c) ∨ False ∨ False := by omega
  all_goals
    clear hf hle
    rcases hcs with hcs | hcs | hcs | hcs | hcs | hcs
    all_goals
      cases z
      all_goals
        first
        | (exfalso; have h9 := hI2.1 rfl; omega)
        | (exfalso; apply Bool.false_ne_true; apply hI2.2; refine ⟨?_, ?_, ?_, ?_, ?_, ?_, ?_⟩ <;> (intros; omega))
        | (exfalso; exact hcs)
        | skip
  all_goals
    clear hI2
    first
    | (obtain ⟨h1, rfl, rfl⟩ := hcs)
    | (obtain ⟨h1, h2, rfl, rfl⟩ := hcs)
    | (obtain ⟨h1, h2, h3, rfl⟩ := hcs)
    | (obtain ⟨h1, rfl, h3⟩ := hcs; (have b3 : (c == 0) = false := by rw [beq_eq_false_iff_ne]; omega))
    | (obtain ⟨h1, h2, rfl, h4⟩ := hcs; (have b4 : (k == 0) = false := by rw [beq_eq_false_iff_ne]; omega); clear h4)
    | (obtain ⟨h1, h2, h3, h4⟩ := hcs; (have b4 : (k == 0) = false := by rw [beq_eq_false_iff_ne]; omega); clear h4)
    | (obtain ⟨h1, h2, h3⟩ := hcs; try (have b2 : (b == 0) = false := by rw [beq_eq_false_iff_ne]; omega); try (have b3 : (c == 0) = false := by rw [beq_eq_false_iff_ne]; omega))
    | (obtain ⟨h1, h2⟩ := hcs)
    | skip
  all_goals
    go_enter Try.func61, Try.ntmps61
    go_wp2_with (go_at_call 59; (with_reducible refine (hf' _).mono ?_); rintro e w1 ⟨rfl, rfl⟩)
    go_ret
    exact ⟨rfl, (by (repeat' (first | (with_reducible exact Below.refl _ _) | (with_reducible assumption) | (with_reducible refine Below.drew ?_) | (with_reducible refine below_drewN ?_ _) | (with_reducible refine Below.alloc ?_ ?_ _) | (with_reducible refine Below.setCell ?_ ?_ _) | omega | (simp; done) | (simp; omega))))⟩
end Go.Proofs.Ytkhihgilodhjfaa
