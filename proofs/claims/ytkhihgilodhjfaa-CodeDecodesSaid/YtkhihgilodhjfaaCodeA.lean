/- Contracts of package code and of its reference: what an op has; which values and instructions may be. -/
import Derived.Test.YtkhihgilodhjfaaPlainCode
namespace Go.Proofs.Ytkhihgilodhjfaa
open Go.RowKit

theorem fields_any (op : Int) (w : World) : Calls Try.prog 59 #[.int .i64 op] w fun e w' => e = .returned (.int .i64 (fieldsV op)) ∧ w = w' := by
  unfold fieldsV
  rcases op_cases op with h | h | h | h | h
  · rw [cls_1 h]
    rcases h with rfl | rfl | rfl | h
    case inr.inr.inr =>
      have b1 : (op == 1) = false := by rw [beq_eq_false_iff_ne]; omega
      have b2 : (op == 2) = false := by rw [beq_eq_false_iff_ne]; omega
      have b3 : (op == 21) = false := by rw [beq_eq_false_iff_ne]; omega
      have h1 := h.1
      have h2 := h.2
      go_enter Try.func59, Try.ntmps59
      go_wp2
      go_ret
      exact ⟨rfl, rfl⟩
    all_goals
      go_enter Try.func59, Try.ntmps59
      go_wp2
      go_ret
      exact ⟨rfl, rfl⟩
  · rw [cls_2 h]
    rcases h with rfl | rfl | rfl
    all_goals
      go_enter Try.func59, Try.ntmps59
      go_wp2
      go_ret
      exact ⟨rfl, rfl⟩
  · rw [cls_3 h]
    have b1 : (op == 1) = false := by rw [beq_eq_false_iff_ne]; omega
    have b2 : (op == 2) = false := by rw [beq_eq_false_iff_ne]; omega
    have b3 : (op == 21) = false := by rw [beq_eq_false_iff_ne]; omega
    have b4 : (op == 3) = false := by rw [beq_eq_false_iff_ne]; omega
    have b5 : (op == 5) = false := by rw [beq_eq_false_iff_ne]; omega
    have b6 : (op == 6) = false := by rw [beq_eq_false_iff_ne]; omega
    have h1 := h.1
    have h2 := h.2
    have h3 : ¬ 28 ≤ op := by omega
    go_enter Try.func59, Try.ntmps59
    go_wp2
    go_ret
    exact ⟨rfl, rfl⟩
  · rw [cls_4 h]
    subst h
    go_enter Try.func59, Try.ntmps59
    go_wp2
    go_ret
    exact ⟨rfl, rfl⟩
  · rw [cls_0 h]
    have b1 : (op == 1) = false := by rw [beq_eq_false_iff_ne]; omega
    have b2 : (op == 2) = false := by rw [beq_eq_false_iff_ne]; omega
    have b3 : (op == 21) = false := by rw [beq_eq_false_iff_ne]; omega
    have b4 : (op == 3) = false := by rw [beq_eq_false_iff_ne]; omega
    have b5 : (op == 5) = false := by rw [beq_eq_false_iff_ne]; omega
    have b6 : (op == 6) = false := by rw [beq_eq_false_iff_ne]; omega
    have b7 : (op == 27) = false := by rw [beq_eq_false_iff_ne]; omega
    rcases h with h | h | h | h
    · have h1 : ¬ 28 ≤ op := by omega
      have h2 : ¬ 7 ≤ op := by omega
      go_enter Try.func59, Try.ntmps59
      go_wp2
      go_ret
      exact ⟨rfl, rfl⟩
    · subst h
      go_enter Try.func59, Try.ntmps59
      go_wp2
      go_ret
      exact ⟨rfl, rfl⟩
    · have h1 : ¬ 28 ≤ op := by omega
      have h2 : 7 ≤ op := by omega
      have h3 : ¬ op ≤ 20 := by omega
      go_enter Try.func59, Try.ntmps59
      go_wp2
      go_ret
      exact ⟨rfl, rfl⟩
    · have h1 : 28 ≤ op := by omega
      have h4 : ¬ op ≤ 32 := by omega
      have h2 : 7 ≤ op := by omega
      have h3 : ¬ op ≤ 20 := by omega
      go_enter Try.func59, Try.ntmps59
      go_wp2
      go_ret
      exact ⟨rfl, rfl⟩

theorem has_any (op : Int) (w : World) : Calls Try.prog 54 #[.int .i64 op] w fun e w' => e = .returned (.tuple #[.int .i64 (hasN op), .bool (hasK op)]) ∧ w = w' := by
  unfold hasN hasK
  rcases op_cases op with h | h | h | h | h
  · rw [cls_1 h]
    rcases h with rfl | rfl | rfl | h
    case inr.inr.inr =>
      have b1 : (op == 1) = false := by rw [beq_eq_false_iff_ne]; omega
      have b2 : (op == 2) = false := by rw [beq_eq_false_iff_ne]; omega
      have b3 : (op == 21) = false := by rw [beq_eq_false_iff_ne]; omega
      have h1 := h.1
      have h2 := h.2
      go_enter Try.func54, Try.ntmps54
      go_wp2
      go_ret2
      exact ⟨rfl, rfl⟩
    all_goals
      go_enter Try.func54, Try.ntmps54
      go_wp2
      go_ret2
      exact ⟨rfl, rfl⟩
  · rw [cls_2 h]
    rcases h with rfl | rfl | rfl
    all_goals
      go_enter Try.func54, Try.ntmps54
      go_wp2
      go_ret2
      exact ⟨rfl, rfl⟩
  · rw [cls_3 h]
    have b1 : (op == 1) = false := by rw [beq_eq_false_iff_ne]; omega
    have b2 : (op == 2) = false := by rw [beq_eq_false_iff_ne]; omega
    have b3 : (op == 21) = false := by rw [beq_eq_false_iff_ne]; omega
    have b4 : (op == 3) = false := by rw [beq_eq_false_iff_ne]; omega
    have b5 : (op == 5) = false := by rw [beq_eq_false_iff_ne]; omega
    have b6 : (op == 6) = false := by rw [beq_eq_false_iff_ne]; omega
    have h1 := h.1
    have h2 := h.2
    have h3 : ¬ 28 ≤ op := by omega
    go_enter Try.func54, Try.ntmps54
    go_wp2
    go_ret2
    exact ⟨rfl, rfl⟩
  · rw [cls_4 h]
    subst h
    go_enter Try.func54, Try.ntmps54
    go_wp2
    go_ret2
    exact ⟨rfl, rfl⟩
  · rw [cls_0 h]
    have b1 : (op == 1) = false := by rw [beq_eq_false_iff_ne]; omega
    have b2 : (op == 2) = false := by rw [beq_eq_false_iff_ne]; omega
    have b3 : (op == 21) = false := by rw [beq_eq_false_iff_ne]; omega
    have b4 : (op == 3) = false := by rw [beq_eq_false_iff_ne]; omega
    have b5 : (op == 5) = false := by rw [beq_eq_false_iff_ne]; omega
    have b6 : (op == 6) = false := by rw [beq_eq_false_iff_ne]; omega
    have b7 : (op == 27) = false := by rw [beq_eq_false_iff_ne]; omega
    rcases h with h | h | h | h
    · have h1 : ¬ 28 ≤ op := by omega
      have h2 : ¬ 7 ≤ op := by omega
      go_enter Try.func54, Try.ntmps54
      go_wp2
      go_ret2
      exact ⟨rfl, rfl⟩
    · subst h
      go_enter Try.func54, Try.ntmps54
      go_wp2
      go_ret2
      exact ⟨rfl, rfl⟩
    · have h1 : ¬ 28 ≤ op := by omega
      have h2 : 7 ≤ op := by omega
      have h3 : ¬ op ≤ 20 := by omega
      go_enter Try.func54, Try.ntmps54
      go_wp2
      go_ret2
      exact ⟨rfl, rfl⟩
    · have h1 : 28 ≤ op := by omega
      have h4 : ¬ op ≤ 32 := by omega
      have h2 : 7 ≤ op := by omega
      have h3 : ¬ op ≤ 20 := by omega
      go_enter Try.func54, Try.ntmps54
      go_wp2
      go_ret2
      exact ⟨rfl, rfl⟩

theorem value_any (t n : Int) (w : World) : Calls Try.prog 60 #[.int .i64 t, .int .i64 n] w fun e w' => e = .returned (.bool (valueB t n)) ∧ w = w' := by
  unfold valueB
  by_cases h1 : t = 1
  · subst h1
    go_enter Try.func60, Try.ntmps60
    go_wp2
    go_ret
    exact ⟨rfl, rfl⟩
  · have b1 : (t == 1) = false := by rw [beq_eq_false_iff_ne]; exact h1
    rw [b1]
    by_cases h2 : t = 2
    · subst h2
      clear h1
      by_cases h3 : n = 0
      · subst h3
        go_enter Try.func60, Try.ntmps60
        go_wp2
        go_ret
        exact ⟨rfl, rfl⟩
      · have b3 : (n == 0) = false := by rw [beq_eq_false_iff_ne]; exact h3
        rw [b3]
        clear h3
        go_enter Try.func60, Try.ntmps60
        go_wp2
        go_ret
        exact ⟨rfl, rfl⟩
    · have b2 : (t == 2) = false := by rw [beq_eq_false_iff_ne]; exact h2
      rw [b2]
      clear h1 h2
      go_enter Try.func60, Try.ntmps60
      go_wp2
      go_ret
      exact ⟨rfl, rfl⟩
theorem refvalue_any (t n : Int) (w : World) : Calls Try.prog 51 #[.int .i64 t, .int .i64 n] w fun e w' => e = .returned (.bool (valueB t n)) ∧ w = w' := by
  unfold valueB
  by_cases h1 : t = 1
  · subst h1
    go_enter Try.func51, Try.ntmps51
    go_wp2
    go_ret
    exact ⟨rfl, rfl⟩
  · have b1 : (t == 1) = false := by rw [beq_eq_false_iff_ne]; exact h1
    rw [b1]
    by_cases h2 : t = 2
    · subst h2
      clear h1
      by_cases h3 : n = 0
      · subst h3
        go_enter Try.func51, Try.ntmps51
        go_wp2
        go_ret
        exact ⟨rfl, rfl⟩
      · have b3 : (n == 0) = false := by rw [beq_eq_false_iff_ne]; exact h3
        rw [b3]
        clear h3
        go_enter Try.func51, Try.ntmps51
        go_wp2
        go_ret
        exact ⟨rfl, rfl⟩
    · have b2 : (t == 2) = false := by rw [beq_eq_false_iff_ne]; exact h2
      rw [b2]
      clear h1 h2
      go_enter Try.func51, Try.ntmps51
      go_wp2
      go_ret
      exact ⟨rfl, rfl⟩
end Go.Proofs.Ytkhihgilodhjfaa
