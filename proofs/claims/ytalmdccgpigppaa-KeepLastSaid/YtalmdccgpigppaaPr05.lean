/- Parts: CodeA, CodeB, Region, RowA. -/
import Derived.Test.YtalmdccgpigppaaPr04
import Derived.Test.YtalmdccgpigppaaPr00
import Derived.StillTail
import Derived.BigQuiet
namespace Go.Proofs.Ytalmdccgpigppaa
open Go.RowKit

theorem fields_any (op : Int) (w : World) : Calls Try.prog 131 #[.int .i64 op] w fun e w' => e = .returned (.int .i64 (fieldsV op)) ∧ w = w' := by
  unfold fieldsV
  rcases op_cases op with h | h | h | h | h
  · rw [cls_1 h]
    rcases h with rfl | rfl | rfl | h
    case inr.inr.inr =>
      have b1 : (op == 1) = false := by rw [beq_eq_false_iff_ne]; omega
      have b2 : (op == 2) = false := by rw [beq_eq_false_iff_ne]; omega
      have b3 : (op == 21) = false := by rw [beq_eq_false_iff_ne]; omega
      have h1 := h.1
      have h2 := h.2
      go_enter Try.func131, Try.ntmps131
      go_wp2
      go_ret
      exact ⟨rfl, rfl⟩
    all_goals
      go_enter Try.func131, Try.ntmps131
      go_wp2
      go_ret
      exact ⟨rfl, rfl⟩
  · rw [cls_2 h]
    rcases h with rfl | rfl | rfl
    all_goals
      go_enter Try.func131, Try.ntmps131
      go_wp2
      go_ret
      exact ⟨rfl, rfl⟩
  · rw [cls_3 h]
    have b1 : (op == 1) = false := by rw [beq_eq_false_iff_ne]; omega
    have b2 : (op == 2) = false := by rw [beq_eq_false_iff_ne]; omega
    have b3 : (op == 21) = false := by rw [beq_eq_false_iff_ne]; omega
    have b4 : (op == 3) = false := by rw [beq_eq_false_iff_ne]; omega
    have b5 : (op == 5) = false := by rw [beq_eq_false_iff_ne]; omega
    have b6 : (op == 6) = false := by rw [beq_eq_false_iff_ne]; omega
    have h1 := h.1
    have h2 := h.2
    have h3 : ¬ 28 ≤ op := by omega
    go_enter Try.func131, Try.ntmps131
    go_wp2
    go_ret
    exact ⟨rfl, rfl⟩
  · rw [cls_4 h]
    subst h
    go_enter Try.func131, Try.ntmps131
    go_wp2
    go_ret
    exact ⟨rfl, rfl⟩
  · rw [cls_0 h]
    have b1 : (op == 1) = false := by rw [beq_eq_false_iff_ne]; omega
    have b2 : (op == 2) = false := by rw [beq_eq_false_iff_ne]; omega
    have b3 : (op == 21) = false := by rw [beq_eq_false_iff_ne]; omega
    have b4 : (op == 3) = false := by rw [beq_eq_false_iff_ne]; omega
    have b5 : (op == 5) = false := by rw [beq_eq_false_iff_ne]; omega
    have b6 : (op == 6) = false := by rw [beq_eq_false_iff_ne]; omega
    have b7 : (op == 27) = false := by rw [beq_eq_false_iff_ne]; omega
    rcases h with h | h | h | h
    · have h1 : ¬ 28 ≤ op := by omega
      have h2 : ¬ 7 ≤ op := by omega
      go_enter Try.func131, Try.ntmps131
      go_wp2
      go_ret
      exact ⟨rfl, rfl⟩
    · subst h
      go_enter Try.func131, Try.ntmps131
      go_wp2
      go_ret
      exact ⟨rfl, rfl⟩
    · have h1 : ¬ 28 ≤ op := by omega
      have h2 : 7 ≤ op := by omega
      have h3 : ¬ op ≤ 20 := by omega
      go_enter Try.func131, Try.ntmps131
      go_wp2
      go_ret
      exact ⟨rfl, rfl⟩
    · have h1 : 28 ≤ op := by omega
      have h4 : ¬ op ≤ 32 := by omega
      have h2 : 7 ≤ op := by omega
      have h3 : ¬ op ≤ 20 := by omega
      go_enter Try.func131, Try.ntmps131
      go_wp2
      go_ret
      exact ⟨rfl, rfl⟩

theorem has_any (op : Int) (w : World) : Calls Try.prog 123 #[.int .i64 op] w fun e w' => e = .returned (.tuple #[.int .i64 (hasN op), .bool (hasK op)]) ∧ w = w' := by
  unfold hasN hasK
  rcases op_cases op with h | h | h | h | h
  · rw [cls_1 h]
    rcases h with rfl | rfl | rfl | h
    case inr.inr.inr =>
      have b1 : (op == 1) = false := by rw [beq_eq_false_iff_ne]; omega
      have b2 : (op == 2) = false := by rw [beq_eq_false_iff_ne]; omega
      have b3 : (op == 21) = false := by rw [beq_eq_false_iff_ne]; omega
      have h1 := h.1
      have h2 := h.2
      go_enter Try.func123, Try.ntmps123
      go_wp2
      go_ret2
      exact ⟨rfl, rfl⟩
    all_goals
      go_enter Try.func123, Try.ntmps123
      go_wp2
      go_ret2
      exact ⟨rfl, rfl⟩
  · rw [cls_2 h]
    rcases h with rfl | rfl | rfl
    all_goals
      go_enter Try.func123, Try.ntmps123
      go_wp2
      go_ret2
      exact ⟨rfl, rfl⟩
  · rw [cls_3 h]
    have b1 : (op == 1) = false := by rw [beq_eq_false_iff_ne]; omega
    have b2 : (op == 2) = false := by rw [beq_eq_false_iff_ne]; omega
    have b3 : (op == 21) = false := by rw [beq_eq_false_iff_ne]; omega
    have b4 : (op == 3) = false := by rw [beq_eq_false_iff_ne]; omega
    have b5 : (op == 5) = false := by rw [beq_eq_false_iff_ne]; omega
    have b6 : (op == 6) = false := by rw [beq_eq_false_iff_ne]; omega
    have h1 := h.1
    have h2 := h.2
    have h3 : ¬ 28 ≤ op := by omega
    go_enter Try.func123, Try.ntmps123
    go_wp2
    go_ret2
    exact ⟨rfl, rfl⟩
  · rw [cls_4 h]
    subst h
    go_enter Try.func123, Try.ntmps123
    go_wp2
    go_ret2
    exact ⟨rfl, rfl⟩
  · rw [cls_0 h]
    have b1 : (op == 1) = false := by rw [beq_eq_false_iff_ne]; omega
    have b2 : (op == 2) = false := by rw [beq_eq_false_iff_ne]; omega
    have b3 : (op == 21) = false := by rw [beq_eq_false_iff_ne]; omega
    have b4 : (op == 3) = false := by rw [beq_eq_false_iff_ne]; omega
    have b5 : (op == 5) = false := by rw [beq_eq_false_iff_ne]; omega
    have b6 : (op == 6) = false := by rw [beq_eq_false_iff_ne]; omega
    have b7 : (op == 27) = false := by rw [beq_eq_false_iff_ne]; omega
    rcases h with h | h | h | h
    · have h1 : ¬ 28 ≤ op := by omega
      have h2 : ¬ 7 ≤ op := by omega
      go_enter Try.func123, Try.ntmps123
      go_wp2
      go_ret2
      exact ⟨rfl, rfl⟩
    · subst h
      go_enter Try.func123, Try.ntmps123
      go_wp2
      go_ret2
      exact ⟨rfl, rfl⟩
    · have h1 : ¬ 28 ≤ op := by omega
      have h2 : 7 ≤ op := by omega
      have h3 : ¬ op ≤ 20 := by omega
      go_enter Try.func123, Try.ntmps123
      go_wp2
      go_ret2
      exact ⟨rfl, rfl⟩
    · have h1 : 28 ≤ op := by omega
      have h4 : ¬ op ≤ 32 := by omega
      have h2 : 7 ≤ op := by omega
      have h3 : ¬ op ≤ 20 := by omega
      go_enter Try.func123, Try.ntmps123
      go_wp2
      go_ret2
      exact ⟨rfl, rfl⟩

theorem value_any (t n : Int) (w : World) : Calls Try.prog 124 #[.int .i64 t, .int .i64 n] w fun e w' => e = .returned (.bool (valueB t n)) ∧ w = w' := by
  unfold valueB
  by_cases h1 : t = 1
  · subst h1
    go_enter Try.func124, Try.ntmps124
    go_wp2
    go_ret
    exact ⟨rfl, rfl⟩
  · have b1 : (t == 1) = false := by rw [beq_eq_false_iff_ne]; exact h1
    rw [b1]
    by_cases h2 : t = 2
    · subst h2
      clear h1
      by_cases h3 : n = 0
      · subst h3
        go_enter Try.func124, Try.ntmps124
        go_wp2
        go_ret
        exact ⟨rfl, rfl⟩
      · have b3 : (n == 0) = false := by rw [beq_eq_false_iff_ne]; exact h3
        rw [b3]
        clear h3
        go_enter Try.func124, Try.ntmps124
        go_wp2
        go_ret
        exact ⟨rfl, rfl⟩
    · have b2 : (t == 2) = false := by rw [beq_eq_false_iff_ne]; exact h2
      rw [b2]
      clear h1 h2
      go_enter Try.func124, Try.ntmps124
      go_wp2
      go_ret
      exact ⟨rfl, rfl⟩
end Go.Proofs.Ytalmdccgpigppaa
namespace Go.Proofs.Ytalmdccgpigppaa
open Go.RowKit

set_option maxHeartbeats 4000000 in
theorem instr_any (op a b c k : Int) (w : World) : Calls Try.prog 125 #[.agg #[.int .i64 op, .int .i64 a, .int .i64 b, .int .i64 c, .int .i64 k]] w fun e w' => e = .returned (.bool (insB ⟨op, a, b, c, k⟩)) ∧ Below w.heap.size w w' := by
  have hf := fun w => fields_any op w
  unfold fieldsV at hf
  have hle := cls_le op
  generalize hI : insB ⟨op, a, b, c, k⟩ = z
  have hI2 : z = true ↔ (cls op ≠ 0 ∧ 0 ≤ a ∧ 0 ≤ b ∧ 0 ≤ c ∧ (cls op = 1 → b = 0) ∧ (cls op ≤ 2 → c = 0) ∧ (cls op = 2 ∨ cls op = 3 → k = 0)) := by
    rw [← hI]; unfold insB; rw [decide_eq_true_iff]; rfl
  clear hI
  generalize cls op = q at *
  have e92 : bits .and .i64 9 2 = 0 := by decide
  have e94 : bits .and .i64 9 4 = 0 := by decide
  have e98 : bits .and .i64 9 8 = 8 := by decide
  have e32 : bits .and .i64 3 2 = 2 := by decide
  have e34 : bits .and .i64 3 4 = 0 := by decide
  have e38 : bits .and .i64 3 8 = 0 := by decide
  have e72 : bits .and .i64 7 2 = 2 := by decide
  have e74 : bits .and .i64 7 4 = 4 := by decide
  have e78 : bits .and .i64 7 8 = 0 := by decide
  have e152 : bits .and .i64 15 2 = 2 := by decide
  have e154 : bits .and .i64 15 4 = 4 := by decide
  have e158 : bits .and .i64 15 8 = 8 := by decide
  rcases (show q = 0 ∨ q = 1 ∨ q = 2 ∨ q = 3 ∨ q = 4 by omega) with rfl | rfl | rfl | rfl | rfl
  · have hf' : ∀ w, Calls Try.prog 131 #[.int .i64 op] w fun e w' => e = .returned (.int .i64 0) ∧ w = w' := hf
    cases z with
    | true => exact absurd rfl (hI2.1 rfl).1
    | false =>
      clear hI2 hf hle
      go_enter Try.func125, Try.ntmps125
      go_wp2_with (go_at_call 131; (with_reducible refine (hf' _).mono ?_); rintro e w1 ⟨rfl, rfl⟩)
      go_ret
      exact ⟨rfl, (by (repeat' (first | (with_reducible exact Below.refl _ _) | (with_reducible assumption) | (with_reducible refine Below.drew ?_) | (with_reducible refine below_drewN ?_ _) | (with_reducible refine Below.alloc ?_ ?_ _) | (with_reducible refine Below.setCell ?_ ?_ _) | omega | (simp; done) | (simp; omega))))⟩
  case' inr.inl =>
    have hf' : ∀ w, Calls Try.prog 131 #[.int .i64 op] w fun e w' => e = .returned (.int .i64 9) ∧ w = w' := hf
    have hcs : (a < 0) ∨ (0 ≤ a ∧ b < 0) ∨ (0 ≤ a ∧ 0 ≤ b ∧ c < 0) ∨ (0 ≤ a ∧ 0 < b ∧ 0 ≤ c) ∨ (0 ≤ a ∧ b = 0 ∧ 0 < c) ∨ (0 ≤ a ∧ b = 0 ∧ c = 0) := by omega
  case' inr.inr.inl =>
    have hf' : ∀ w, Calls Try.prog 131 #[.int .i64 op] w fun e w' => e = .returned (.int .i64 3) ∧ w = w' := hf
    have hcs : (a < 0) ∨ (0 ≤ a ∧ b < 0) ∨ (0 ≤ a ∧ 0 ≤ b ∧ c < 0) ∨ (0 ≤ a ∧ 0 ≤ b ∧ 0 < c) ∨ (0 ≤ a ∧ 0 ≤ b ∧ c = 0 ∧ k ≠ 0) ∨ (0 ≤ a ∧ 0 ≤ b ∧ c = 0 ∧ k = 0) := by omega
  case' inr.inr.inr.inl =>
    have hf' : ∀ w, Calls Try.prog 131 #[.int .i64 op] w fun e w' => e = .returned (.int .i64 7) ∧ w = w' := hf
    have hcs : (a < 0) ∨ (0 ≤ a ∧ b < 0) ∨ (0 ≤ a ∧ 0 ≤ b ∧ c < 0) ∨ (0 ≤ a ∧ 0 ≤ b ∧ 0 ≤ c ∧ k ≠ 0) ∨ (0 ≤ a ∧ 0 ≤ b ∧ 0 ≤ c ∧ k = 0) ∨ False := by omega
  case' inr.inr.inr.inr =>
    have hf' : ∀ w, Calls Try.prog 131 #[.int .i64 op] w fun e w' => e = .returned (.int .i64 15) ∧ w = w' := hf
    have hcs : (a < 0) ∨ (0 ≤ a ∧ b < 0) ∨ (0 ≤ a ∧ 0 ≤ b ∧ c < 0) ∨ (0 ≤ a ∧ 0 ≤ b ∧ 0 ≤ c) ∨ False ∨ False := by omega
  all_goals
    clear hf hle
    rcases hcs with hcs | hcs | hcs | hcs | hcs | hcs
    all_goals
      cases z
      all_goals
        first
        | (exfalso; have h9 := hI2.1 rfl; omega)
        | (exfalso; apply Bool.false_ne_true; apply hI2.2; refine ⟨?_, ?_, ?_, ?_, ?_, ?_, ?_⟩ <;> (intros; omega))
        | (exfalso; exact hcs)
        | skip
  all_goals
    clear hI2
    first
    | (obtain ⟨h1, rfl, rfl⟩ := hcs)
    | (obtain ⟨h1, h2, rfl, rfl⟩ := hcs)
    | (obtain ⟨h1, h2, h3, rfl⟩ := hcs)
    | (obtain ⟨h1, rfl, h3⟩ := hcs; (have b3 : (c == 0) = false := by rw [beq_eq_false_iff_ne]; omega))
    | (obtain ⟨h1, h2, rfl, h4⟩ := hcs; (have b4 : (k == 0) = false := by rw [beq_eq_false_iff_ne]; omega); clear h4)
    | (obtain ⟨h1, h2, h3, h4⟩ := hcs; (have b4 : (k == 0) = false := by rw [beq_eq_false_iff_ne]; omega); clear h4)
    | (obtain ⟨h1, h2, h3⟩ := hcs; try (have b2 : (b == 0) = false := by rw [beq_eq_false_iff_ne]; omega); try (have b3 : (c == 0) = false := by rw [beq_eq_false_iff_ne]; omega))
    | (obtain ⟨h1, h2⟩ := hcs)
    | skip
  all_goals
    go_enter Try.func125, Try.ntmps125
    go_wp2_with (go_at_call 131; (with_reducible refine (hf' _).mono ?_); rintro e w1 ⟨rfl, rfl⟩)
    go_ret
    exact ⟨rfl, (by (repeat' (first | (with_reducible exact Below.refl _ _) | (with_reducible assumption) | (with_reducible refine Below.drew ?_) | (with_reducible refine below_drewN ?_ _) | (with_reducible refine Below.alloc ?_ ?_ _) | (with_reducible refine Below.setCell ?_ ?_ _) | omega | (simp; done) | (simp; omega))))⟩
end Go.Proofs.Ytalmdccgpigppaa
namespace Go.Proofs.Ytalmdccgpigppaa
open Go.RowKit

section
variable {P : Program} {ops : Array Oper} {w : World}
end
end Go.Proofs.Ytalmdccgpigppaa
namespace Go.Proofs.Ytalmdccgpigppaa
open Go.RowKit

theorem right_any (A : Option Addr) (n c : Nat) (l : List Int) (w : World) (hl : RI w A n l) (hn : n ≤ maxLen) :
    Calls Try.prog 60 #[.slice A n c] w fun e w' => e = .returned (.bool (rightB l)) ∧ w = w' := by
  unfold maxLen at hn
  have hlen := Lib.hid hl.1
  generalize hz : rightB l = z
  have Hz := Lib.hid hz; clear hz
  go_enter Try.func60, Try.ntmps60
  go_wp2
  go_loop [7] (fun i => ∃ k : Nat, k ≤ n ∧ i = .int .i64 (k : Nat) ∧ Hid (∀ i, i < k → tyB (intAt l i) = true)) (fun i => n - (intOf i).toNat)
  case atStart => exact ⟨0, by omega, rfl, fun i hi => absurd hi (by omega)⟩
  case round =>
    obtain ⟨k, hk, rfl, hall⟩ := hrel
    by_cases hlt : k < n
    · obtain ⟨b, o, rfl, _, hc⟩ := hl.at_ hlt
      have hne : ¬ (n : Int) ≤ (k : Int) := by omega
      by_cases ht : tyB (intAt l k) = true
      · have H := Lib.hid ht
        have hall' : Hid (∀ i, i < k + 1 → tyB (intAt l i) = true) := fun i hi => by
          rcases Nat.lt_or_ge i k with h | h
          · exact hall.out i h
          · rw [show i = k from by omega]; exact H.out
        rcases tyB_true.1 ht with h1 | h1
        all_goals
          rw [h1] at hc
          clear h1 H ht hall
          go_wp2
          go_round
          case rel => exact ⟨k + 1, by omega, by go_num, hall'⟩
          case measure => simp [intOf]; omega
      · have H := Lib.hid ht
        have h1 : intAt l k ≠ 1 ∧ intAt l k ≠ 2 := by
          constructor <;> intro e <;> exact ht (tyB_true.2 (by omega))
        have b1 : (intAt l k != 1) = true := by rw [bne_iff_ne]; exact h1.1
        have b2 : (intAt l k != 2) = true := by rw [bne_iff_ne]; exact h1.2
        clear h1 ht
        go_wp2
        go_ret
        refine ⟨ret_bool ?_, rfl⟩
        rw [← Hz.out]
        unfold rightB
        rw [allK_false (k := k) (by rw [hlen.out]; exact hlt) (by simpa using H.out)]
        rfl
    · have hkn : Hid (k = n) := show k = n by omega
      have hge : (n : Int) ≤ (k : Int) := by omega
      have hz2 : Hid (z = (decide (1 ≤ n) && decide (n ≤ 8))) := by
        show z = _
        rw [← Hz.out]
        unfold rightB
        rw [allK_true.2 (fun i hi => hall.out i (by rw [hlen.out] at hi; rw [hkn.out]; exact hi)), hlen.out]
        rfl
      rcases (show n = 0 ∨ (1 ≤ n ∧ n ≤ 8) ∨ 8 < n by omega) with h0 | ⟨h0, h1⟩ | h0
      · subst h0
        go_wp2
        go_ret
        exact ⟨ret_bool (by rw [hz2.out]; rfl), rfl⟩
      · go_wp2
        go_ret
        exact ⟨ret_bool (by rw [hz2.out, Bool.eq_iff_iff]; simp only [Bool.and_eq_true, decide_eq_true_eq]; omega), rfl⟩
      · go_wp2
        go_ret
        exact ⟨ret_bool (by rw [hz2.out, Bool.eq_iff_iff]; simp only [Bool.and_eq_true, decide_eq_true_eq]; omega), rfl⟩

end Go.Proofs.Ytalmdccgpigppaa
