/- Parts: CodeB, Region, RowA, CodeC. -/
import Derived.Test.YtpmkpckldnnigaaGreatPr02
import Derived.Test.YtpmkpckldnnigaaGreatPr03
import Derived.Test.YtpmkpckldnnigaaGreatPr00
import Derived.StillTail
import Derived.BigQuiet
set_option linter.unusedVariables false
set_option linter.unusedSimpArgs false
set_option maxRecDepth 100000
set_option maxHeartbeats 40000000
namespace Go.Proofs.YtpmkpckldnnigaaGreat
open Go.RowKit
theorem instr_any (op a b c k : Int) (w : World) : Calls Tryz.prog 199 #[.agg #[.int .i64 op, .int .i64 a, .int .i64 b, .int .i64 c, .int .i64 k]] w fun e w' => e = .returned (.bool (insB ⟨op, a, b, c, k⟩)) ∧ Below w.heap.size w w' := by
  have hf := fun w => vi5 op w
  unfold vk6 at hf; have hle := cls_le op; generalize hI : insB ⟨op, a, b, c, k⟩ = z; have hI2 : z = true ↔ (cls op ≠ 0 ∧ 0 ≤ a ∧ 0 ≤ b ∧ 0 ≤ c ∧ (cls op = 1 → b = 0) ∧ (cls op ≤ 2 → c = 0) ∧ (cls op = 2 ∨ cls op = 3 → k = 0)) := by
    rw [← hI]; unfold insB; rw [decide_eq_true_iff]; rfl
  clear hI; generalize cls op = q at *; have e92 : bits .and .i64 9 2 = 0 := by decide
  have e94 : bits .and .i64 9 4 = 0 := by decide
  have e98 : bits .and .i64 9 8 = 8 := by decide
  have e32 : bits .and .i64 3 2 = 2 := by decide
  have e34 : bits .and .i64 3 4 = 0 := by decide
  have e38 : bits .and .i64 3 8 = 0 := by decide
  have e72 : bits .and .i64 7 2 = 2 := by decide
  have e74 : bits .and .i64 7 4 = 4 := by decide
  have e78 : bits .and .i64 7 8 = 0 := by decide
  have e152 : bits .and .i64 15 2 = 2 := by decide
  have e154 : bits .and .i64 15 4 = 4 := by decide
  have e158 : bits .and .i64 15 8 = 8 := by decide
  rcases (show q = 0 ∨ q = 1 ∨ q = 2 ∨ q = 3 ∨ q = 4 by omega) with rfl | rfl | rfl | rfl | rfl
  · have hf' : ∀ w, Calls Tryz.prog 211 #[.int .i64 op] w fun e w' => e = .returned (.int .i64 0) ∧ w = w' := hf
    cases z with
    | true => exact absurd rfl (hI2.1 rfl).1
    | false =>
      clear hI2 hf hle; go_enter Tryz.func199, Tryz.ntmps199; go_wp2_with (go_at_call 211; (with_reducible refine (hf' _).mono ?_); rintro e w1 ⟨rfl, rfl⟩); go_ret; exact ⟨rfl, gwn⟩
  case' inr.inl =>
    have hf' : ∀ w, Calls Tryz.prog 211 #[.int .i64 op] w fun e w' => e = .returned (.int .i64 9) ∧ w = w' := hf
    have hcs : (a < 0) ∨ (0 ≤ a ∧ b < 0) ∨ (0 ≤ a ∧ 0 ≤ b ∧ c < 0) ∨ (0 ≤ a ∧ 0 < b ∧ 0 ≤ c) ∨ (0 ≤ a ∧ b = 0 ∧ 0 < c) ∨ (0 ≤ a ∧ b = 0 ∧ c = 0) := omg
  case' inr.inr.inl =>
    have hf' : ∀ w, Calls Tryz.prog 211 #[.int .i64 op] w fun e w' => e = .returned (.int .i64 3) ∧ w = w' := hf
    have hcs : (a < 0) ∨ (0 ≤ a ∧ b < 0) ∨ (0 ≤ a ∧ 0 ≤ b ∧ c < 0) ∨ (0 ≤ a ∧ 0 ≤ b ∧ 0 < c) ∨ (0 ≤ a ∧ 0 ≤ b ∧ c = 0 ∧ k ≠ 0) ∨ (0 ≤ a ∧ 0 ≤ b ∧ c = 0 ∧ k = 0) := omg
  case' inr.inr.inr.inl =>
    have hf' : ∀ w, Calls Tryz.prog 211 #[.int .i64 op] w fun e w' => e = .returned (.int .i64 7) ∧ w = w' := hf
    have hcs : (a < 0) ∨ (0 ≤ a ∧ b < 0) ∨ (0 ≤ a ∧ 0 ≤ b ∧ c < 0) ∨ (0 ≤ a ∧ 0 ≤ b ∧ 0 ≤ c ∧ k ≠ 0) ∨ (0 ≤ a ∧ 0 ≤ b ∧ 0 ≤ c ∧ k = 0) ∨ False := omg
  case' inr.inr.inr.inr =>
    have hf' : ∀ w, Calls Tryz.prog 211 #[.int .i64 op] w fun e w' => e = .returned (.int .i64 15) ∧ w = w' := hf
    have hcs : (a < 0) ∨ (0 ≤ a ∧ b < 0) ∨ (0 ≤ a ∧ 0 ≤ b ∧ c < 0) ∨ (0 ≤ a ∧ 0 ≤ b ∧ 0 ≤ c) ∨ False ∨ False := omg
  all_goals
    clear hf hle; rcases hcs with hcs | hcs | hcs | hcs | hcs | hcs
    all_goals
      cases z
      all_goals
        first
        | (exfalso; have h9 := hI2.1 rfl; omega)
        | (exfalso; apply Bool.false_ne_true; apply hI2.2; refine ⟨?_, ?_, ?_, ?_, ?_, ?_, ?_⟩ <;> (intros; omega))
        | (exfalso; exact hcs)
        | skip
  all_goals
    clear hI2
    first
    | (obtain ⟨h1, rfl, rfl⟩ := hcs)
    | (obtain ⟨h1, h2, rfl, rfl⟩ := hcs)
    | (obtain ⟨h1, h2, h3, rfl⟩ := hcs)
    | (obtain ⟨h1, rfl, h3⟩ := hcs; (have b3 : (c == 0) = false := by rw [beq_eq_false_iff_ne]; omega))
    | (obtain ⟨h1, h2, rfl, h4⟩ := hcs; (have b4 : (k == 0) = false := by rw [beq_eq_false_iff_ne]; omega); clear h4)
    | (obtain ⟨h1, h2, h3, h4⟩ := hcs; (have b4 : (k == 0) = false := by rw [beq_eq_false_iff_ne]; omega); clear h4)
    | (obtain ⟨h1, h2, h3⟩ := hcs; try (have b2 : (b == 0) = false := by rw [beq_eq_false_iff_ne]; omega); try (have b3 : (c == 0) = false := by rw [beq_eq_false_iff_ne]; omega))
    | (obtain ⟨h1, h2⟩ := hcs)
    | skip
  all_goals
    go_enter Tryz.func199, Tryz.ntmps199; go_wp2_with (go_at_call 211; (with_reducible refine (hf' _).mono ?_); rintro e w1 ⟨rfl, rfl⟩); go_ret; exact ⟨rfl, gwn⟩
section
variable {P : Program} {ops : Array Oper} {w : World}
theorem qm0 {Q : Act → Prop} : ∀ (l : List Oper) (a : Act), wpQuiet P ops (fun w' => w' = w) Q l a → wpStill P ops w Q l a
  | [], _, h => h
  | o :: rest, a, h => by
    unfold wpQuiet at h; unfold wpStill
    by_cases hw : Region.wanted o (yielded ops a.tmps) = true
    · rw [if_pos hw] at h ⊢; obtain ⟨v, h1, h2⟩ := h; have h3 := h1 w rfl; unfold Oper.quietAt at h3; unfold Oper.still; generalize (execOp a.eval o).run P w = r at *
      cases r with
      | ok n w' =>
        cases n <;> simp only [Oper.quietUpon] at h3 <;> simp only [Oper.stillUpon]
        case value u => exact ⟨h3.1, by rw [h3.2]; exact qm0 rest _ h2⟩
        case skip => exact ⟨h3.1, by rw [← h3.2]; exact qm0 rest _ h2⟩
        case enter f args => obtain ⟨e1, hc⟩ := h3; exact ⟨e1, v, hc, qm0 rest _ h2⟩
      | halt x w' => simp only [Oper.quietUpon] at h3
    · rw [if_neg hw] at h ⊢; exact qm0 rest _ h
theorem qb6 {id : Nat} {Q : Exit → Act → World → Prop} {a : Act} {l : List Oper} (n : Nat) (hm : P.follows .mixedOrders = true) (hB : Region.lexTailB .any l.toArray n = true)
    (h : wpQuiet P l.toArray (fun w' => w' = w.drew) (fun a' => wpList P l.toArray Q (l.drop n) a' w.drew) (l.take n) a) : (Code.region id l.toArray true).wp P Q a w :=
  wp_region_still_tail n hm hB (qm0 _ _ h)
end
theorem right_any (A : Option Addr) (n c : Nat) (l : List Int) (w : World) (hl : RI w A n l) (hn : n ≤ maxLen) :
    Calls Tryz.prog 200 #[.slice A n c] w fun e w' => e = .returned (.bool (qk0 l)) ∧ w = w' := by
  unfold maxLen at hn; have hlen := hdd hl.1; generalize hz : qk0 l = z; have Hz := hdd hz; clear hz; go_enter Tryz.func200, Tryz.ntmps200; go_wp2; go_loop [7] (fun i => ∃ k : Nat, k ≤ n ∧ i = .int .i64 (k : Nat) ∧ Hid (∀ i, i < k → tyB (qd5 l i) = true)) (fun i => n - (intOf i).toNat)
  case atStart => exact ⟨0, omg, rfl, fun i hi => absurd hi omg⟩
  case round =>
    obtain ⟨k, hk, rfl, hall⟩ := hrel
    by_cases hlt : k < n
    · obtain ⟨b, o, rfl, _, hc⟩ := hl.at_ hlt; have hne : ¬ (n : Int) ≤ (k : Int) := omg
      by_cases ht : tyB (qd5 l k) = true
      · have H := hdd ht; have hall' : Hid (∀ i, i < k + 1 → tyB (qd5 l i) = true) := fun i hi => by
          rcases Nat.lt_or_ge i k with h | h
          · exact hall.out i h
          · rw [show i = k from by omega]; exact H.out
        rcases qx4.1 ht with h1 | h1
        all_goals
          rw [h1] at hc; clear h1 H ht hall; go_wp2; go_round
          case rel => exact ⟨k + 1, omg, by go_num, hall'⟩
          case measure => simp [intOf]; omega
      · have H := hdd ht; have h1 : qd5 l k ≠ 1 ∧ qd5 l k ≠ 2 := by
          constructor <;> intro e <;> exact ht (qx4.2 omg)
        have b1 : (qd5 l k != 1) = true := by rw [bne_iff_ne]; exact h1.1
        have b2 : (qd5 l k != 2) = true := by rw [bne_iff_ne]; exact h1.2
        clear h1 ht; go_wp2; go_ret; refine ⟨qb9 ?_, rfl⟩; rw [← Hz.out]; unfold qk0; rw [vi9 (k := k) (by rw [hlen.out]; exact hlt) (by simpa using H.out)]
        rfl
    · have hkn : Hid (k = n) := show k = n by omega
      have hge : (n : Int) ≤ (k : Int) := omg; have hz2 : Hid (z = (decide (1 ≤ n) && decide (n ≤ 8))) := by
        show z = _
        rw [← Hz.out]; unfold qk0; rw [qo2.2 (fun i hi => hall.out i (by rw [hlen.out] at hi; rw [hkn.out]; exact hi)), hlen.out]
        rfl
      rcases (show n = 0 ∨ (1 ≤ n ∧ n ≤ 8) ∨ 8 < n by omega) with h0 | ⟨h0, h1⟩ | h0
      · subst h0; go_wp2; go_ret; exact ⟨qb9 (by rw [hz2.out]; rfl), rfl⟩
      · go_wp2; go_ret; exact ⟨qb9 (by rw [hz2.out, Bool.eq_iff_iff]; simp only [Bool.and_eq_true, decide_eq_true_eq]; omega), rfl⟩
      · go_wp2; go_ret; exact ⟨qb9 (by rw [hz2.out, Bool.eq_iff_iff]; simp only [Bool.and_eq_true, decide_eq_true_eq]; omega), rfl⟩
theorem vb2 (A : Option Addr) (n c : Nat) (l : List Int) (w : World) (hl : RI w A n l) (hn : n ≤ maxLen) :
    Calls Tryz.prog 117 #[.slice A n c] w fun e w' => e = .returned (.bool (qk0 l)) ∧ w = w' := by
  unfold maxLen at hn; have hlen := hdd hl.1; generalize hz : qk0 l = z; have Hz := hdd hz; clear hz; go_enter Tryz.func117, Tryz.ntmps117; go_wp2; go_loop [3] (fun i => ∃ k : Nat, k ≤ n ∧ i = .int .i64 (k : Nat) ∧ Hid (∀ i, i < k → tyB (qd5 l i) = true)) (fun i => n - (intOf i).toNat)
  case atStart => exact ⟨0, omg, rfl, fun i hi => absurd hi omg⟩
  case round =>
    obtain ⟨k, hk, rfl, hall⟩ := hrel
    by_cases hlt : k < n
    · obtain ⟨b, o, rfl, _, hc⟩ := hl.at_ hlt; have hne : ¬ (n : Int) ≤ (k : Int) := omg
      by_cases ht : tyB (qd5 l k) = true
      · have H := hdd ht; have hall' : Hid (∀ i, i < k + 1 → tyB (qd5 l i) = true) := fun i hi => by
          rcases Nat.lt_or_ge i k with h | h
          · exact hall.out i h
          · rw [show i = k from by omega]; exact H.out
        rcases qx4.1 ht with h1 | h1
        all_goals
          rw [h1] at hc; clear h1 H ht hall; go_wp2; go_round
          case rel => exact ⟨k + 1, omg, by go_num, hall'⟩
          case measure => simp [intOf]; omega
      · have H := hdd ht; have h1 : qd5 l k ≠ 1 ∧ qd5 l k ≠ 2 := by
          constructor <;> intro e <;> exact ht (qx4.2 omg)
        have b1 : (qd5 l k != 1) = true := by rw [bne_iff_ne]; exact h1.1
        have b2 : (qd5 l k != 2) = true := by rw [bne_iff_ne]; exact h1.2
        clear h1 ht; go_wp2; go_ret; refine ⟨qb9 ?_, rfl⟩; rw [← Hz.out]; unfold qk0; rw [vi9 (k := k) (by rw [hlen.out]; exact hlt) (by simpa using H.out)]
        rfl
    · have hkn : Hid (k = n) := show k = n by omega
      have hge : (n : Int) ≤ (k : Int) := omg; have hz2 : Hid (z = (decide (1 ≤ n) && decide (n ≤ 8))) := by
        show z = _
        rw [← Hz.out]; unfold qk0; rw [qo2.2 (fun i hi => hall.out i (by rw [hlen.out] at hi; rw [hkn.out]; exact hi)), hlen.out]
        rfl
      rcases (show n = 0 ∨ (1 ≤ n ∧ n ≤ 8) ∨ 8 < n by omega) with h0 | ⟨h0, h1⟩ | h0
      · subst h0; go_wp2; go_ret; exact ⟨qb9 (by rw [hz2.out]; rfl), rfl⟩
      · go_wp2; go_ret; exact ⟨qb9 (by rw [hz2.out, Bool.eq_iff_iff]; simp only [Bool.and_eq_true, decide_eq_true_eq]; omega), rfl⟩
      · go_wp2; go_ret; exact ⟨qb9 (by rw [hz2.out, Bool.eq_iff_iff]; simp only [Bool.and_eq_true, decide_eq_true_eq]; omega), rfl⟩
theorem blk5 {w : World} {g : Nat} {t : TypeId} {v0 v1 v2 v3 v4 : Value} (h : Blk w g t [v0, v1, v2, v3, v4]) : w.cell? ⟨g, 0, none⟩ = some v0 ∧ w.cell? ⟨g, 1, none⟩ = some v1 ∧ w.cell? ⟨g, 2, none⟩ = some v2 ∧ w.cell? ⟨g, 3, none⟩ = some v3 ∧ w.cell? ⟨g, 4, none⟩ = some v4 :=
  ⟨h.cell 0, h.cell 1, h.cell 2, h.cell 3, h.cell 4⟩
theorem qs7 (x : PA) (p : PV) (w : World) (h : qc8 w x p) :
    Calls Tryz.prog 128 #[.agg #[.slice x.A1 x.n1 x.c1, .slice x.A2 x.n2 x.c2, .int .i64 p.regs, .slice x.A3 x.n3 x.c3, .slice x.A4 x.n4 x.c4]] w fun e w' => e = .returned (.bool (mayB p)) ∧ Below w.heap.size w w' := by
  obtain ⟨A1, n1, c1, A2, n2, c2, A3, n3, c3, A4, n4, c4⟩ := x; obtain ⟨ins, outs, regs, cells, code⟩ := p; obtain ⟨r1, r2, r3, r4, k1, k2, k3, k4⟩ := h; simp only at r1 r2 r3 r4 k1 k2 k3 k4 ⊢; have hr1 := fun w h => right_any A1 n1 c1 ins w h omg
  have hr2 := fun w h => right_any A2 n2 c2 outs w h omg
  have e3 := r3.1; have e4 := r4.1; generalize hz : mayB ⟨ins, outs, regs, cells, code⟩ = z; have hI := @qe9 ⟨ins, outs, regs, cells, code⟩; rw [hz] at hI; simp only [e3, e4] at hI; have HI := hdd hI; clear hz hI e3 e4; have m3 : n3 ≤ 9223372036854775807 := by have := k3.1; have := k3.2; unfold maxLen at this; omega
  have m4 : n4 ≤ 9223372036854775807 := by have := k4.1; have := k4.2; unfold maxLen at this; omega
  clear k1 k2 k3 k4; go_enter Tryz.func128, Tryz.ntmps128; go_wp2; go_loopw [10] (fun i wr => ∃ k : Nat, k ≤ n3 ∧ i = .int .i64 (k : Nat) ∧ Hid (∀ i, i < k → qh7 (qf2 cells i).1 (qf2 cells i).2 = true) ∧ Below w.heap.size w wr ∧ w.heap.size < wr.heap.size ∧
      Blk wr w.heap.size 27 [.slice A1 n1 c1, .slice A2 n2 c2, .int .i64 regs, .slice A3 n3 c3, .slice A4 n4 c4]) (fun i _ => n3 - (intOf i).toNat)
  case atStart => exact ⟨0, omg, rfl, fun i hi => absurd hi omg, gwn, by simp, blq⟩
  case round =>
    obtain ⟨k, hk, rfl, hall, hbel, hsz, hblk⟩ := hrel
    by_cases hlt : k < n3
    · have hne : ¬ (n3 : Int) ≤ (k : Int) := omg; obtain ⟨b, o, x, rfl, hb, hx, hc⟩ := (r3.below hbel nlr).at_ qj2 omg hlt; have h0 : wr.cell? ⟨b, o + k * 2, none⟩ = some (.int .i64 x.1) := hc 0 omg; have h1 : wr.cell? ⟨b, o + k * 2 + 1, none⟩ = some (.int .i64 x.2) := hc 1 omg; have hxk := hdd (qk9 hx); clear hc hx; obtain ⟨t, f⟩ := x; simp only at h0 h1; have hv := fun w => value_any t f w
      cases hvb : qh7 t f with
      | true =>
        have hall' : Hid (∀ i, i < k + 1 → qh7 (qf2 cells i).1 (qf2 cells i).2 = true) := fun i hi => by
          rcases Nat.lt_or_ge i k with h | h
          · exact hall.out i h
          · rw [show i = k from by omega, hxk.out]; exact hvb
        rw [hvb] at hv; clear hvb hall; go_wp2_with (go_at_call 198; (with_reducible refine (hv _).mono ?_); rintro e w1 ⟨rfl, rfl⟩); go_roundw
        case rel => exact ⟨k + 1, omg, by go_num, hall', gwn, by simp; omega, blq⟩
        case measure => simp [intOf]; omega
      | false =>
        have hz : Hid (z = false) := by
          show z = false
          rw [Bool.eq_false_iff]; intro hc; have := (HI.out.1 hc).2.2.2.2.2.2.1 k hlt; rw [hxk.out, hvb] at this
          cases this
        rw [hvb] at hv; clear hvb hall; go_wp2_with (go_at_call 198; (with_reducible refine (hv _).mono ?_); rintro e w1 ⟨rfl, rfl⟩); go_ret; exact ⟨qb9 hz.out.symm, gwn⟩
    · have hkn : k = n3 := omg; subst hkn; have hall3 := hall; clear hall; obtain ⟨g0, g1, g2, g3, g4⟩ := blk5 hblk; go_wp2; have hsz0 := hsz; have hbel0 := hbel; clear hsz hbel; go_loopw [24] (fun i w2 => ∃ j : Nat, j ≤ n4 ∧ i = .int .i64 (j : Nat) ∧ Hid (∀ i, i < j → insB (qa1 code i) = true) ∧ Below w.heap.size w w2 ∧ w.heap.size < w2.heap.size ∧
          Blk w2 w.heap.size 27 [.slice A1 n1 c1, .slice A2 n2 c2, .int .i64 regs, .slice A3 k c3, .slice A4 n4 c4]) (fun i _ => n4 - (intOf i).toNat)
      case atStart => exact ⟨0, omg, rfl, fun i hi => absurd hi omg, hbel0, hsz0, hblk⟩
      case round =>
        clear g0 g1 g2 g3 g4 hblk; obtain ⟨j, hj, rfl, hall, hbel, hsz, hblk⟩ := hrel
        by_cases hlt : j < n4
        · have hne : ¬ (n4 : Int) ≤ (j : Int) := omg; obtain ⟨b, o, x, rfl, hb, hx, hc⟩ := (r4.below hbel nlr).at_ qk8 omg hlt; obtain ⟨op, xa, xb, xc, xk⟩ := x; have h0 : wr.cell? ⟨b, o + j * 5, none⟩ = some (.int .i64 op) := hc 0 omg; have h1 : wr.cell? ⟨b, o + j * 5 + 1, none⟩ = some (.int .i64 xa) := hc 1 omg; have h2 : wr.cell? ⟨b, o + j * 5 + 2, none⟩ = some (.int .i64 xb) := hc 2 omg; have h3 : wr.cell? ⟨b, o + j * 5 + 3, none⟩ = some (.int .i64 xc) := hc 3 omg; have h4 : wr.cell? ⟨b, o + j * 5 + 4, none⟩ = some (.int .i64 xk) := hc 4 omg; have hxk := hdd (qk4 hx); clear hc hx; have hv := fun w => instr_any op xa xb xc xk w
          cases hvb : insB ⟨op, xa, xb, xc, xk⟩ with
          | true =>
            have hall' : Hid (∀ i, i < j + 1 → insB (qa1 code i) = true) := fun i hi => by
              rcases Nat.lt_or_ge i j with h | h
              · exact hall.out i h
              · rw [show i = j from by omega, hxk.out]; exact hvb
            rw [hvb] at hv; clear hvb hall; go_wp2_with ((go_at_call 199; (with_reducible refine (hv _).mono ?_); rintro e w5 ⟨rfl, hb5⟩); have hbw5 := qa0 (a := w) (B := w.heap.size) gwn hb5 (by simp; omega); have hs5 := hb5.size; have hk5 := Blk.below (w' := w5) (g := w.heap.size) (t := 27) (cs := [.slice A1 n1 c1, .slice A2 n2 c2, .int .i64 regs, .slice A3 k c3, .slice (some ⟨b, o, none⟩) n4 c4]) blq hb5 (by simp; omega)); simp at hs5; go_roundw
            case rel => exact ⟨j + 1, omg, by go_num, hall', hbw5, omg, hk5⟩
            case measure => simp [intOf]; omega
          | false =>
            have hz : Hid (z = false) := by
              show z = false
              rw [Bool.eq_false_iff]; intro hc; have := (HI.out.1 hc).2.2.2.2.2.2.2 j hlt; rw [hxk.out, hvb] at this
              cases this
            rw [hvb] at hv; clear hvb hall; go_wp2_with ((go_at_call 199; (with_reducible refine (hv _).mono ?_); rintro e w5 ⟨rfl, hb5⟩); have hbw5 := qa0 (a := w) (B := w.heap.size) gwn hb5 (by simp; omega)); go_ret; exact ⟨qb9 hz.out.symm, hbw5⟩
        · have hjn : j = n4 := omg; subst hjn; obtain ⟨g0, g1, g2, g3, g4⟩ := blk5 hblk; have q1 := r1.below hbel nlr; have q2 := r2.below hbel nlr; have HZ : Hid (z = true ↔ qk0 ins = true ∧ qk0 outs = true ∧ 0 ≤ regs ∧ regs ≤ 1600 ∧ k ≤ 60 ∧ j ≤ 2048) := by
            have h1 := HI.out
            show _ ↔ _
            constructor
            · intro h; obtain ⟨a1, a2, a3, a4, a5, a6, _⟩ := h1.1 h; exact ⟨a1, a2, a3, a4, a5, a6⟩
            · rintro ⟨a1, a2, a3, a4, a5, a6⟩; exact h1.2 ⟨a1, a2, a3, a4, a5, a6, fun i hi => hall3.out i hi, fun i hi => hall.out i hi⟩
          have hne : (j : Int) ≤ (j : Int) := omg; clear hall hall3 HI r1 r2 r3 r4 hblk hbel0 hsz0; generalize qk0 ins = b1 at *; generalize qk0 outs = b2 at *; have HF : ¬ (b1 = true ∧ b2 = true ∧ 0 ≤ regs ∧ regs ≤ 1600 ∧ k ≤ 60 ∧ j ≤ 2048) → Hid (z = false) := fun h => by
            show z = false
            rw [Bool.eq_false_iff]; exact fun hc => h (HZ.out.1 hc)
          have HF := hdd HF
          cases b1 with
          | false =>
            have hz := HF.out smp; clear HF HZ; go_wp2_with (go_at_call 200; (with_reducible refine (hr1 _ q1).mono ?_); rintro e w1 ⟨rfl, rfl⟩); go_ret; exact ⟨qb9 hz.out.symm, gwn⟩
          | true =>
            cases b2 with
            | false =>
              have hz := HF.out smp; clear HF HZ; go_wp2_with (first | (go_at_call 200; (with_reducible refine (hr1 _ q1).mono ?_); rintro e w1 ⟨rfl, rfl⟩) | (go_at_call 200; (with_reducible refine (hr2 _ q2).mono ?_); rintro e w1 ⟨rfl, rfl⟩)); go_ret; exact ⟨qb9 hz.out.symm, gwn⟩
            | true =>
              rcases (show regs < 0 ∨ (0 ≤ regs ∧ 1600 < regs) ∨ (0 ≤ regs ∧ regs ≤ 1600 ∧ 60 < k) ∨ (0 ≤ regs ∧ regs ≤ 1600 ∧ k ≤ 60 ∧ 2048 < j) ∨ (0 ≤ regs ∧ regs ≤ 1600 ∧ k ≤ 60 ∧ j ≤ 2048) by omega) with h | h | h | h | h
              case' inr.inr.inr.inr =>
                have hz : Hid (z = true) := HZ.out.2 ⟨rfl, rfl, h⟩; obtain ⟨h1, h2, h3, h4⟩ := h
              case' inl => have hz := HF.out omg
              case' inr.inl =>
                have hz := HF.out omg; obtain ⟨h1, h2⟩ := h
              case' inr.inr.inl =>
                have hz := HF.out omg; obtain ⟨h1, h2, h3⟩ := h
              case' inr.inr.inr.inl =>
                have hz := HF.out omg; obtain ⟨h1, h2, h3, h4⟩ := h
              all_goals
                clear HF HZ; go_wp2_with (first | (go_at_call 200; (with_reducible refine (hr1 _ q1).mono ?_); rintro e w1 ⟨rfl, rfl⟩) | (go_at_call 200; (with_reducible refine (hr2 _ q2).mono ?_); rintro e w1 ⟨rfl, rfl⟩)); go_ret; exact ⟨qb9 (by first | exact hz.out.symm | (rw [hz.out]; done) | (rw [hz.out]; simp; done) | (rw [hz.out]; simp; omega)), gwn⟩
end Go.Proofs.YtpmkpckldnnigaaGreat
