/- Parts: CodeD. -/
import Derived.Test.YtpmkpckldnnigaaGreatPr02
import Derived.Test.YtpmkpckldnnigaaGreatPr04
set_option linter.unusedVariables false
set_option linter.unusedSimpArgs false
set_option maxRecDepth 100000
set_option maxHeartbeats 40000000
namespace Go.Proofs.YtpmkpckldnnigaaGreat
open Go.RowKit
theorem qv2 (x : PA) (p : PV) (w : World) (h : qc8 w x p) :
    Calls Tryz.prog 63 #[.agg #[.slice x.A1 x.n1 x.c1, .slice x.A2 x.n2 x.c2, .int .i64 p.regs, .slice x.A3 x.n3 x.c3, .slice x.A4 x.n4 x.c4]] w fun e w' => e = .returned (.bool (mayB p)) ∧ Below w.heap.size w w' := by
  obtain ⟨A1, n1, c1, A2, n2, c2, A3, n3, c3, A4, n4, c4⟩ := x; obtain ⟨ins, outs, regs, cells, code⟩ := p; obtain ⟨r1, r2, r3, r4, k1, k2, k3, k4⟩ := h; simp only at r1 r2 r3 r4 k1 k2 k3 k4 ⊢; have hr1 := fun w h => vb2 A1 n1 c1 ins w h omg
  have hr2 := fun w h => vb2 A2 n2 c2 outs w h omg
  have e3 := r3.1; have e4 := r4.1; generalize hz : mayB ⟨ins, outs, regs, cells, code⟩ = z; have hI := @qe9 ⟨ins, outs, regs, cells, code⟩; rw [hz] at hI; simp only [e3, e4] at hI; have HI := hdd hI; clear hz hI e3 e4; have m3 : n3 ≤ 9223372036854775807 := by have := k3.1; have := k3.2; unfold maxLen at this; omega
  have m4 : n4 ≤ 9223372036854775807 := by have := k4.1; have := k4.2; unfold maxLen at this; omega
  clear k1 k2 k3 k4; have q1 : RI (w.alloc (.cells #[.slice A1 n1 c1, .slice A2 n2 c2, .int .i64 regs, .slice A3 n3 c3, .slice A4 n4 c4] 27)) A1 n1 ins := r1.below ((Below.refl _ _).alloc nlr _) nlr; have q2 : RI (w.alloc (.cells #[.slice A1 n1 c1, .slice A2 n2 c2, .int .i64 regs, .slice A3 n3 c3, .slice A4 n4 c4] 27)) A2 n2 outs := r2.below ((Below.refl _ _).alloc nlr _) nlr; have HF : ¬ (qk0 ins = true ∧ qk0 outs = true ∧ 0 ≤ regs ∧ regs ≤ 1600 ∧ n3 ≤ 60 ∧ n4 ≤ 2048) → Hid (z = false) := fun h => by
    show z = false
    rw [Bool.eq_false_iff]; intro hc; obtain ⟨a1, a2, a3, a4, a5, a6, _⟩ := HI.out.1 hc; exact h ⟨a1, a2, a3, a4, a5, a6⟩
  have HF := hdd HF; generalize hg1 : qk0 ins = b1 at *; generalize hg2 : qk0 outs = b2 at *; clear hg1 hg2
  cases b1 with
  | false =>
    have hz := HF.out smp; clear HF HI; go_enter Tryz.func63, Tryz.ntmps63; go_wp2_with (go_at_call 117; (with_reducible refine (hr1 _ q1).mono ?_); rintro e w1 ⟨rfl, rfl⟩); go_ret; exact ⟨qb9 hz.out.symm, gwn⟩
  | true =>
    cases b2 with
    | false =>
      have hz := HF.out smp; clear HF HI; go_enter Tryz.func63, Tryz.ntmps63; go_wp2_with (first | (go_at_call 117; (with_reducible refine (hr1 _ q1).mono ?_); rintro e w1 ⟨rfl, rfl⟩) | (go_at_call 117; (with_reducible refine (hr2 _ q2).mono ?_); rintro e w1 ⟨rfl, rfl⟩)); go_ret; exact ⟨qb9 hz.out.symm, gwn⟩
    | true =>
      rcases (show regs < 0 ∨ (0 ≤ regs ∧ 1600 < regs) ∨ (0 ≤ regs ∧ regs ≤ 1600 ∧ 60 < n3) ∨ (0 ≤ regs ∧ regs ≤ 1600 ∧ n3 ≤ 60 ∧ 2048 < n4) ∨ (0 ≤ regs ∧ regs ≤ 1600 ∧ n3 ≤ 60 ∧ n4 ≤ 2048) by omega) with h | h | h | h | h
      case inr.inr.inr.inr =>
        obtain ⟨h1, h2, h3, h4⟩ := h; have HZ : Hid (z = true ↔ (∀ i, i < n3 → qh7 (qf2 cells i).1 (qf2 cells i).2 = true) ∧ (∀ i, i < n4 → insB (qa1 code i) = true)) := by
          have h1 := HI.out
          show _ ↔ _
          constructor
          · intro h; obtain ⟨a1, a2, a3, a4, a5, a6, a7, a8⟩ := h1.1 h; exact ⟨a7, a8⟩
          · rintro ⟨a7, a8⟩; exact h1.2 ⟨rfl, rfl, omg, by omega, omg, by omega, a7, a8⟩
        clear HF HI; go_enter Tryz.func63, Tryz.ntmps63; go_wp2_with (first | (go_at_call 117; (with_reducible refine (hr1 _ q1).mono ?_); rintro e w1 ⟨rfl, rfl⟩) | (go_at_call 117; (with_reducible refine (hr2 _ q2).mono ?_); rintro e w1 ⟨rfl, rfl⟩)); clear q1 q2 hr1 hr2; go_loopw [3] (fun i wr => ∃ k : Nat, k ≤ n3 ∧ i = .int .i64 (k : Nat) ∧ Hid (∀ i, i < k → qh7 (qf2 cells i).1 (qf2 cells i).2 = true) ∧ Below w.heap.size w wr ∧ w.heap.size < wr.heap.size ∧
            Blk wr w.heap.size 27 [.slice A1 n1 c1, .slice A2 n2 c2, .int .i64 regs, .slice A3 n3 c3, .slice A4 n4 c4]) (fun i _ => n3 - (intOf i).toNat)
        case atStart => exact ⟨0, omg, rfl, fun i hi => absurd hi omg, gwn, by simp, blq⟩
        case round =>
          obtain ⟨k, hk, rfl, hall, hbel, hsz, hblk⟩ := hrel; obtain ⟨g0, g1, g2, g3, g4⟩ := blk5 hblk
          by_cases hlt : k < n3
          · have hne : ¬ (n3 : Int) ≤ (k : Int) := omg; have hi0 : (0 : Int) ≤ (k : Int) := omg; have hi1 : (k : Int) < (n3 : Int) := omg; obtain ⟨b, o, x, rfl, hb, hx, hc⟩ := (r3.below hbel nlr).at_ qj2 omg hlt; have h0 : wr.cell? ⟨b, o + k * 2, none⟩ = some (.int .i64 x.1) := hc 0 omg; have h5 : wr.cell? ⟨b, o + k * 2 + 1, none⟩ = some (.int .i64 x.2) := hc 1 omg; have hxk := hdd (qk9 hx); clear hc hx; obtain ⟨t, f⟩ := x; simp only at h0 h5; have hv := fun w => vb0 t f w
            cases hvb : qh7 t f with
            | true =>
              have hall' : Hid (∀ i, i < k + 1 → qh7 (qf2 cells i).1 (qf2 cells i).2 = true) := fun i hi => by
                rcases Nat.lt_or_ge i k with h | h
                · exact hall.out i h
                · rw [show i = k from by omega, hxk.out]; exact hvb
              rw [hvb] at hv; clear hvb hall; go_wp2; go_quiet ((go_at_call 141; exact Calls.quiet_of_same ((hv _).mono fun e w' ⟨h1, h2⟩ => ⟨h1, h2.symm⟩))); go_wp2; go_roundw
              case rel => exact ⟨k + 1, omg, by go_num, hall', gwn, hsz, hblk⟩
              case measure => simp [intOf]; omega
            | false =>
              have hz : Hid (z = false) := by
                show z = false
                rw [Bool.eq_false_iff]; intro hc; have := (HZ.out.1 hc).1 k hlt; rw [hxk.out, hvb] at this
                cases this
              rw [hvb] at hv; clear hvb hall; go_wp2; go_quiet ((go_at_call 141; exact Calls.quiet_of_same ((hv _).mono fun e w' ⟨h1, h2⟩ => ⟨h1, h2.symm⟩))); go_wp2; go_ret; exact ⟨qb9 hz.out.symm, gwn⟩
          · have hkn : k = n3 := omg; subst hkn; have hall3 := hall; clear hall; go_wp2; have hsz0 := hsz; have hbel0 := hbel; clear hsz hbel; go_loopw [4] (fun i w2 => ∃ j : Nat, j ≤ n4 ∧ i = .int .i64 (j : Nat) ∧ Hid (∀ i, i < j → insB (qa1 code i) = true) ∧ Below w.heap.size w w2 ∧ w.heap.size < w2.heap.size ∧
                Blk w2 w.heap.size 27 [.slice A1 n1 c1, .slice A2 n2 c2, .int .i64 regs, .slice A3 k c3, .slice A4 n4 c4]) (fun i _ => n4 - (intOf i).toNat)
            case atStart => exact ⟨0, omg, rfl, fun i hi => absurd hi omg, hbel0, hsz0, hblk⟩
            case round =>
              clear g0 g1 g2 g3 g4 hblk; obtain ⟨j, hj, rfl, hall, hbel, hsz, hblk⟩ := hrel; obtain ⟨g0, g1, g2, g3, g4⟩ := blk5 hblk
              by_cases hlt : j < n4
              · have hne : ¬ (n4 : Int) ≤ (j : Int) := omg; obtain ⟨b, o, x, rfl, hb, hx, hc⟩ := (r4.below hbel nlr).at_ qk8 omg hlt; obtain ⟨op, xa, xb, xc, xk⟩ := x; have e0 : wr.cell? ⟨b, o + j * 5, none⟩ = some (.int .i64 op) := hc 0 omg; have e1 : wr.cell? ⟨b, o + j * 5 + 1, none⟩ = some (.int .i64 xa) := hc 1 omg; have e2 : wr.cell? ⟨b, o + j * 5 + 2, none⟩ = some (.int .i64 xb) := hc 2 omg; have e3 : wr.cell? ⟨b, o + j * 5 + 3, none⟩ = some (.int .i64 xc) := hc 3 omg; have e4 : wr.cell? ⟨b, o + j * 5 + 4, none⟩ = some (.int .i64 xk) := hc 4 omg; have hxk := hdd (qk4 hx); clear hc hx; have hall' : Hid (insB ⟨op, xa, xb, xc, xk⟩ = true → ∀ i, i < j + 1 → insB (qa1 code i) = true) := fun hvb i hi => by
                  rcases Nat.lt_or_ge i j with h | h
                  · exact hall.out i h
                  · rw [show i = j from by omega, hxk.out]; exact hvb
                have hbad : Hid (insB ⟨op, xa, xb, xc, xk⟩ = false → z = false) := fun hvb => by
                  rw [Bool.eq_false_iff]; intro hc; have := (HZ.out.1 hc).2 j hlt; rw [hxk.out, hvb] at this
                  cases this
                have hv := fun w => has_any op w
                unfold hasN hasK at hv; have hle := cls_le op; have hI2 : insB ⟨op, xa, xb, xc, xk⟩ = true ↔ (cls op ≠ 0 ∧ 0 ≤ xa ∧ 0 ≤ xb ∧ 0 ≤ xc ∧ (cls op = 1 → xb = 0) ∧ (cls op ≤ 2 → xc = 0) ∧ (cls op = 2 ∨ cls op = 3 → xk = 0)) := by
                  unfold insB; rw [decide_eq_true_iff]; rfl
                generalize insB ⟨op, xa, xb, xc, xk⟩ = zi at *; generalize cls op = q at *; clear hall hxk HZ hall3 r3 r4; rcases (show q = 0 ∨ q = 1 ∨ q = 2 ∨ q = 3 ∨ q = 4 by omega) with rfl | rfl | rfl | rfl | rfl
                case' inl =>
                  have hv' : ∀ w, Calls Tryz.prog 142 #[.int .i64 op] w fun e w' => e = .returned (.tuple #[.int .i64 0, .bool false]) ∧ w = w' := hv
                  have hcs : False ∨ False ∨ False ∨ False ∨ False ∨ True := by simp
                case' inr.inl =>
                  have hv' : ∀ w, Calls Tryz.prog 142 #[.int .i64 op] w fun e w' => e = .returned (.tuple #[.int .i64 1, .bool true]) ∧ w = w' := hv
                  have hcs : (xa < 0) ∨ (0 ≤ xa ∧ xb < 0) ∨ (0 ≤ xa ∧ 0 ≤ xb ∧ xc < 0) ∨ (0 ≤ xa ∧ 0 < xb ∧ 0 ≤ xc) ∨ (0 ≤ xa ∧ xb = 0 ∧ 0 < xc) ∨ (0 ≤ xa ∧ xb = 0 ∧ xc = 0) := omg
                case' inr.inr.inl =>
                  have hv' : ∀ w, Calls Tryz.prog 142 #[.int .i64 op] w fun e w' => e = .returned (.tuple #[.int .i64 2, .bool false]) ∧ w = w' := hv
                  have hcs : (xa < 0) ∨ (0 ≤ xa ∧ xb < 0) ∨ (0 ≤ xa ∧ 0 ≤ xb ∧ xc < 0) ∨ (0 ≤ xa ∧ 0 ≤ xb ∧ 0 < xc) ∨ (0 ≤ xa ∧ 0 ≤ xb ∧ xc = 0 ∧ xk ≠ 0) ∨ (0 ≤ xa ∧ 0 ≤ xb ∧ xc = 0 ∧ xk = 0) := omg
                case' inr.inr.inr.inl =>
                  have hv' : ∀ w, Calls Tryz.prog 142 #[.int .i64 op] w fun e w' => e = .returned (.tuple #[.int .i64 3, .bool false]) ∧ w = w' := hv
                  have hcs : (xa < 0) ∨ (0 ≤ xa ∧ xb < 0) ∨ (0 ≤ xa ∧ 0 ≤ xb ∧ xc < 0) ∨ (0 ≤ xa ∧ 0 ≤ xb ∧ 0 ≤ xc ∧ xk ≠ 0) ∨ (0 ≤ xa ∧ 0 ≤ xb ∧ 0 ≤ xc ∧ xk = 0) ∨ False := omg
                case' inr.inr.inr.inr =>
                  have hv' : ∀ w, Calls Tryz.prog 142 #[.int .i64 op] w fun e w' => e = .returned (.tuple #[.int .i64 3, .bool true]) ∧ w = w' := hv
                  have hcs : (xa < 0) ∨ (0 ≤ xa ∧ xb < 0) ∨ (0 ≤ xa ∧ 0 ≤ xb ∧ xc < 0) ∨ (0 ≤ xa ∧ 0 ≤ xb ∧ 0 ≤ xc) ∨ False ∨ False := omg
                all_goals
                  clear hv hle; rcases hcs with hcs | hcs | hcs | hcs | hcs | hcs
                  all_goals
                    cases zi
                    all_goals
                      first
                      | (exfalso; have h9 := hI2.1 rfl; omega)
                      | (exfalso; apply Bool.false_ne_true; apply hI2.2; refine ⟨?_, ?_, ?_, ?_, ?_, ?_, ?_⟩ <;> (intros; omega))
                      | (exfalso; exact hcs)
                      | skip
                all_goals
                  clear hI2
                  first
                  | (obtain ⟨h6, rfl, rfl⟩ := hcs)
                  | (obtain ⟨h6, h7, rfl, rfl⟩ := hcs)
                  | (obtain ⟨h6, h7, h8, rfl⟩ := hcs)
                  | (obtain ⟨h6, rfl, h8⟩ := hcs; (have b3 : (xc != 0) = true := by rw [bne_iff_ne]; omega))
                  | (obtain ⟨h6, h7, rfl, h9⟩ := hcs; (have b4 : (xk != 0) = true := by rw [bne_iff_ne]; omega); clear h9)
                  | (obtain ⟨h6, h7, h8, h9⟩ := hcs; (have b4 : (xk != 0) = true := by rw [bne_iff_ne]; omega); clear h9)
                  | (obtain ⟨h6, h7, h8⟩ := hcs; try (have b2 : (xb != 0) = true := by rw [bne_iff_ne]; omega); try (have b3 : (xc != 0) = true := by rw [bne_iff_ne]; omega))
                  | (obtain ⟨h6, h7⟩ := hcs)
                  | skip
                all_goals
                  first
                  | (have hz9 : Hid (z = false) := hbad.out rfl; clear hbad hall')
                  | (have hall9 : Hid (∀ i, i < j + 1 → insB (qa1 code i) = true) := hall'.out rfl; clear hbad hall')
                  go_wp2_with (go_at_call 142; (with_reducible refine (hv' _).mono ?_); rintro e w1 ⟨rfl, rfl⟩)
                  first
                  | (go_ret; exact ⟨qb9 hz9.out.symm, gwn⟩)
                  | (go_roundw
                     case rel => exact ⟨j + 1, omg, by go_num, hall9, gwn, by simp; omega, blq⟩
                     case measure => simp [intOf]; omega)
              · have hjn : j = n4 := omg; subst hjn; have hge : (j : Int) ≤ (j : Int) := omg; have hz : Hid (z = true) := HZ.out.2 ⟨hall3.out, hall.out⟩; clear HZ hall hall3 r3 r4; go_wp2; go_ret; exact ⟨qb9 hz.out.symm, gwn⟩
      case' inl => have hz := HF.out omg
      case' inr.inl =>
        have hz := HF.out omg; obtain ⟨h1, h2⟩ := h
      case' inr.inr.inl =>
        have hz := HF.out omg; obtain ⟨h1, h2, h3⟩ := h
      case' inr.inr.inr.inl =>
        have hz := HF.out omg; obtain ⟨h1, h2, h3, h4⟩ := h
      all_goals
        clear HF HI; go_enter Tryz.func63, Tryz.ntmps63; go_wp2_with (first | (go_at_call 117; (with_reducible refine (hr1 _ q1).mono ?_); rintro e w1 ⟨rfl, rfl⟩) | (go_at_call 117; (with_reducible refine (hr2 _ q2).mono ?_); rintro e w1 ⟨rfl, rfl⟩)); go_ret; exact ⟨qb9 (by first | exact hz.out.symm | (rw [hz.out]; done) | (rw [hz.out]; simp; done) | (rw [hz.out]; simp; omega)), gwn⟩
end Go.Proofs.YtpmkpckldnnigaaGreat
