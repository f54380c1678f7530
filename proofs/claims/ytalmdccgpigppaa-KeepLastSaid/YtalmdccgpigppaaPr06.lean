/- Parts: CodeC, CodeD, Ints, EqInts, CodeE. -/
import Derived.Test.YtalmdccgpigppaaPr05
import Derived.Test.YtalmdccgpigppaaPr01
import Derived.Deep.QuietTactic
import Derived.BigQuiet
import Derived.Test.YtalmdccgpigppaaPr04
namespace Go.Proofs.Ytalmdccgpigppaa
open Go.RowKit

theorem blk5 {w : World} {g : Nat} {t : TypeId} {v0 v1 v2 v3 v4 : Value} (h : Blk w g t [v0, v1, v2, v3, v4]) : w.cell? ⟨g, 0, none⟩ = some v0 ∧ w.cell? ⟨g, 1, none⟩ = some v1 ∧ w.cell? ⟨g, 2, none⟩ = some v2 ∧ w.cell? ⟨g, 3, none⟩ = some v3 ∧ w.cell? ⟨g, 4, none⟩ = some v4 :=
  ⟨h.cell 0, h.cell 1, h.cell 2, h.cell 3, h.cell 4⟩

set_option maxHeartbeats 2000000 in
theorem cmay_any (x : PA) (p : PV) (w : World) (h : ProgRd w x p) :
    Calls Try.prog 99 #[.agg #[.slice x.A1 x.n1 x.c1, .slice x.A2 x.n2 x.c2, .int .i64 p.regs, .slice x.A3 x.n3 x.c3, .slice x.A4 x.n4 x.c4]] w fun e w' => e = .returned (.bool (mayB p)) ∧ Below w.heap.size w w' := by
  obtain ⟨A1, n1, c1, A2, n2, c2, A3, n3, c3, A4, n4, c4⟩ := x
  obtain ⟨ins, outs, regs, cells, code⟩ := p
  obtain ⟨r1, r2, r3, r4, k1, k2, k3, k4⟩ := h
  simp only at r1 r2 r3 r4 k1 k2 k3 k4 ⊢
  have hr1 := fun w h => right_any A1 n1 c1 ins w h (by omega)
  have hr2 := fun w h => right_any A2 n2 c2 outs w h (by omega)
  have e3 := r3.1
  have e4 := r4.1
  generalize hz : mayB ⟨ins, outs, regs, cells, code⟩ = z
  have hI := @mayB_true ⟨ins, outs, regs, cells, code⟩
  rw [hz] at hI
  simp only [e3, e4] at hI
  have HI := Lib.hid hI
  clear hz hI e3 e4
  have m3 : n3 ≤ 9223372036854775807 := by have := k3.1; have := k3.2; unfold maxLen at this; omega
  have m4 : n4 ≤ 9223372036854775807 := by have := k4.1; have := k4.2; unfold maxLen at this; omega
  clear k1 k2 k3 k4
  go_enter Try.func99, Try.ntmps99
  go_wp2
  go_loopw [10] (fun i wr => ∃ k : Nat, k ≤ n3 ∧ i = .int .i64 (k : Nat) ∧ Hid (∀ i, i < k → valueB (cellAt cells i).1 (cellAt cells i).2 = true) ∧ Below w.heap.size w wr ∧ w.heap.size < wr.heap.size ∧
      Blk wr w.heap.size 93 [.slice A1 n1 c1, .slice A2 n2 c2, .int .i64 regs, .slice A3 n3 c3, .slice A4 n4 c4]) (fun i _ => n3 - (intOf i).toNat)
  case atStart => exact ⟨0, by omega, rfl, fun i hi => absurd hi (by omega), (by (repeat' (first | (with_reducible exact Below.refl _ _) | (with_reducible assumption) | (with_reducible refine Below.drew ?_) | (with_reducible refine below_drewN ?_ _) | (with_reducible refine Below.alloc ?_ ?_ _) | (with_reducible refine Below.setCell ?_ ?_ _) | omega | (simp; done) | (simp; omega)))), by simp, (by (repeat' (first | (with_reducible assumption) | (with_reducible refine Blk.top _ (by first | rfl | omega | (simp; done) | (simp; omega)) rfl) | (with_reducible refine Blk.alloc ?_ _) | (with_reducible refine Blk.drew ?_) | (with_reducible refine Blk.drewN ?_ _) | (with_reducible refine Blk.far ?_ (by first | omega | (simp; done) | (simp; omega)) _))))⟩
  case round =>
    obtain ⟨k, hk, rfl, hall, hbel, hsz, hblk⟩ := hrel
    by_cases hlt : k < n3
    · have hne : ¬ (n3 : Int) ≤ (k : Int) := by omega
      obtain ⟨b, o, x, rfl, hb, hx, hc⟩ := (r3.below hbel (Nat.le_refl _)).at_ cellE_len (by omega) hlt
      have h0 : wr.cell? ⟨b, o + k * 2, none⟩ = some (.int .i64 x.1) := hc 0 (by omega)
      have h1 : wr.cell? ⟨b, o + k * 2 + 1, none⟩ = some (.int .i64 x.2) := hc 1 (by omega)
      have hxk := Lib.hid (cellAt_get hx)
      clear hc hx
      obtain ⟨t, f⟩ := x
      simp only at h0 h1
      have hv := fun w => value_any t f w
      cases hvb : valueB t f with
      | true =>
        have hall' : Hid (∀ i, i < k + 1 → valueB (cellAt cells i).1 (cellAt cells i).2 = true) := fun i hi => by
          rcases Nat.lt_or_ge i k with h | h
          · exact hall.out i h
          · rw [show i = k from by omega, hxk.out]; exact hvb
        rw [hvb] at hv
        clear hvb hall
        go_wp2_with (go_at_call 124; (with_reducible refine (hv _).mono ?_); rintro e w1 ⟨rfl, rfl⟩)
        go_roundw
        case rel => exact ⟨k + 1, by omega, by go_num, hall', (by (repeat' (first | (with_reducible exact Below.refl _ _) | (with_reducible assumption) | (with_reducible refine Below.drew ?_) | (with_reducible refine below_drewN ?_ _) | (with_reducible refine Below.alloc ?_ ?_ _) | (with_reducible refine Below.setCell ?_ ?_ _) | omega | (simp; done) | (simp; omega)))), by simp; omega, (by (repeat' (first | (with_reducible assumption) | (with_reducible refine Blk.top _ (by first | rfl | omega | (simp; done) | (simp; omega)) rfl) | (with_reducible refine Blk.alloc ?_ _) | (with_reducible refine Blk.drew ?_) | (with_reducible refine Blk.drewN ?_ _) | (with_reducible refine Blk.far ?_ (by first | omega | (simp; done) | (simp; omega)) _))))⟩
        case measure => simp [intOf]; omega
      | false =>
        have hz : Hid (z = false) := by
          show z = false
          rw [Bool.eq_false_iff]
          intro hc
          have := (HI.out.1 hc).2.2.2.2.2.2.1 k hlt
          rw [hxk.out, hvb] at this
          cases this
        rw [hvb] at hv
        clear hvb hall
        go_wp2_with (go_at_call 124; (with_reducible refine (hv _).mono ?_); rintro e w1 ⟨rfl, rfl⟩)
        go_ret
        exact ⟨ret_bool hz.out.symm, (by (repeat' (first | (with_reducible exact Below.refl _ _) | (with_reducible assumption) | (with_reducible refine Below.drew ?_) | (with_reducible refine below_drewN ?_ _) | (with_reducible refine Below.alloc ?_ ?_ _) | (with_reducible refine Below.setCell ?_ ?_ _) | omega | (simp; done) | (simp; omega))))⟩
    · have hkn : k = n3 := by omega
      subst hkn
      have hall3 := hall
      clear hall
      obtain ⟨g0, g1, g2, g3, g4⟩ := blk5 hblk
      go_wp2
      have hsz0 := hsz
      have hbel0 := hbel
      clear hsz hbel
      go_loopw [24] (fun i w2 => ∃ j : Nat, j ≤ n4 ∧ i = .int .i64 (j : Nat) ∧ Hid (∀ i, i < j → insB (insAt code i) = true) ∧ Below w.heap.size w w2 ∧ w.heap.size < w2.heap.size ∧
          Blk w2 w.heap.size 93 [.slice A1 n1 c1, .slice A2 n2 c2, .int .i64 regs, .slice A3 k c3, .slice A4 n4 c4]) (fun i _ => n4 - (intOf i).toNat)
      case atStart => exact ⟨0, by omega, rfl, fun i hi => absurd hi (by omega), hbel0, hsz0, hblk⟩
      case round =>
        clear g0 g1 g2 g3 g4 hblk
        obtain ⟨j, hj, rfl, hall, hbel, hsz, hblk⟩ := hrel
        by_cases hlt : j < n4
        · have hne : ¬ (n4 : Int) ≤ (j : Int) := by omega
          obtain ⟨b, o, x, rfl, hb, hx, hc⟩ := (r4.below hbel (Nat.le_refl _)).at_ insE_len (by omega) hlt
          obtain ⟨op, xa, xb, xc, xk⟩ := x
          have h0 : wr.cell? ⟨b, o + j * 5, none⟩ = some (.int .i64 op) := hc 0 (by omega)
          have h1 : wr.cell? ⟨b, o + j * 5 + 1, none⟩ = some (.int .i64 xa) := hc 1 (by omega)
          have h2 : wr.cell? ⟨b, o + j * 5 + 2, none⟩ = some (.int .i64 xb) := hc 2 (by omega)
          have h3 : wr.cell? ⟨b, o + j * 5 + 3, none⟩ = some (.int .i64 xc) := hc 3 (by omega)
          have h4 : wr.cell? ⟨b, o + j * 5 + 4, none⟩ = some (.int .i64 xk) := hc 4 (by omega)
          have hxk := Lib.hid (insAt_get hx)
          clear hc hx
          have hv := fun w => instr_any op xa xb xc xk w
          cases hvb : insB ⟨op, xa, xb, xc, xk⟩ with
          | true =>
            have hall' : Hid (∀ i, i < j + 1 → insB (insAt code i) = true) := fun i hi => by
              rcases Nat.lt_or_ge i j with h | h
              · exact hall.out i h
              · rw [show i = j from by omega, hxk.out]; exact hvb
            rw [hvb] at hv
            clear hvb hall
            go_wp2_with ((go_at_call 125; (with_reducible refine (hv _).mono ?_); rintro e w5 ⟨rfl, hb5⟩); have hbw5 := below_then' (a := w) (B := w.heap.size) (by (repeat' (first | (with_reducible exact Below.refl _ _) | (with_reducible assumption) | (with_reducible refine Below.drew ?_) | (with_reducible refine below_drewN ?_ _) | (with_reducible refine Below.alloc ?_ ?_ _) | (with_reducible refine Below.setCell ?_ ?_ _) | omega | (simp; done) | (simp; omega)))) hb5 (by simp; omega); have hs5 := hb5.size; have hk5 := Blk.below (w' := w5) (g := w.heap.size) (t := 93) (cs := [.slice A1 n1 c1, .slice A2 n2 c2, .int .i64 regs, .slice A3 k c3, .slice (some ⟨b, o, none⟩) n4 c4]) (by (repeat' (first | (with_reducible assumption) | (with_reducible refine Blk.top _ (by first | rfl | omega | (simp; done) | (simp; omega)) rfl) | (with_reducible refine Blk.alloc ?_ _) | (with_reducible refine Blk.drew ?_) | (with_reducible refine Blk.drewN ?_ _) | (with_reducible refine Blk.far ?_ (by first | omega | (simp; done) | (simp; omega)) _)))) hb5 (by simp; omega))
            simp at hs5
            go_roundw
            case rel => exact ⟨j + 1, by omega, by go_num, hall', hbw5, by omega, hk5⟩
            case measure => simp [intOf]; omega
          | false =>
            have hz : Hid (z = false) := by
              show z = false
              rw [Bool.eq_false_iff]
              intro hc
              have := (HI.out.1 hc).2.2.2.2.2.2.2 j hlt
              rw [hxk.out, hvb] at this
              cases this
            rw [hvb] at hv
            clear hvb hall
            go_wp2_with ((go_at_call 125; (with_reducible refine (hv _).mono ?_); rintro e w5 ⟨rfl, hb5⟩); have hbw5 := below_then' (a := w) (B := w.heap.size) (by (repeat' (first | (with_reducible exact Below.refl _ _) | (with_reducible assumption) | (with_reducible refine Below.drew ?_) | (with_reducible refine below_drewN ?_ _) | (with_reducible refine Below.alloc ?_ ?_ _) | (with_reducible refine Below.setCell ?_ ?_ _) | omega | (simp; done) | (simp; omega)))) hb5 (by simp; omega))
            go_ret
            exact ⟨ret_bool hz.out.symm, hbw5⟩
        · have hjn : j = n4 := by omega
          subst hjn
          obtain ⟨g0, g1, g2, g3, g4⟩ := blk5 hblk
          have q1 := r1.below hbel (Nat.le_refl _)
          have q2 := r2.below hbel (Nat.le_refl _)
          have HZ : Hid (z = true ↔ rightB ins = true ∧ rightB outs = true ∧ 0 ≤ regs ∧ regs ≤ 1600 ∧ k ≤ 60 ∧ j ≤ 2048) := by
            have h1 := HI.out
            show _ ↔ _
            constructor
            · intro h
              obtain ⟨a1, a2, a3, a4, a5, a6, _⟩ := h1.1 h
              exact ⟨a1, a2, a3, a4, a5, a6⟩
            · rintro ⟨a1, a2, a3, a4, a5, a6⟩
              exact h1.2 ⟨a1, a2, a3, a4, a5, a6, fun i hi => hall3.out i hi, fun i hi => hall.out i hi⟩
          have hne : (j : Int) ≤ (j : Int) := by omega
          clear hall hall3 HI r1 r2 r3 r4 hblk hbel0 hsz0
          generalize rightB ins = b1 at *
          generalize rightB outs = b2 at *
          have HF : ¬ (b1 = true ∧ b2 = true ∧ 0 ≤ regs ∧ regs ≤ 1600 ∧ k ≤ 60 ∧ j ≤ 2048) → Hid (z = false) := fun h => by
            show z = false
            rw [Bool.eq_false_iff]; exact fun hc => h (HZ.out.1 hc)
          have HF := Lib.hid HF
          cases b1 with
          | false =>
            have hz := HF.out (by simp)
            clear HF HZ
            go_wp2_with (go_at_call 60; (with_reducible refine (hr1 _ q1).mono ?_); rintro e w1 ⟨rfl, rfl⟩)
            go_ret
            exact ⟨ret_bool hz.out.symm, (by (repeat' (first | (with_reducible exact Below.refl _ _) | (with_reducible assumption) | (with_reducible refine Below.drew ?_) | (with_reducible refine below_drewN ?_ _) | (with_reducible refine Below.alloc ?_ ?_ _) | (with_reducible refine Below.setCell ?_ ?_ _) | omega | (simp; done) | (simp; omega))))⟩
          | true =>
            cases b2 with
            | false =>
              have hz := HF.out (by simp)
              clear HF HZ
              go_wp2_with (first
                | (go_at_call 60; (with_reducible refine (hr1 _ q1).mono ?_); rintro e w1 ⟨rfl, rfl⟩)
                | (go_at_call 60; (with_reducible refine (hr2 _ q2).mono ?_); rintro e w1 ⟨rfl, rfl⟩))
              go_ret
              exact ⟨ret_bool hz.out.symm, (by (repeat' (first | (with_reducible exact Below.refl _ _) | (with_reducible assumption) | (with_reducible refine Below.drew ?_) | (with_reducible refine below_drewN ?_ _) | (with_reducible refine Below.alloc ?_ ?_ _) | (with_reducible refine Below.setCell ?_ ?_ _) | omega | (simp; done) | (simp; omega))))⟩
            | true =>
              rcases (show regs < 0 ∨ (0 ≤ regs ∧ 1600 < regs) ∨ (0 ≤ regs ∧ regs ≤ 1600 ∧ 60 < k) ∨ (0 ≤ regs ∧ regs ≤ 1600 ∧ k ≤ 60 ∧ 2048 < j) ∨ (0 ≤ regs ∧ regs ≤ 1600 ∧ k ≤ 60 ∧ j ≤ 2048) by omega) with h | h | h | h | h
              case' inr.inr.inr.inr =>
                have hz : Hid (z = true) := HZ.out.2 ⟨rfl, rfl, h⟩
                obtain ⟨h1, h2, h3, h4⟩ := h
              case' inl => have hz := HF.out (by omega)
              case' inr.inl =>
                have hz := HF.out (by omega)
                obtain ⟨h1, h2⟩ := h
              case' inr.inr.inl =>
                have hz := HF.out (by omega)
                obtain ⟨h1, h2, h3⟩ := h
              case' inr.inr.inr.inl =>
                have hz := HF.out (by omega)
                obtain ⟨h1, h2, h3, h4⟩ := h
              all_goals
                clear HF HZ
                go_wp2_with (first
                  | (go_at_call 60; (with_reducible refine (hr1 _ q1).mono ?_); rintro e w1 ⟨rfl, rfl⟩)
                  | (go_at_call 60; (with_reducible refine (hr2 _ q2).mono ?_); rintro e w1 ⟨rfl, rfl⟩))
                go_ret
                exact ⟨ret_bool (by first | exact hz.out.symm | (rw [hz.out]; done) | (rw [hz.out]; simp; done) | (rw [hz.out]; simp; omega)), (by (repeat' (first | (with_reducible exact Below.refl _ _) | (with_reducible assumption) | (with_reducible refine Below.drew ?_) | (with_reducible refine below_drewN ?_ _) | (with_reducible refine Below.alloc ?_ ?_ _) | (with_reducible refine Below.setCell ?_ ?_ _) | omega | (simp; done) | (simp; omega))))⟩
end Go.Proofs.Ytalmdccgpigppaa
namespace Go.Proofs.Ytalmdccgpigppaa
open Go.RowKit

end Go.Proofs.Ytalmdccgpigppaa
namespace Go.Proofs.Ytalmdccgpigppaa
open Go.RowKit

theorem intAt_inj {l m : List Int} (h : l.length = m.length) (hall : ∀ i, i < l.length → intAt l i = intAt m i) : l = m := by
  apply List.ext_getElem h
  intro i h1 h2
  have := hall i h1
  simpa [intAt, List.getD_eq_getElem?_getD, h1, h2] using this
set_option maxHeartbeats 400000 in
theorem ints_any (A B : Option Addr) (n m c d : Nat) (l k : List Int) (w : World) (ha : RI w A n l) (hb : RI w B m k) (hn : n ≤ maxLen) :
    Calls Try.prog 36 #[.slice A n c, .slice B m d] w fun e w' => e = .returned (.bool (decide (l = k))) ∧ ∃ q, w' = w.drewN q := by
  unfold maxLen at hn
  by_cases hnm : n = m
  · subst hnm
    have hlen : l.length = k.length := ha.1.trans hb.1.symm
    have hl := Lib.hid ha.1
    have hk := Lib.hid hlen
    have hnn : (((n : Nat) : Int) != (n : Int)) = false := by simp
    clear hlen
    generalize hz : decide (l = k) = z
    have Hz := Lib.hid hz; clear hz
    go_enter Try.func36, Try.ntmps36
    go_wp2
    go_loopw [5] (fun i wr => ∃ j q, j ≤ n ∧ i = .int .i64 (j : Nat) ∧ Hid (∀ i, i < j → intAt l i = intAt k i) ∧ wr = w.drewN q) (fun i _ => n - (intOf i).toNat)
    case atStart => exact ⟨0, 0, Nat.zero_le _, rfl, fun i hi => absurd hi (by omega), rfl⟩
    case round =>
      obtain ⟨j, q, hj, rfl, hall, rfl⟩ := hrel
      by_cases hlt : j < n
      · obtain ⟨b0, o0, rfl, _, hc0⟩ := ha.at_ hlt
        obtain ⟨b1, o1, rfl, _, hc1⟩ := hb.at_ hlt
        have hlt' : (j : Int) < n := by omega
        by_cases heq : intAt l j = intAt k j
        · have hE := Lib.hid heq
          have hne : ((intAt l j) != (intAt k j)) = false := by simp [heq]
          clear heq
          go_wp2
          go_quiet (fail)
          go_wp2
          go_roundw
          case rel =>
            refine ⟨j + 1, q + nq, by omega, by go_num, fun i hi => ?_, rfl⟩
            rcases Nat.lt_or_ge i j with h | h
            · exact hall.out i h
            · rw [show i = j from by omega]; exact hE.out
          case measure => simp [intOf]; omega
        · have hE := Lib.hid heq
          have hne : ((intAt l j) != (intAt k j)) = true := by
            rw [bne_iff_ne]; exact heq
          clear heq
          go_wp2
          go_quiet (fail)
          go_wp2
          go_ret
          refine ⟨ret_bool ?_, q + nq, World.drewN_drewN _ _ _⟩
          rw [← Hz.out, eq_comm, decide_eq_false_iff_not]
          rintro rfl
          exact hE.out rfl
      · go_wp2
        go_ret
        refine ⟨ret_bool ?_, _, rfl⟩
        rw [← Hz.out, eq_comm, decide_eq_true_eq]
        exact intAt_inj hk.out (fun i hi => hall.out i (by have := hl.out; omega))
  · have hne : (((n : Nat) : Int) != (m : Int)) = true := by rw [bne_iff_ne]; omega
    have hz : decide (l = k) = false := by
      rw [decide_eq_false_iff_not]; rintro rfl; exact hnm (ha.1.symm.trans hb.1)
    rw [hz]
    clear hz hnm
    go_enter Try.func36, Try.ntmps36
    go_wp2
    go_ret
    exact ⟨rfl, 0, rfl⟩
end Go.Proofs.Ytalmdccgpigppaa
namespace Go.Proofs.Ytalmdccgpigppaa
open Go.RowKit

end Go.Proofs.Ytalmdccgpigppaa
namespace Go.Proofs.Ytalmdccgpigppaa
open Go.RowKit

end Go.Proofs.Ytalmdccgpigppaa
