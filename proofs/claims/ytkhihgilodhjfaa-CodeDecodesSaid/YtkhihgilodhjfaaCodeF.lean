/- Contracts of package code and of its reference: are two programs one? -/
import Derived.Test.YtkhihgilodhjfaaCodeE
import Derived.Test.YtkhihgilodhjfaaCodeC
namespace Go.Proofs.Ytkhihgilodhjfaa
open Go.RowKit

def sameB (p q : PV) : Bool := decide (p.ins = q.ins) && (decide (p.outs = q.outs) && ((p.regs == q.regs) && (decide (p.cells = q.cells) && decide (p.code = q.code))))
theorem sameB_self (p : PV) : sameB p p = true := by simp [sameB]
theorem sameB_true {p q : PV} : sameB p q = true ↔ p = q := by
  cases p; cases q
  simp [sameB]

set_option maxRecDepth 100000 in
set_option maxHeartbeats 4000000 in
theorem refcodesame_any (x y : PA) (p q : PV) (w : World) (h : ProgRd w x p) (h' : ProgRd w y q) :
    Calls Try.prog 19 #[.agg #[.slice x.A1 x.n1 x.c1, .slice x.A2 x.n2 x.c2, .int .i64 p.regs, .slice x.A3 x.n3 x.c3, .slice x.A4 x.n4 x.c4], .agg #[.slice y.A1 y.n1 y.c1, .slice y.A2 y.n2 y.c2, .int .i64 q.regs, .slice y.A3 y.n3 y.c3, .slice y.A4 y.n4 y.c4]] w
      fun e w' => e = .returned (.bool (sameB p q)) ∧ Below w.heap.size w w' := by
  obtain ⟨A1, n1, c1, A2, n2, c2, A3, n3, c3, A4, n4, c4⟩ := x
  obtain ⟨B1, m1, d1, B2, m2, d2, B3, m3, d3, B4, m4, d4⟩ := y
  obtain ⟨ins, outs, regs, cells, code⟩ := p
  obtain ⟨ins', outs', regs', cells', code'⟩ := q
  obtain ⟨r1, r2, r3, r4, k1, k2, k3, k4⟩ := h
  obtain ⟨s1, s2, s3, s4, _, _, _, _⟩ := h'
  simp only at r1 r2 r3 r4 k1 k2 k3 k4 s1 s2 s3 s4 ⊢
  have hh1 := fun w h h' => ints_any A1 B1 n1 m1 c1 d1 ins ins' w h h' (by omega)
  have hh2 := fun w h h' => ints_any A2 B2 n2 m2 c2 d2 outs outs' w h h' (by omega)
  have L3 := Lib.hid r3.1
  have L3' := Lib.hid s3.1
  have L4 := Lib.hid r4.1
  have L4' := Lib.hid s4.1
  have HZ : Hid (sameB ⟨ins, outs, regs, cells, code⟩ ⟨ins', outs', regs', cells', code'⟩ = true ↔ ins = ins' ∧ outs = outs' ∧ regs = regs' ∧ cells = cells' ∧ code = code') := by
    show _ ↔ _
    rw [sameB_true]; simp
  generalize sameB ⟨ins, outs, regs, cells, code⟩ ⟨ins', outs', regs', cells', code'⟩ = z at *
  have HF : ¬ (ins = ins' ∧ outs = outs' ∧ regs = regs' ∧ cells = cells' ∧ code = code') → Hid (z = false) := fun h => by
    show z = false
    rw [Bool.eq_false_iff]; exact fun hc => h (HZ.out.1 hc)
  have HF := Lib.hid HF
  have M3 : n3 ≤ 9223372036854775807 := by have := k3.1; have := k3.2; unfold maxLen at this; omega
  have M4 : n4 ≤ 9223372036854775807 := by have := k4.1; have := k4.2; unfold maxLen at this; omega
  clear k1 k2 k3 k4
  have hb : Below w.heap.size w ((w.alloc (.cells #[.slice A1 n1 c1, .slice A2 n2 c2, .int .i64 regs, .slice A3 n3 c3, .slice A4 n4 c4] 26)).alloc (.cells #[.slice B1 m1 d1, .slice B2 m2 d2, .int .i64 regs', .slice B3 m3 d3, .slice B4 m4 d4] 26)) := (by (repeat' (first | (with_reducible exact Below.refl _ _) | (with_reducible assumption) | (with_reducible refine Below.drew ?_) | (with_reducible refine below_drewN ?_ _) | (with_reducible refine Below.alloc ?_ ?_ _) | (with_reducible refine Below.setCell ?_ ?_ _) | omega | (simp; done) | (simp; omega))))
  have R1 := r1.below hb (Nat.le_refl _)
  have R2 := r2.below hb (Nat.le_refl _)
  have S1 := s1.below hb (Nat.le_refl _)
  have S2 := s2.below hb (Nat.le_refl _)
  have dd : ∀ {A n l} {w : World} (q : Nat), RI w A n l → RI (w.drewN q) A n l := fun q h => h
  have k0 : Blk ((w.alloc (.cells #[.slice A1 n1 c1, .slice A2 n2 c2, .int .i64 regs, .slice A3 n3 c3, .slice A4 n4 c4] 26)).alloc (.cells #[.slice B1 m1 d1, .slice B2 m2 d2, .int .i64 regs', .slice B3 m3 d3, .slice B4 m4 d4] 26)) w.heap.size 26 [.slice A1 n1 c1, .slice A2 n2 c2, .int .i64 regs, .slice A3 n3 c3, .slice A4 n4 c4] := (by (repeat' (first | (with_reducible assumption) | (with_reducible refine Blk.top _ (by first | rfl | omega | (simp; done) | (simp; omega)) rfl) | (with_reducible refine Blk.alloc ?_ _) | (with_reducible refine Blk.drew ?_) | (with_reducible refine Blk.drewN ?_ _) | (with_reducible refine Blk.far ?_ (by first | omega | (simp; done) | (simp; omega)) _))))
  have k0' : Blk ((w.alloc (.cells #[.slice A1 n1 c1, .slice A2 n2 c2, .int .i64 regs, .slice A3 n3 c3, .slice A4 n4 c4] 26)).alloc (.cells #[.slice B1 m1 d1, .slice B2 m2 d2, .int .i64 regs', .slice B3 m3 d3, .slice B4 m4 d4] 26)) (w.heap.size + 1) 26 [.slice B1 m1 d1, .slice B2 m2 d2, .int .i64 regs', .slice B3 m3 d3, .slice B4 m4 d4] := (by (repeat' (first | (with_reducible assumption) | (with_reducible refine Blk.top _ (by first | rfl | omega | (simp; done) | (simp; omega)) rfl) | (with_reducible refine Blk.alloc ?_ _) | (with_reducible refine Blk.drew ?_) | (with_reducible refine Blk.drewN ?_ _) | (with_reducible refine Blk.far ?_ (by first | omega | (simp; done) | (simp; omega)) _))))
  have hsz0 : w.heap.size + 1 < ((w.alloc (.cells #[.slice A1 n1 c1, .slice A2 n2 c2, .int .i64 regs, .slice A3 n3 c3, .slice A4 n4 c4] 26)).alloc (.cells #[.slice B1 m1 d1, .slice B2 m2 d2, .int .i64 regs', .slice B3 m3 d3, .slice B4 m4 d4] 26)).heap.size := by simp
  clear r1 r2 s1 s2
  cases hb1 : decide (ins = ins') with
  | false =>
    have hz := HF.out (by intro h; exact of_decide_eq_false hb1 h.1)
    rw [hb1] at hh1
    clear hb1 HF HZ
    go_enter Try.func19, Try.ntmps19
    go_wp2_with (first
      | (go_at_call 31; (with_reducible refine (hh1 _ R1 S1).mono ?_); rintro e w1 ⟨rfl, q1, rfl⟩))
    go_ret
    exact ⟨ret_bool hz.out.symm, (by (repeat' (first | (with_reducible exact Below.refl _ _) | (with_reducible assumption) | (with_reducible refine Below.drew ?_) | (with_reducible refine below_drewN ?_ _) | (with_reducible refine Below.alloc ?_ ?_ _) | (with_reducible refine Below.setCell ?_ ?_ _) | omega | (simp; done) | (simp; omega))))⟩
  | true =>
    have E1 := Lib.hid (of_decide_eq_true hb1)
    rw [hb1] at hh1
    clear hb1
    cases hb2 : decide (outs = outs') with
    | false =>
      have hz := HF.out (by intro h; exact of_decide_eq_false hb2 h.2.1)
      rw [hb2] at hh2
      clear hb2 HF HZ
      go_enter Try.func19, Try.ntmps19
      go_wp2_with (first
        | (go_at_call 31; (with_reducible refine (hh1 _ R1 S1).mono ?_); rintro e w1 ⟨rfl, q1, rfl⟩)
        | (go_at_call 31; (with_reducible refine (hh2 _ (dd _ R2) (dd _ S2)).mono ?_); rintro e w1 ⟨rfl, q2, rfl⟩))
      go_ret
      exact ⟨ret_bool hz.out.symm, (by (repeat' (first | (with_reducible exact Below.refl _ _) | (with_reducible assumption) | (with_reducible refine Below.drew ?_) | (with_reducible refine below_drewN ?_ _) | (with_reducible refine Below.alloc ?_ ?_ _) | (with_reducible refine Below.setCell ?_ ?_ _) | omega | (simp; done) | (simp; omega))))⟩
    | true =>
      have E2 := Lib.hid (of_decide_eq_true hb2)
      rw [hb2] at hh2
      clear hb2
      rcases (show regs ≠ regs' ∨ (regs = regs' ∧ n3 ≠ m3) ∨ (regs = regs' ∧ n3 = m3 ∧ n4 ≠ m4) ∨ (regs = regs' ∧ n3 = m3 ∧ n4 = m4) by omega) with h | h | h | h
      case inr.inr.inr =>
        obtain ⟨rfl, rfl, rfl⟩ := h
        have f1 : (regs != regs) = false := by simp
        have f2 : (((n3 : Nat) : Int) != (n3 : Int)) = false := by simp
        have f3 : (((n4 : Nat) : Int) != (n4 : Int)) = false := by simp
        go_enter Try.func19, Try.ntmps19
        go_wp2_with (first
          | (go_at_call 31; (with_reducible refine (hh1 _ R1 S1).mono ?_); rintro e w1 ⟨rfl, q1, rfl⟩)
          | (go_at_call 31; (with_reducible refine (hh2 _ (dd _ R2) (dd _ S2)).mono ?_); rintro e w1 ⟨rfl, q2, rfl⟩))
        clear R1 R2 S1 S2 hh1 hh2 dd
        go_loopw [5] (fun i wr => ∃ j : Nat, j ≤ n3 ∧ i = .int .i64 (j : Nat) ∧ Hid (∀ i, i < j → cells[i]? = cells'[i]?) ∧ Below w.heap.size w wr ∧ w.heap.size + 1 < wr.heap.size ∧ Blk wr w.heap.size 26 [.slice A1 n1 c1, .slice A2 n2 c2, .int .i64 regs, .slice A3 n3 c3, .slice A4 n4 c4] ∧ Blk wr (w.heap.size + 1) 26 [.slice B1 m1 d1, .slice B2 m2 d2, .int .i64 regs, .slice B3 n3 d3, .slice B4 n4 d4]) (fun i _ => n3 - (intOf i).toNat)
        case atStart => exact ⟨0, by omega, rfl, fun i hi => absurd hi (by omega), (by (repeat' (first | (with_reducible exact Below.refl _ _) | (with_reducible assumption) | (with_reducible refine Below.drew ?_) | (with_reducible refine below_drewN ?_ _) | (with_reducible refine Below.alloc ?_ ?_ _) | (with_reducible refine Below.setCell ?_ ?_ _) | omega | (simp; done) | (simp; omega)))), hsz0, k0, k0'⟩
        case round =>
          clear k0 k0' hsz0 hb
          obtain ⟨j, hj, rfl, hall, hbel, hsz, K0, K1⟩ := hrel
          obtain ⟨g0, g1, g2, g3, g4⟩ := blk5 K0
          obtain ⟨t0, t1, t2, t3, t4⟩ := blk5 K1
          by_cases hlt : j < n3
          · obtain ⟨b0, o0, e, rfl, _, hx, hc0⟩ := (r3.below hbel (Nat.le_refl _)).at_ cellE_len (by omega) hlt
            obtain ⟨b1, o1, f, rfl, _, hy, hc1⟩ := (s3.below hbel (Nat.le_refl _)).at_ cellE_len (by omega) hlt
            have p0 : wr.cell? ⟨b0, o0 + j * 2, none⟩ = some (.int .i64 e.1) := hc0 0 (by omega)
            have u0 : wr.cell? ⟨b1, o1 + j * 2, none⟩ = some (.int .i64 f.1) := hc1 0 (by omega)
            have p1 : wr.cell? ⟨b0, o0 + j * 2 + 1, none⟩ = some (.int .i64 e.2) := hc0 1 (by omega)
            have u1 : wr.cell? ⟨b1, o1 + j * 2 + 1, none⟩ = some (.int .i64 f.2) := hc1 1 (by omega)
            have hlt' : (j : Int) < n3 := by omega
            have hj0 : (0 : Int) ≤ (j : Int) := by omega
            have heq := fun w => run_eq_cell e f w
            have Hx := Lib.hid hx
            have Hy := Lib.hid hy
            clear hc0 hc1 hx hy
            cases hxy : decide (e = f) with
            | true =>
              have hE := Lib.hid (of_decide_eq_true hxy)
              rw [hxy] at heq
              clear hxy
              go_wp2
              go_quiet (fail)
              go_wp2
              go_roundw
              case rel =>
                refine ⟨j + 1, by omega, by go_num, fun i hi => ?_, (by (repeat' (first | (with_reducible exact Below.refl _ _) | (with_reducible assumption) | (with_reducible refine Below.drew ?_) | (with_reducible refine below_drewN ?_ _) | (with_reducible refine Below.alloc ?_ ?_ _) | (with_reducible refine Below.setCell ?_ ?_ _) | omega | (simp; done) | (simp; omega)))), hsz, K0, K1⟩
                rcases Nat.lt_or_ge i j with h | h
                · exact hall.out i h
                · rw [show i = j from by omega, Hx.out, Hy.out, hE.out]
              case measure => simp [intOf]; omega
            | false =>
              have hE := Lib.hid (of_decide_eq_false hxy)
              rw [hxy] at heq
              have hz := HF.out (by
                rintro ⟨_, _, _, h9, _⟩
                have h1 := Hx.out
                rw [h9, Hy.out] at h1
                exact hE.out (Option.some.inj h1).symm)
              clear hxy HF HZ
              go_wp2
              go_quiet (fail)
              go_wp2
              go_ret
              exact ⟨ret_bool hz.out.symm, (by (repeat' (first | (with_reducible exact Below.refl _ _) | (with_reducible assumption) | (with_reducible refine Below.drew ?_) | (with_reducible refine below_drewN ?_ _) | (with_reducible refine Below.alloc ?_ ?_ _) | (with_reducible refine Below.setCell ?_ ?_ _) | omega | (simp; done) | (simp; omega))))⟩
          · have hjn : j = n3 := by omega
            subst hjn
            have hge : (j : Int) ≤ (j : Int) := by omega
            have E3 : Hid (cells = cells') := by
              apply List.ext_getElem?
              intro i
              rcases Nat.lt_or_ge i j with h | h
              · exact hall.out i h
              · rw [List.getElem?_eq_none (by rw [L3.out]; omega), List.getElem?_eq_none (by rw [L3'.out]; omega)]
            clear hall r3 s3
            go_wp2
            have hsz0 := hsz
            have hbel0 := hbel
            clear hsz hbel
            go_loopw [6] (fun i wr => ∃ k : Nat, k ≤ n4 ∧ i = .int .i64 (k : Nat) ∧ Hid (∀ i, i < k → code[i]? = code'[i]?) ∧ Below w.heap.size w wr ∧ w.heap.size + 1 < wr.heap.size ∧ Blk wr w.heap.size 26 [.slice A1 n1 c1, .slice A2 n2 c2, .int .i64 regs, .slice A3 j c3, .slice A4 n4 c4] ∧ Blk wr (w.heap.size + 1) 26 [.slice B1 m1 d1, .slice B2 m2 d2, .int .i64 regs, .slice B3 j d3, .slice B4 n4 d4]) (fun i _ => n4 - (intOf i).toNat)
            case atStart => exact ⟨0, by omega, rfl, fun i hi => absurd hi (by omega), hbel0, hsz0, K0, K1⟩
            case round =>
              clear g0 g1 g2 g3 g4 t0 t1 t2 t3 t4 K0 K1 hbel0 hsz0
              rename_i jj
              obtain ⟨j, hj, rfl, hall, hbel, hsz, K0, K1⟩ := hrel
              obtain ⟨g0, g1, g2, g3, g4⟩ := blk5 K0
              obtain ⟨t0, t1, t2, t3, t4⟩ := blk5 K1
              by_cases hlt : j < n4
              · obtain ⟨b0, o0, e, rfl, _, hx, hc0⟩ := (r4.below hbel (Nat.le_refl _)).at_ insE_len (by omega) hlt
                obtain ⟨b1, o1, f, rfl, _, hy, hc1⟩ := (s4.below hbel (Nat.le_refl _)).at_ insE_len (by omega) hlt
                have p0 : wr.cell? ⟨b0, o0 + j * 5, none⟩ = some (.int .i64 e.op) := hc0 0 (by omega)
                have u0 : wr.cell? ⟨b1, o1 + j * 5, none⟩ = some (.int .i64 f.op) := hc1 0 (by omega)
                have p1 : wr.cell? ⟨b0, o0 + j * 5 + 1, none⟩ = some (.int .i64 e.a) := hc0 1 (by omega)
                have u1 : wr.cell? ⟨b1, o1 + j * 5 + 1, none⟩ = some (.int .i64 f.a) := hc1 1 (by omega)
                have p2 : wr.cell? ⟨b0, o0 + j * 5 + 2, none⟩ = some (.int .i64 e.b) := hc0 2 (by omega)
                have u2 : wr.cell? ⟨b1, o1 + j * 5 + 2, none⟩ = some (.int .i64 f.b) := hc1 2 (by omega)
                have p3 : wr.cell? ⟨b0, o0 + j * 5 + 3, none⟩ = some (.int .i64 e.c) := hc0 3 (by omega)
                have u3 : wr.cell? ⟨b1, o1 + j * 5 + 3, none⟩ = some (.int .i64 f.c) := hc1 3 (by omega)
                have p4 : wr.cell? ⟨b0, o0 + j * 5 + 4, none⟩ = some (.int .i64 e.k) := hc0 4 (by omega)
                have u4 : wr.cell? ⟨b1, o1 + j * 5 + 4, none⟩ = some (.int .i64 f.k) := hc1 4 (by omega)
                have hlt' : (j : Int) < n4 := by omega
                have hj0 : (0 : Int) ≤ (j : Int) := by omega
                have heq := fun w => run_eq_ins e f w
                have Hx := Lib.hid hx
                have Hy := Lib.hid hy
                clear hc0 hc1 hx hy
                cases hxy : decide (e = f) with
                | true =>
                  have hE := Lib.hid (of_decide_eq_true hxy)
                  rw [hxy] at heq
                  clear hxy
                  go_wp2
                  go_quiet (fail)
                  go_wp2
                  go_roundw
                  case rel =>
                    refine ⟨j + 1, by omega, by go_num, fun i hi => ?_, (by (repeat' (first | (with_reducible exact Below.refl _ _) | (with_reducible assumption) | (with_reducible refine Below.drew ?_) | (with_reducible refine below_drewN ?_ _) | (with_reducible refine Below.alloc ?_ ?_ _) | (with_reducible refine Below.setCell ?_ ?_ _) | omega | (simp; done) | (simp; omega)))), hsz, K0, K1⟩
                    rcases Nat.lt_or_ge i j with h | h
                    · exact hall.out i h
                    · rw [show i = j from by omega, Hx.out, Hy.out, hE.out]
                  case measure => simp [intOf]; omega
                | false =>
                  have hE := Lib.hid (of_decide_eq_false hxy)
                  rw [hxy] at heq
                  have hz := HF.out (by
                    rintro ⟨_, _, _, _, h9⟩
                    have h1 := Hx.out
                    rw [h9, Hy.out] at h1
                    exact hE.out (Option.some.inj h1).symm)
                  clear hxy HF HZ
                  go_wp2
                  go_quiet (fail)
                  go_wp2
                  go_ret
                  exact ⟨ret_bool hz.out.symm, (by (repeat' (first | (with_reducible exact Below.refl _ _) | (with_reducible assumption) | (with_reducible refine Below.drew ?_) | (with_reducible refine below_drewN ?_ _) | (with_reducible refine Below.alloc ?_ ?_ _) | (with_reducible refine Below.setCell ?_ ?_ _) | omega | (simp; done) | (simp; omega))))⟩
              · have hjn : j = n4 := by omega
                subst hjn
                have hge : (j : Int) ≤ (j : Int) := by omega
                have E4 : Hid (code = code') := by
                  apply List.ext_getElem?
                  intro i
                  rcases Nat.lt_or_ge i j with h | h
                  · exact hall.out i h
                  · rw [List.getElem?_eq_none (by rw [L4.out]; omega), List.getElem?_eq_none (by rw [L4'.out]; omega)]
                have hz : Hid (z = true) := HZ.out.2 ⟨E1.out, E2.out, by simp, E3.out, E4.out⟩
                clear hall r4 s4 HF HZ
                go_wp2
                go_ret
                exact ⟨ret_bool hz.out.symm, (by (repeat' (first | (with_reducible exact Below.refl _ _) | (with_reducible assumption) | (with_reducible refine Below.drew ?_) | (with_reducible refine below_drewN ?_ _) | (with_reducible refine Below.alloc ?_ ?_ _) | (with_reducible refine Below.setCell ?_ ?_ _) | omega | (simp; done) | (simp; omega))))⟩
      case' inl =>
        have hz := HF.out (by intro h9; exact h h9.2.2.1)
        have f1 : (regs != regs') = true := by rw [bne_iff_ne]; exact h
      case' inr.inl =>
        have hz := HF.out (by rintro ⟨_, _, _, h9, _⟩; apply h.2; rw [← L3.out, ← L3'.out, h9])
        obtain ⟨rfl, h2⟩ := h
        have f1 : (regs != regs) = false := by simp
        have f2 : (((n3 : Nat) : Int) != (m3 : Int)) = true := by rw [bne_iff_ne]; omega
      case' inr.inr.inl =>
        have hz := HF.out (by rintro ⟨_, _, _, _, h9⟩; apply h.2.2; rw [← L4.out, ← L4'.out, h9])
        obtain ⟨rfl, rfl, h3⟩ := h
        have f1 : (regs != regs) = false := by simp
        have f2 : (((n3 : Nat) : Int) != (n3 : Int)) = false := by simp
        have f3 : (((n4 : Nat) : Int) != (m4 : Int)) = true := by rw [bne_iff_ne]; omega
      all_goals
        clear HF HZ
        go_enter Try.func19, Try.ntmps19
        go_wp2_with (first
          | (go_at_call 31; (with_reducible refine (hh1 _ R1 S1).mono ?_); rintro e w1 ⟨rfl, q1, rfl⟩)
          | (go_at_call 31; (with_reducible refine (hh2 _ (dd _ R2) (dd _ S2)).mono ?_); rintro e w1 ⟨rfl, q2, rfl⟩))
        go_ret
        exact ⟨ret_bool hz.out.symm, (by (repeat' (first | (with_reducible exact Below.refl _ _) | (with_reducible assumption) | (with_reducible refine Below.drew ?_) | (with_reducible refine below_drewN ?_ _) | (with_reducible refine Below.alloc ?_ ?_ _) | (with_reducible refine Below.setCell ?_ ?_ _) | omega | (simp; done) | (simp; omega))))⟩
end Go.Proofs.Ytkhihgilodhjfaa
