/- DigestOf: the digest of any program is that of its bytes; one that may not be has none. -/
import Derived.Test.YthplicnidknphaaCodeLawA
import Derived.Test.YthplicnidknphaaDigLawA
import Derived.Test.YthplicnidknphaaRefDigB
namespace Go.Proofs.Ythplicnidknphaa.digestOf
open Go.ChangeShapes Go.WideShapes Go.ChangeAt Go.RowKit
set_option linter.unusedVariables false

theorem of_no (x : PA) (p : PV) (w : World) (h : ProgRd w x p) (hm : mayB p = false) :
    Calls Try.prog 50 #[.agg #[.slice x.A1 x.n1 x.c1, .slice x.A2 x.n2 x.c2, .int .i64 p.regs, .slice x.A3 x.n3 x.c3, .slice x.A4 x.n4 x.c4]] w fun e w' => e = .returned (.tuple #[.int .i64 0, .int .i64 2]) ∧ Below w.heap.size w w' := by
  have he := fun w h => encode_no x p w h hm
  go_enter Try.func50, Try.ntmps50
  go_wp2_with ((go_at_call 42; (with_reducible refine (he _ (h.below ((Below.refl _ _).alloc (Nat.le_refl _) _) (Nat.le_refl _))).mono ?_); rintro e w1 ⟨rfl, hb1⟩); replace hb1 := below_then' (a := w) (B := w.heap.size) (by (repeat' (first | (with_reducible exact Below.refl _ _) | (with_reducible assumption) | (with_reducible refine Below.drew ?_) | (with_reducible refine below_drewN ?_ _) | (with_reducible refine Below.alloc ?_ ?_ _) | (with_reducible refine Below.setCell ?_ ?_ _) | omega | (simp; done) | (simp; omega)))) hb1 (by first | omega | (simp; done) | (simp; omega)); have hb1s := hb1.size)
  go_ret2
  exact ⟨rfl, (by (repeat' (first | (with_reducible exact Below.refl _ _) | (with_reducible assumption) | (with_reducible refine Below.drew ?_) | (with_reducible refine below_drewN ?_ _) | (with_reducible refine Below.alloc ?_ ?_ _) | (with_reducible refine Below.setCell ?_ ?_ _) | omega | (simp; done) | (simp; omega))))⟩
theorem of_ok (x : PA) (p : PV) (w : World) (h : ProgRd w x p) (hw : ProgWf p) (hm : mayB p = true) :
    Calls Try.prog 50 #[.agg #[.slice x.A1 x.n1 x.c1, .slice x.A2 x.n2 x.c2, .int .i64 p.regs, .slice x.A3 x.n3 x.c3, .slice x.A4 x.n4 x.c4]] w fun e w' => e = .returned (.tuple #[.int .i64 (fnv (progBs p) % 9223372036854775808 : Nat), .int .i64 0]) ∧ Below w.heap.size w w' := by
  have he := fun w h => encode_ok x p w h hw hm
  have hd := fun (A : Option Addr) (n c : Nat) (w : World) hl hn => dbytes_any A n c (progBs p) w hl hn
  generalize progBs p = L at *
  generalize fnv L % 9223372036854775808 = z at *
  go_enter Try.func50, Try.ntmps50
  go_wp2_with (first
    | ((go_at_call 42; (with_reducible refine (he _ (h.below ((Below.refl _ _).alloc (Nat.le_refl _) _) (Nat.le_refl _))).mono ?_); rintro e w1 ⟨A1, N1, c1, rfl, own1, hb1⟩); have hcp := own1.cap; have hN : N1 ≤ maxLen := (by omega); replace hb1 := below_then' (a := w) (B := w.heap.size) (by (repeat' (first | (with_reducible exact Below.refl _ _) | (with_reducible assumption) | (with_reducible refine Below.drew ?_) | (with_reducible refine below_drewN ?_ _) | (with_reducible refine Below.alloc ?_ ?_ _) | (with_reducible refine Below.setCell ?_ ?_ _) | omega | (simp; done) | (simp; omega)))) hb1 (by first | omega | (simp; done) | (simp; omega)); have hb1s := hb1.size)
    | (go_at_call 101; (with_reducible refine (hd _ _ _ _ own1.rd.rb hN).mono ?_); rintro e w2 ⟨rfl, rfl⟩))
  go_ret2
  exact ⟨rfl, (by (repeat' (first | (with_reducible exact Below.refl _ _) | (with_reducible assumption) | (with_reducible refine Below.drew ?_) | (with_reducible refine below_drewN ?_ _) | (with_reducible refine Below.alloc ?_ ?_ _) | (with_reducible refine Below.setCell ?_ ?_ _) | omega | (simp; done) | (simp; omega))))⟩

def FewD (x : PA) : Prop := x.n4 ≤ 12 ∧ x.n3 ≤ 10 ∧ x.n1 ≤ 20 ∧ x.n2 ≤ 20
theorem walk_big (x : PA) (p : PV) (w : World) (hx : ProgRd w x p) (h : ¬ FewD x) :
    Calls Try.prog 12 #[.agg #[.slice x.A1 x.n1 x.c1, .slice x.A2 x.n2 x.c2, .int .i64 p.regs, .slice x.A3 x.n3 x.c3, .slice x.A4 x.n4 x.c4]] w fun e w' => e = .returned (.bool true) ∧ Below w.heap.size w w' := by
  obtain ⟨_, _, _, _, k1, k2, k3, k4⟩ := hx
  unfold maxLen at k1 k2 k3 k4
  unfold FewD at h
  have hc : 12 < x.n4 ∨ (x.n4 ≤ 12 ∧ 10 < x.n3) ∨ (x.n4 ≤ 12 ∧ x.n3 ≤ 10 ∧ 20 < x.n1) ∨ (x.n4 ≤ 12 ∧ x.n3 ≤ 10 ∧ x.n1 ≤ 20 ∧ 20 < x.n2) := by omega
  have j1 : x.n1 ≤ 9223372036854775807 := by omega
  have j2 : x.n2 ≤ 9223372036854775807 := by omega
  have j3 : x.n3 ≤ 9223372036854775807 := by omega
  have j4 : x.n4 ≤ 9223372036854775807 := by omega
  clear h k1 k2 k3 k4
  rcases hc with h1 | h1 | h1 | h1
  case' inr.inl => have h2 := h1.1; have h3 := h1.2
  case' inr.inr.inl => have h2 := h1.1; have h3 := h1.2.1; have h4 := h1.2.2
  case' inr.inr.inr => have h2 := h1.1; have h3 := h1.2.1; have h4 := h1.2.2.1; have h5 := h1.2.2.2
  all_goals
    go_enter Try.func12, Try.ntmps12
    go_wp2_with ((go_at_call 49; (with_reducible refine (awake32 _).mono ?_); rintro e w1 ⟨rfl, hb1⟩); have hx1 := Blk.below (w' := w1) (g := w.heap.size) (t := 42) (cs := [.slice x.A1 x.n1 x.c1, .slice x.A2 x.n2 x.c2, .int .i64 p.regs, .slice x.A3 x.n3 x.c3, .slice x.A4 x.n4 x.c4]) (by (repeat' (first | (with_reducible assumption) | (with_reducible refine Blk.top _ (by first | rfl | omega | (simp; done) | (simp; omega)) rfl) | (with_reducible refine Blk.alloc ?_ _) | (with_reducible refine Blk.drew ?_) | (with_reducible refine Blk.drewN ?_ _) | (with_reducible refine Blk.far ?_ (by first | omega | (simp; done) | (simp; omega)) _)))) hb1 (by first | omega | (simp; done) | (simp; omega)); obtain ⟨gx10, gx11, gx12, gx13, gx14⟩ := blk5 hx1; have sz1 := hx1.lt; replace hb1 := below_then' (a := w) (B := w.heap.size) (by (repeat' (first | (with_reducible exact Below.refl _ _) | (with_reducible assumption) | (with_reducible refine Below.drew ?_) | (with_reducible refine below_drewN ?_ _) | (with_reducible refine Below.alloc ?_ ?_ _) | (with_reducible refine Below.setCell ?_ ?_ _) | omega | (simp; done) | (simp; omega)))) hb1 (by first | omega | (simp; done) | (simp; omega)); have hb1s := hb1.size)
    go_ret
    exact ⟨rfl, (by (repeat' (first | (with_reducible exact Below.refl _ _) | (with_reducible assumption) | (with_reducible refine Below.drew ?_) | (with_reducible refine below_drewN ?_ _) | (with_reducible refine Below.alloc ?_ ?_ _) | (with_reducible refine Below.setCell ?_ ?_ _) | omega | (simp; done) | (simp; omega))))⟩
set_option maxHeartbeats 1000000 in
theorem walk_small (x : PA) (p : PV) (w : World) (hx : ProgRd w x p) (hw : ProgAll p) (h : FewD x) :
    Calls Try.prog 12 #[.agg #[.slice x.A1 x.n1 x.c1, .slice x.A2 x.n2 x.c2, .int .i64 p.regs, .slice x.A3 x.n3 x.c3, .slice x.A4 x.n4 x.c4]] w fun e w' => e = .returned (.bool true) ∧ Below w.heap.size w w' := by
  obtain ⟨h1, h2, h3, h4⟩ := h
  have hm := fun w h => refmay_any x p w h
  have hno := fun w h => of_no x p w h
  have hok := fun w h => of_ok x p w h hw.wf
  have hby := fun w h => refbytes_any x p w h hw.wf
  have hrd := fun (A : Option Addr) (n c : Nat) (w : World) hl hn => refdbytes_any A n c (progBs p) w hl hn
  cases hmb : mayB p with
  | false =>
    have hno' := fun w h => hno w h hmb
    rw [hmb] at hm
    clear hmb hno hok hby hrd hw
    go_enter Try.func12, Try.ntmps12
    go_wp2_with (first
      | ((go_at_call 49; (with_reducible refine (awake32 _).mono ?_); rintro e w1 ⟨rfl, hb1⟩); have hx1 := Blk.below (w' := w1) (g := w.heap.size) (t := 42) (cs := [.slice x.A1 x.n1 x.c1, .slice x.A2 x.n2 x.c2, .int .i64 p.regs, .slice x.A3 x.n3 x.c3, .slice x.A4 x.n4 x.c4]) (by (repeat' (first | (with_reducible assumption) | (with_reducible refine Blk.top _ (by first | rfl | omega | (simp; done) | (simp; omega)) rfl) | (with_reducible refine Blk.alloc ?_ _) | (with_reducible refine Blk.drew ?_) | (with_reducible refine Blk.drewN ?_ _) | (with_reducible refine Blk.far ?_ (by first | omega | (simp; done) | (simp; omega)) _)))) hb1 (by first | omega | (simp; done) | (simp; omega)); obtain ⟨gx10, gx11, gx12, gx13, gx14⟩ := blk5 hx1; have sz1 := hx1.lt; replace hb1 := below_then' (a := w) (B := w.heap.size) (by (repeat' (first | (with_reducible exact Below.refl _ _) | (with_reducible assumption) | (with_reducible refine Below.drew ?_) | (with_reducible refine below_drewN ?_ _) | (with_reducible refine Below.alloc ?_ ?_ _) | (with_reducible refine Below.setCell ?_ ?_ _) | omega | (simp; done) | (simp; omega)))) hb1 (by first | omega | (simp; done) | (simp; omega)); have hb1s := hb1.size)
      | ((go_at_call 50; (with_reducible refine (hno' _ (hx.below (b := w.heap.size) (by (repeat' (first | (with_reducible exact Below.refl _ _) | (with_reducible assumption) | (with_reducible refine Below.drew ?_) | (with_reducible refine below_drewN ?_ _) | (with_reducible refine Below.alloc ?_ ?_ _) | (with_reducible refine Below.setCell ?_ ?_ _) | omega | (simp; done) | (simp; omega)))) (Nat.le_refl _))).mono ?_); rintro e w2 ⟨rfl, hb2⟩); have hx2 := Blk.below (w' := w2) (g := w.heap.size) (t := 42) (cs := [.slice x.A1 x.n1 x.c1, .slice x.A2 x.n2 x.c2, .int .i64 p.regs, .slice x.A3 x.n3 x.c3, .slice x.A4 x.n4 x.c4]) (by (repeat' (first | (with_reducible assumption) | (with_reducible refine Blk.top _ (by first | rfl | omega | (simp; done) | (simp; omega)) rfl) | (with_reducible refine Blk.alloc ?_ _) | (with_reducible refine Blk.drew ?_) | (with_reducible refine Blk.drewN ?_ _) | (with_reducible refine Blk.far ?_ (by first | omega | (simp; done) | (simp; omega)) _)))) hb2 (by first | omega | (simp; done) | (simp; omega)); obtain ⟨gx20, gx21, gx22, gx23, gx24⟩ := blk5 hx2; have sz2 := hx2.lt; replace hb2 := below_then' (a := w) (B := w.heap.size) (by (repeat' (first | (with_reducible exact Below.refl _ _) | (with_reducible assumption) | (with_reducible refine Below.drew ?_) | (with_reducible refine below_drewN ?_ _) | (with_reducible refine Below.alloc ?_ ?_ _) | (with_reducible refine Below.setCell ?_ ?_ _) | omega | (simp; done) | (simp; omega)))) hb2 (by first | omega | (simp; done) | (simp; omega)); have hb2s := hb2.size)
      | ((go_at_call 36; (with_reducible refine (hm _ (hx.below (b := w.heap.size) (by (repeat' (first | (with_reducible exact Below.refl _ _) | (with_reducible assumption) | (with_reducible refine Below.drew ?_) | (with_reducible refine below_drewN ?_ _) | (with_reducible refine Below.alloc ?_ ?_ _) | (with_reducible refine Below.setCell ?_ ?_ _) | omega | (simp; done) | (simp; omega)))) (Nat.le_refl _))).mono ?_); rintro e w3 ⟨rfl, hb3⟩); have hx3 := Blk.below (w' := w3) (g := w.heap.size) (t := 42) (cs := [.slice x.A1 x.n1 x.c1, .slice x.A2 x.n2 x.c2, .int .i64 p.regs, .slice x.A3 x.n3 x.c3, .slice x.A4 x.n4 x.c4]) (by (repeat' (first | (with_reducible assumption) | (with_reducible refine Blk.top _ (by first | rfl | omega | (simp; done) | (simp; omega)) rfl) | (with_reducible refine Blk.alloc ?_ _) | (with_reducible refine Blk.drew ?_) | (with_reducible refine Blk.drewN ?_ _) | (with_reducible refine Blk.far ?_ (by first | omega | (simp; done) | (simp; omega)) _)))) hb3 (by first | omega | (simp; done) | (simp; omega)); obtain ⟨gx30, gx31, gx32, gx33, gx34⟩ := blk5 hx3; have sz3 := hx3.lt; replace hb3 := below_then' (a := w) (B := w.heap.size) (by (repeat' (first | (with_reducible exact Below.refl _ _) | (with_reducible assumption) | (with_reducible refine Below.drew ?_) | (with_reducible refine below_drewN ?_ _) | (with_reducible refine Below.alloc ?_ ?_ _) | (with_reducible refine Below.setCell ?_ ?_ _) | omega | (simp; done) | (simp; omega)))) hb3 (by first | omega | (simp; done) | (simp; omega)); have hb3s := hb3.size))
    go_ret
    exact ⟨ret_bool (by first | rfl | (simp; done)), (by (repeat' (first | (with_reducible exact Below.refl _ _) | (with_reducible assumption) | (with_reducible refine Below.drew ?_) | (with_reducible refine below_drewN ?_ _) | (with_reducible refine Below.alloc ?_ ?_ _) | (with_reducible refine Below.setCell ?_ ?_ _) | omega | (simp; done) | (simp; omega))))⟩
  | true =>
    have hok' := fun w h => hok w h hmb
    have hby' := fun w h => hby w h hmb
    rw [hmb] at hm
    clear hmb hno hok hby hw
    generalize progBs p = L at *
    generalize fnv L % 9223372036854775808 = z at *
    go_enter Try.func12, Try.ntmps12
    go_wp2_with (first
      | ((go_at_call 49; (with_reducible refine (awake32 _).mono ?_); rintro e w1 ⟨rfl, hb1⟩); have hx1 := Blk.below (w' := w1) (g := w.heap.size) (t := 42) (cs := [.slice x.A1 x.n1 x.c1, .slice x.A2 x.n2 x.c2, .int .i64 p.regs, .slice x.A3 x.n3 x.c3, .slice x.A4 x.n4 x.c4]) (by (repeat' (first | (with_reducible assumption) | (with_reducible refine Blk.top _ (by first | rfl | omega | (simp; done) | (simp; omega)) rfl) | (with_reducible refine Blk.alloc ?_ _) | (with_reducible refine Blk.drew ?_) | (with_reducible refine Blk.drewN ?_ _) | (with_reducible refine Blk.far ?_ (by first | omega | (simp; done) | (simp; omega)) _)))) hb1 (by first | omega | (simp; done) | (simp; omega)); obtain ⟨gx10, gx11, gx12, gx13, gx14⟩ := blk5 hx1; have sz1 := hx1.lt; replace hb1 := below_then' (a := w) (B := w.heap.size) (by (repeat' (first | (with_reducible exact Below.refl _ _) | (with_reducible assumption) | (with_reducible refine Below.drew ?_) | (with_reducible refine below_drewN ?_ _) | (with_reducible refine Below.alloc ?_ ?_ _) | (with_reducible refine Below.setCell ?_ ?_ _) | omega | (simp; done) | (simp; omega)))) hb1 (by first | omega | (simp; done) | (simp; omega)); have hb1s := hb1.size)
      | ((go_at_call 50; (with_reducible refine (hok' _ (hx.below (b := w.heap.size) (by (repeat' (first | (with_reducible exact Below.refl _ _) | (with_reducible assumption) | (with_reducible refine Below.drew ?_) | (with_reducible refine below_drewN ?_ _) | (with_reducible refine Below.alloc ?_ ?_ _) | (with_reducible refine Below.setCell ?_ ?_ _) | omega | (simp; done) | (simp; omega)))) (Nat.le_refl _))).mono ?_); rintro e w2 ⟨rfl, hb2⟩); have hx2 := Blk.below (w' := w2) (g := w.heap.size) (t := 42) (cs := [.slice x.A1 x.n1 x.c1, .slice x.A2 x.n2 x.c2, .int .i64 p.regs, .slice x.A3 x.n3 x.c3, .slice x.A4 x.n4 x.c4]) (by (repeat' (first | (with_reducible assumption) | (with_reducible refine Blk.top _ (by first | rfl | omega | (simp; done) | (simp; omega)) rfl) | (with_reducible refine Blk.alloc ?_ _) | (with_reducible refine Blk.drew ?_) | (with_reducible refine Blk.drewN ?_ _) | (with_reducible refine Blk.far ?_ (by first | omega | (simp; done) | (simp; omega)) _)))) hb2 (by first | omega | (simp; done) | (simp; omega)); obtain ⟨gx20, gx21, gx22, gx23, gx24⟩ := blk5 hx2; have sz2 := hx2.lt; replace hb2 := below_then' (a := w) (B := w.heap.size) (by (repeat' (first | (with_reducible exact Below.refl _ _) | (with_reducible assumption) | (with_reducible refine Below.drew ?_) | (with_reducible refine below_drewN ?_ _) | (with_reducible refine Below.alloc ?_ ?_ _) | (with_reducible refine Below.setCell ?_ ?_ _) | omega | (simp; done) | (simp; omega)))) hb2 (by first | omega | (simp; done) | (simp; omega)); have hb2s := hb2.size)
      | ((go_at_call 36; (with_reducible refine (hm _ (hx.below (b := w.heap.size) (by (repeat' (first | (with_reducible exact Below.refl _ _) | (with_reducible assumption) | (with_reducible refine Below.drew ?_) | (with_reducible refine below_drewN ?_ _) | (with_reducible refine Below.alloc ?_ ?_ _) | (with_reducible refine Below.setCell ?_ ?_ _) | omega | (simp; done) | (simp; omega)))) (Nat.le_refl _))).mono ?_); rintro e w3 ⟨rfl, hb3⟩); have hx3 := Blk.below (w' := w3) (g := w.heap.size) (t := 42) (cs := [.slice x.A1 x.n1 x.c1, .slice x.A2 x.n2 x.c2, .int .i64 p.regs, .slice x.A3 x.n3 x.c3, .slice x.A4 x.n4 x.c4]) (by (repeat' (first | (with_reducible assumption) | (with_reducible refine Blk.top _ (by first | rfl | omega | (simp; done) | (simp; omega)) rfl) | (with_reducible refine Blk.alloc ?_ _) | (with_reducible refine Blk.drew ?_) | (with_reducible refine Blk.drewN ?_ _) | (with_reducible refine Blk.far ?_ (by first | omega | (simp; done) | (simp; omega)) _)))) hb3 (by first | omega | (simp; done) | (simp; omega)); obtain ⟨gx30, gx31, gx32, gx33, gx34⟩ := blk5 hx3; have sz3 := hx3.lt; replace hb3 := below_then' (a := w) (B := w.heap.size) (by (repeat' (first | (with_reducible exact Below.refl _ _) | (with_reducible assumption) | (with_reducible refine Below.drew ?_) | (with_reducible refine below_drewN ?_ _) | (with_reducible refine Below.alloc ?_ ?_ _) | (with_reducible refine Below.setCell ?_ ?_ _) | omega | (simp; done) | (simp; omega)))) hb3 (by first | omega | (simp; done) | (simp; omega)); have hb3s := hb3.size)
      | ((go_at_call 46; (with_reducible refine (hby' _ (hx.below (b := w.heap.size) (by (repeat' (first | (with_reducible exact Below.refl _ _) | (with_reducible assumption) | (with_reducible refine Below.drew ?_) | (with_reducible refine below_drewN ?_ _) | (with_reducible refine Below.alloc ?_ ?_ _) | (with_reducible refine Below.setCell ?_ ?_ _) | omega | (simp; done) | (simp; omega)))) (Nat.le_refl _))).mono ?_); rintro e w4 ⟨A4, N4, c4, rfl, own4, hb4⟩); have hcp := own4.cap; have hN : N4 ≤ maxLen := (by omega); replace hb4 := below_then' (a := w) (B := w.heap.size) (by (repeat' (first | (with_reducible exact Below.refl _ _) | (with_reducible assumption) | (with_reducible refine Below.drew ?_) | (with_reducible refine below_drewN ?_ _) | (with_reducible refine Below.alloc ?_ ?_ _) | (with_reducible refine Below.setCell ?_ ?_ _) | omega | (simp; done) | (simp; omega)))) hb4 (by first | omega | (simp; done) | (simp; omega)); have hb4s := hb4.size)
      | ((go_at_call 51; (with_reducible refine (hrd _ _ _ _ own4.rd.rb hN).mono ?_); rintro e w5 ⟨rfl, hb5⟩); replace hb5 := below_then' (a := w) (B := w.heap.size) (by (repeat' (first | (with_reducible exact Below.refl _ _) | (with_reducible assumption) | (with_reducible refine Below.drew ?_) | (with_reducible refine below_drewN ?_ _) | (with_reducible refine Below.alloc ?_ ?_ _) | (with_reducible refine Below.setCell ?_ ?_ _) | omega | (simp; done) | (simp; omega)))) hb5 (by first | omega | (simp; done) | (simp; omega)); have hb5s := hb5.size))
    go_ret
    exact ⟨ret_bool (by first | rfl | (simp; done)), (by (repeat' (first | (with_reducible exact Below.refl _ _) | (with_reducible assumption) | (with_reducible refine Below.drew ?_) | (with_reducible refine below_drewN ?_ _) | (with_reducible refine Below.alloc ?_ ?_ _) | (with_reducible refine Below.setCell ?_ ?_ _) | omega | (simp; done) | (simp; omega))))⟩

theorem walk (w : World) (v0 : Value) (h0 : ∃ x p, v0 = .agg #[.slice x.A1 x.n1 x.c1, .slice x.A2 x.n2 x.c2, .int .i64 p.regs, .slice x.A3 x.n3 x.c3, .slice x.A4 x.n4 x.c4] ∧ ProgRd w x p ∧ ProgAll p) :
    Calls Try.prog 12 #[v0] w fun e w' => e = .returned (.bool true) ∧ Below w.heap.size w w' := by
  obtain ⟨x, p, rfl, hx, hp⟩ := h0
  by_cases h : FewD x
  · exact walk_small x p w hx hp h
  · exact walk_big x p w hx h

--FRAME tompionlaw32 DigestOf digestOf walk raw:tompion/api.Program:args_prog:.agg‹_›#[.slice‹_›none‹_›0‹_›0,‹_›.slice‹_›none‹_›0‹_›0,‹_›.int‹_›.i64‹_›0,‹_›.slice‹_›none‹_›0‹_›0,‹_›.slice‹_›none‹_›0‹_›0]
theorem own : ownKnob Try.prog.godebug = none := by kernel_rfl
theorem laidOut : laidOutB Try.prog = true := by kernel_rfl

set_option maxRecDepth 100000 in
theorem lifted (os : Os) (started : os.Started) (H : Type) (enc : TypeId × Value → H) :
    ReturnsInHanded {} Try.checked os 12 .any (Rows.digestOfSpec.pre6 enc Try.prog Try.f12 Rows.digestOfRow.domain false) (Rows.digestOfSpec.post enc Try.prog Try.f12 false true false false) := by
  refine returnsInHanded_of_change (C := Try.checked) own started (by kernel_rfl) Try.func12
    (ChangeSpec.witness6 (enc := enc) (C := Try.checked) false ⟨#[], #[.agg #[.slice none 0 0, .slice none 0 0, .int .i64 0, .slice none 0 0, .slice none 0 0]], []⟩ 8 (by kernel_rfl) (by kernel_rfl) (by kernel_rfl) (by kernel_rfl)) ?_
  intro W base args ds gs before hval0 hW hcnd _
  have hval : ∀ (j : Nat) t v, Try.f12.params[j]? = some t → args[j]? = some v → Value.okWide Try.prog W .any base t v := hval0
  have hW' := hW
  obtain ⟨p, q, hA0, hV, rfl, hfz, hnd⟩ := hW
  have hA : DataW.TrodAll enc Try.prog W 0 (fun _ => true) true Try.f12.params.toList args.toList ds p := hA0
  rw [Try.params12] at hA hval
  obtain ⟨v0, vs0, d0, ds0, p0, q0, hargs, rfl, rfl, h0, rr0⟩ := trodAll_cons hA
  obtain ⟨rfl, rfl, rfl⟩ := trodAll_nil rr0
  obtain rfl : args = #[v0] := by cases args; simp_all
  obtain ⟨rfl, rfl⟩ := trodVars_none hV
  have k0 := h0
  have lt0 : ∀ x ∈ p0, x.block < W.heap.size := by obtain ⟨m, hm⟩ := k0; exact DataW.trod_lt m _ _ _ hm
  have x0 := args_prog (hval 0 42 v0 rfl rfl) h0
  clear hA0 hval0
  refine (walk W v0 x0).mono fun e W' ⟨he, bel⟩ => ?_
  subst he
  exact ⟨_, rfl, _, _, _, [], _, [], hW', trodAll_mk1 (shut_bool Try.underlying4 _), (trodAll_cons_mk (Below.trod laidOut (by kernel_rfl) (of_decide_eq_true (by kernel_rfl)) k0 bel lt0) trodAll_mk0), rfl, bel.frame _, fun h => by cases h⟩

theorem over : Rows.digestOfRow.holds Try.pinned (OpenSpec.ofChange Rows.digestOfSpec) :=
  OpenClaim.holds_of_wide 12 Try.f12 rfl rfl rfl rfl rfl rfl rfl ⟨rfl, rfl, rfl, rfl, rfl⟩ rfl rfl rfl rfl rfl (by kernel_rfl) Try.func12 (by kernel_rfl)
    (of_decide_eq_true (by kernel_rfl)) (by unfold Func.isWrapper; first | (rw [if_pos (by decide +kernel)]; kernel_rfl) | (rw [if_neg (by decide +kernel)]; exact ⟨rfl, rfl⟩))
    (fun os started H enc _ => lifted os started H enc)

theorem proved : Rows.DigestOfSaid := over
--ENDFRAME
end Go.Proofs.Ythplicnidknphaa.digestOf
