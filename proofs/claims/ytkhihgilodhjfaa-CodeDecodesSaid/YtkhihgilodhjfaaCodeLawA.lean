/- The chapter's example of code, and small contracts of its laws. -/
import Derived.Test.YtkhihgilodhjfaaCodeD
import Derived.Test.YtkhihgilodhjfaaCodeF
import Derived.Test.YtkhihgilodhjfaaCodeJ
import Derived.Test.YtkhihgilodhjfaaSame
import Derived.Test.YtkhihgilodhjfaaArgsProg
namespace Go.Proofs.Ytkhihgilodhjfaa
open Go.RowKit

theorem ProgAll.wf {p : PV} (h : ProgAll p) : ProgWf p :=
  ⟨fun x hx => (h.cells x hx).2, fun x hx => ⟨(h.code x hx).2.1.2, (h.code x hx).2.2.1.2, (h.code x hx).2.2.2.1.2, (h.code x hx).2.2.2.2.1, (h.code x hx).2.2.2.2.2⟩⟩
theorem awake27 (w : World) : Calls Try.prog 16 #[] w fun e w' => e = .returned (.bool true) ∧ Below w.heap.size w w' := by
  have d1 : progBs ⟨[1], [1], 0, [], []⟩ = [1, 1, 1, 1, 0, 0, 0] := by decide +kernel
  have d2 : mayB ⟨[1], [1], 0, [], []⟩ = true := by decide +kernel
  have hE : ∀ (w : World) (g1 g2 : Nat), RI w (some ⟨g1, 0, none⟩) 1 [1] → RI w (some ⟨g2, 0, none⟩) 1 [1] → Calls Try.prog 21 #[.agg #[.slice (some ⟨g1, 0, none⟩) 1 1, .slice (some ⟨g2, 0, none⟩) 1 1, .int .i64 0, .slice none 0 0, .slice none 0 0]] w
      fun e w' => ∃ A N c, e = .returned (.tuple #[.slice A N c, .int .i64 0]) ∧ OB w' w.heap.size 5 A N c [1, 1, 1, 1, 0, 0, 0] ∧ Below w.heap.size w w' := fun w g1 g2 h1 h2 => by
    have h := encode_ok ⟨some ⟨g1, 0, none⟩, 1, 1, some ⟨g2, 0, none⟩, 1, 1, none, 0, 0, none, 0, 0⟩ ⟨[1], [1], 0, [], []⟩ w
      ⟨h1, h2, ⟨rfl, rfl, Row.nil _ _ _⟩, ⟨rfl, rfl, Row.nil _ _ _⟩, ⟨Nat.le_refl _, by simp [maxLen]⟩, ⟨Nat.le_refl _, by simp [maxLen]⟩, ⟨Nat.le_refl _, by simp [maxLen]⟩, ⟨Nat.le_refl _, by simp [maxLen]⟩⟩ ⟨by simp, by simp⟩ d2
    rw [d1] at h
    exact h
  have hsm1 : ∀ (A B : Option Addr) (n c d : Nat) (w : World), RB w A n [1, 1, 1, 1, 0, 0, 0] → RB w B 7 [1, 1, 1, 1, 0, 0, 0] → Calls Try.prog 15 #[.slice A n c, .slice B 7 d] w fun e w' => e = .returned (.bool true) ∧ ∃ q, w' = w.drewN q :=
    fun A B n c d w ha hb => (same_any A B n 7 c d _ _ w ha hb (by have := ha.1; simp at this; unfold maxLen; omega)).mono fun e w' ⟨h1, h2⟩ => ⟨by simpa using h1, h2⟩
  clear d1 d2
  have n1 : ∀ (w : World), RB (w.alloc (.cells #[.int .u8 1, .int .u8 1, .int .u8 1, .int .u8 1, .int .u8 0, .int .u8 0, .int .u8 0] 5)) (some ⟨w.heap.size, 0, none⟩) 7 [1, 1, 1, 1, 0, 0, 0] := fun w => RB.of_block (l := [1, 1, 1, 1, 0, 0, 0]) (heap_top _ _ rfl) rfl
  have n2 : ∀ (w : World) (o : Obj), RI ((w.alloc (.cells #[.int .i64 1] 3)).alloc o) (some ⟨w.heap.size, 0, none⟩) 1 [1] := fun w o => (Rd.of_block (enc := iv) (l := [1]) (heap_old _ _ _ (heap_top _ _ rfl)) rfl).ri
  have n3 : ∀ (w : World) (g : Nat), g = w.heap.size → RI (w.alloc (.cells #[.int .i64 1] 3)) (some ⟨g, 0, none⟩) 1 [1] := fun w g h => (Rd.of_block (enc := iv) (l := [1]) (heap_top _ _ h) rfl).ri
  go_enter Try.func16, Try.ntmps16
  go_wp2_with (first
    | ((go_at_call 21; (with_reducible refine (hE _ _ _ (n2 _ _) (n3 _ _ (by simp))).mono ?_); rintro e w1 ⟨A1, N1, c1, rfl, hown1, hb1⟩); replace hb1 := below_then' (a := w) (B := w.heap.size) (by (repeat' (first | (with_reducible exact Below.refl _ _) | (with_reducible assumption) | (with_reducible refine Below.drew ?_) | (with_reducible refine below_drewN ?_ _) | (with_reducible refine Below.alloc ?_ ?_ _) | (with_reducible refine Below.setCell ?_ ?_ _) | omega | (simp; done) | (simp; omega)))) hb1 (by first | omega | (simp; done) | (simp; omega)); have hb1s := hb1.size)
    | (go_at_call 15; (with_reducible refine (hsm1 _ _ _ _ _ _ (hown1.rd.rb.below (B := w1.heap.size) (by (repeat' (first | (with_reducible exact Below.refl _ _) | (with_reducible assumption) | (with_reducible refine Below.drew ?_) | (with_reducible refine below_drewN ?_ _) | (with_reducible refine Below.alloc ?_ ?_ _) | (with_reducible refine Below.setCell ?_ ?_ _) | omega | (simp; done) | (simp; omega)))) (Nat.le_refl _)) (n1 _)).mono ?_); rintro e w2 ⟨rfl, q2, rfl⟩))
  go_ret
  exact ⟨rfl, (by (repeat' (first | (with_reducible exact Below.refl _ _) | (with_reducible assumption) | (with_reducible refine Below.drew ?_) | (with_reducible refine below_drewN ?_ _) | (with_reducible refine Below.alloc ?_ ?_ _) | (with_reducible refine Below.setCell ?_ ?_ _) | omega | (simp; done) | (simp; omega))))⟩

def fewP (x : PA) : Prop := x.n1 ≤ 20 ∧ x.n2 ≤ 20 ∧ x.n3 ≤ 80 ∧ x.n4 ≤ 400
theorem few27_yes (x : PA) (r : Int) (w : World) (h : fewP x) : Calls Try.prog 20 #[.agg #[.slice x.A1 x.n1 x.c1, .slice x.A2 x.n2 x.c2, .int .i64 r, .slice x.A3 x.n3 x.c3, .slice x.A4 x.n4 x.c4]] w fun e w' => e = .returned (.bool true) ∧ Below w.heap.size w w' := by
  obtain ⟨h1, h2, h3, h4⟩ := h
  go_enter Try.func20, Try.ntmps20
  go_wp2
  go_ret
  exact ⟨ret_bool (by first | rfl | (simp; done) | (simp; omega)), (by (repeat' (first | (with_reducible exact Below.refl _ _) | (with_reducible assumption) | (with_reducible refine Below.drew ?_) | (with_reducible refine below_drewN ?_ _) | (with_reducible refine Below.alloc ?_ ?_ _) | (with_reducible refine Below.setCell ?_ ?_ _) | omega | (simp; done) | (simp; omega))))⟩
theorem few27_no (x : PA) (p : PV) (w : World) (hr : ProgRd w x p) (h : ¬ fewP x) : Calls Try.prog 20 #[.agg #[.slice x.A1 x.n1 x.c1, .slice x.A2 x.n2 x.c2, .int .i64 p.regs, .slice x.A3 x.n3 x.c3, .slice x.A4 x.n4 x.c4]] w fun e w' => e = .returned (.bool false) ∧ Below w.heap.size w w' := by
  obtain ⟨_, _, _, _, k1, k2, k3, k4⟩ := hr
  unfold maxLen at k1 k2 k3 k4
  unfold fewP at h
  have hc : 20 < x.n1 ∨ (x.n1 ≤ 20 ∧ 20 < x.n2) ∨ (x.n1 ≤ 20 ∧ x.n2 ≤ 20 ∧ 80 < x.n3) ∨ (x.n1 ≤ 20 ∧ x.n2 ≤ 20 ∧ x.n3 ≤ 80 ∧ 400 < x.n4) := by omega
  have j1 : x.n1 ≤ 9223372036854775807 := by omega
  have j2 : x.n2 ≤ 9223372036854775807 := by omega
  have j3 : x.n3 ≤ 9223372036854775807 := by omega
  have j4 : x.n4 ≤ 9223372036854775807 := by omega
  clear h k1 k2 k3 k4
  rcases hc with h1 | h1 | h1 | h1
  case' inr.inl => have h2 := h1.1; have h3 := h1.2
  case' inr.inr.inl => have h2 := h1.1; have h3 := h1.2.1; have h4 := h1.2.2
  case' inr.inr.inr => have h2 := h1.1; have h3 := h1.2.1; have h4 := h1.2.2.1; have h5 := h1.2.2.2
  all_goals
    go_enter Try.func20, Try.ntmps20
    go_wp2
    go_ret
    exact ⟨ret_bool (by first | rfl | (simp; done) | (simp; omega)), (by (repeat' (first | (with_reducible exact Below.refl _ _) | (with_reducible assumption) | (with_reducible refine Below.drew ?_) | (with_reducible refine below_drewN ?_ _) | (with_reducible refine Below.alloc ?_ ?_ _) | (with_reducible refine Below.setCell ?_ ?_ _) | omega | (simp; done) | (simp; omega))))⟩
end Go.Proofs.Ytkhihgilodhjfaa
