/- The chapter's example of state, small contracts of its laws, and a snapshot as an argument. -/
import Derived.Test.YtkhihgilodhjfaaStateC
import Derived.Test.YtkhihgilodhjfaaSame
import Derived.Test.YtkhihgilodhjfaaArgsProg
namespace Go.Proofs.Ytkhihgilodhjfaa
open Go.ChangeShapes Go.WideShapes Go.RowKit Go.Deep

section
variable {H : Type} {enc : TypeId × Value → H} {w : World} {base b0 : Nat} {held : Bool} {r : Reach} {v : Value} {d : DataW H} {ps : List MemPlace}
structure SnapAll (s : SV) : Prop where
  tick : I64 s.tick
  hash : I64 s.hash
  cells : ∀ z ∈ s.cells, I64 z
set_option maxRecDepth 100000 in
theorem args_snap (hval : Value.okWide Try.prog w r b0 28 v) (hd : DataW.Trod enc Try.prog w base (fun _ => true) held 28 v d ps) :
    ∃ s B m d, v = .agg #[.int .i64 s.tick, .int .i64 s.hash, .slice B m d] ∧ RI w B m s.cells ∧ m ≤ d ∧ d ≤ maxLen ∧ SnapAll s := by
  obtain ⟨vs, n, rfl, hlen, hf⟩ := open_agg Try.underlying28 (by kernel_rfl) (by kernel_rfl) hval hd
  match vs, hlen with
  | [v0, v1, v2], _ =>
    obtain ⟨u0, y0, e0, t0⟩ := hf 0 _ rfl
    obtain ⟨u1, y1, e1, t1⟩ := hf 1 _ rfl
    obtain ⟨u2, y2, e2, t2⟩ := hf 2 _ rfl
    injection e0 with e0; injection e1 with e1; injection e2 with e2
    subst e0 e1 e2
    obtain ⟨z0, hz0, _, hw0⟩ := DataW.trod_int Try.underlying3 t0
    obtain ⟨z1, hz1, _, hw1⟩ := DataW.trod_int Try.underlying3 t1
    have hz0 : v0 = .int .i64 z0 := by simpa using hz0
    have hz1 : v1 = .int .i64 z1 := by simpa using hz1
    subst hz0 hz1
    obtain ⟨A1, n1, c1, l1, rfl, r1, k1, m1, w1⟩ := trod_ints Try.underlying22 Try.underlying3 (by kernel_rfl) t2
    exact ⟨⟨z0, z1, l1⟩, A1, n1, c1, rfl, r1, k1, m1, bounds_i64 hw0, bounds_i64 hw1, w1⟩
end

theorem awake34 (w : World) : Calls Try.prog 9 #[] w fun e w' => e = .returned (.bool true) ∧ Below w.heap.size w w' := by
  have d1 : stBs ⟨1, 2, []⟩ = [1, 0, 0, 0, 0, 0, 0, 0, 2, 0, 0, 0, 0, 0, 0, 0] := by decide +kernel
  have d2 : stFits ⟨[1], [1], 0, [], []⟩ ⟨1, 2, []⟩ = true := by decide +kernel
  have hE : ∀ (w : World) (g1 g2 : Nat), RI w (some ⟨g1, 0, none⟩) 1 [1] → RI w (some ⟨g2, 0, none⟩) 1 [1] → Calls Try.prog 11 #[.agg #[.slice (some ⟨g1, 0, none⟩) 1 1, .slice (some ⟨g2, 0, none⟩) 1 1, .int .i64 0, .slice none 0 0, .slice none 0 0], .agg #[.int .i64 1, .int .i64 2, .slice none 0 0]] w
      fun e w' => ∃ A N c, e = .returned (.tuple #[.slice A N c, .int .i64 0]) ∧ OB w' w.heap.size 5 A N c [1, 0, 0, 0, 0, 0, 0, 0, 2, 0, 0, 0, 0, 0, 0, 0] ∧ Below w.heap.size w w' := fun w g1 g2 h1 h2 => by
    have h := statewrite_ok ⟨some ⟨g1, 0, none⟩, 1, 1, some ⟨g2, 0, none⟩, 1, 1, none, 0, 0, none, 0, 0⟩ ⟨[1], [1], 0, [], []⟩ 1 2 none 0 0 [] w
      ⟨h1, h2, ⟨rfl, rfl, Row.nil _ _ _⟩, ⟨rfl, rfl, Row.nil _ _ _⟩, ⟨Nat.le_refl _, by simp [maxLen]⟩, ⟨Nat.le_refl _, by simp [maxLen]⟩, ⟨Nat.le_refl _, by simp [maxLen]⟩, ⟨Nat.le_refl _, by simp [maxLen]⟩⟩ ⟨rfl, Row.nil _ _ _⟩ (by simp) d2
    rw [d1] at h
    exact h
  clear d1 d2
  have n2 : ∀ (w : World) (o : Obj), RI ((w.alloc (.cells #[.int .i64 1] 3)).alloc o) (some ⟨w.heap.size, 0, none⟩) 1 [1] := fun w o => (Rd.of_block (enc := iv) (l := [1]) (heap_old _ _ _ (heap_top _ _ rfl)) rfl).ri
  have n3 : ∀ (w : World) (g : Nat), g = w.heap.size → RI (w.alloc (.cells #[.int .i64 1] 3)) (some ⟨g, 0, none⟩) 1 [1] := fun w g h => (Rd.of_block (enc := iv) (l := [1]) (heap_top _ _ h) rfl).ri
  go_enter Try.func9, Try.ntmps9
  go_wp2_with ((go_at_call 11; (with_reducible refine (hE _ _ _ (n2 _ _) (n3 _ _ (by simp))).mono ?_); rintro e w1 ⟨A1, N1, c1, rfl, hown1, hb1⟩); obtain rfl : N1 = 16 := hown1.1.symm; obtain ⟨g, rfl, _, _⟩ := hown1.addr (by omega); have hr := hown1.rd.rb; have k0 : w1.cell? ⟨g, 0, none⟩ = some (.int .u8 1) := (by obtain ⟨b, o, e, _, hc⟩ := hr.at_ (k := 0) (by omega); injection e with e; injection e with e1 e2 _; subst e1 e2; exact hc); have k8 : w1.cell? ⟨g, 8, none⟩ = some (.int .u8 2) := (by obtain ⟨b, o, e, _, hc⟩ := hr.at_ (k := 8) (by omega); injection e with e; injection e with e1 e2 _; subst e1 e2; exact hc); replace hb1 := below_then' (a := w) (B := w.heap.size) (by (repeat' (first | (with_reducible exact Below.refl _ _) | (with_reducible assumption) | (with_reducible refine Below.drew ?_) | (with_reducible refine below_drewN ?_ _) | (with_reducible refine Below.alloc ?_ ?_ _) | (with_reducible refine Below.setCell ?_ ?_ _) | omega | (simp; done) | (simp; omega)))) hb1 (by first | omega | (simp; done) | (simp; omega)); have hb1s := hb1.size)
  go_ret
  exact ⟨rfl, (by (repeat' (first | (with_reducible exact Below.refl _ _) | (with_reducible assumption) | (with_reducible refine Below.drew ?_) | (with_reducible refine below_drewN ?_ _) | (with_reducible refine Below.alloc ?_ ?_ _) | (with_reducible refine Below.setCell ?_ ?_ _) | omega | (simp; done) | (simp; omega))))⟩

def fewS (x : PA) (m : Nat) : Prop := x.n1 ≤ 20 ∧ x.n2 ≤ 20 ∧ x.n3 ≤ 80 ∧ x.n4 ≤ 100 ∧ m ≤ 100
theorem few34_yes (x : PA) (r t h : Int) (B : Option Addr) (m d : Nat) (w : World) (hf : fewS x m) : Calls Try.prog 10 #[.agg #[.slice x.A1 x.n1 x.c1, .slice x.A2 x.n2 x.c2, .int .i64 r, .slice x.A3 x.n3 x.c3, .slice x.A4 x.n4 x.c4], .agg #[.int .i64 t, .int .i64 h, .slice B m d]] w fun e w' => e = .returned (.bool true) ∧ Below w.heap.size w w' := by
  obtain ⟨h1, h2, h3, h4, h5⟩ := hf
  go_enter Try.func10, Try.ntmps10
  go_wp2
  go_ret
  exact ⟨ret_bool (by first | rfl | (simp; done) | (simp; omega)), (by (repeat' (first | (with_reducible exact Below.refl _ _) | (with_reducible assumption) | (with_reducible refine Below.drew ?_) | (with_reducible refine below_drewN ?_ _) | (with_reducible refine Below.alloc ?_ ?_ _) | (with_reducible refine Below.setCell ?_ ?_ _) | omega | (simp; done) | (simp; omega))))⟩
theorem few34_no (x : PA) (p : PV) (t h : Int) (B : Option Addr) (m d : Nat) (w : World) (hr : ProgRd w x p) (hm : m ≤ maxLen) (hf : ¬ fewS x m) : Calls Try.prog 10 #[.agg #[.slice x.A1 x.n1 x.c1, .slice x.A2 x.n2 x.c2, .int .i64 p.regs, .slice x.A3 x.n3 x.c3, .slice x.A4 x.n4 x.c4], .agg #[.int .i64 t, .int .i64 h, .slice B m d]] w fun e w' => e = .returned (.bool false) ∧ Below w.heap.size w w' := by
  obtain ⟨_, _, _, _, k1, k2, k3, k4⟩ := hr
  unfold maxLen at k1 k2 k3 k4 hm
  unfold fewS at hf
  have hc : 20 < x.n1 ∨ (x.n1 ≤ 20 ∧ 20 < x.n2) ∨ (x.n1 ≤ 20 ∧ x.n2 ≤ 20 ∧ 80 < x.n3) ∨ (x.n1 ≤ 20 ∧ x.n2 ≤ 20 ∧ x.n3 ≤ 80 ∧ 100 < x.n4) ∨ (x.n1 ≤ 20 ∧ x.n2 ≤ 20 ∧ x.n3 ≤ 80 ∧ x.n4 ≤ 100 ∧ 100 < m) := by omega
  have j1 : x.n1 ≤ 9223372036854775807 := by omega
  have j2 : x.n2 ≤ 9223372036854775807 := by omega
  have j3 : x.n3 ≤ 9223372036854775807 := by omega
  have j4 : x.n4 ≤ 9223372036854775807 := by omega
  have j5 : m ≤ 9223372036854775807 := by omega
  clear hf k1 k2 k3 k4 hm
  rcases hc with h1 | h1 | h1 | h1 | h1
  case' inr.inl => have h2 := h1.1; have h3 := h1.2
  case' inr.inr.inl => have h2 := h1.1; have h3 := h1.2.1; have h4 := h1.2.2
  case' inr.inr.inr.inl => have h2 := h1.1; have h3 := h1.2.1; have h4 := h1.2.2.1; have h5 := h1.2.2.2
  case' inr.inr.inr.inr => have h2 := h1.1; have h3 := h1.2.1; have h4 := h1.2.2.1; have h5 := h1.2.2.2.1; have h6 := h1.2.2.2.2
  all_goals
    go_enter Try.func10, Try.ntmps10
    go_wp2
    go_ret
    exact ⟨ret_bool (by first | rfl | (simp; done) | (simp; omega)), (by (repeat' (first | (with_reducible exact Below.refl _ _) | (with_reducible assumption) | (with_reducible refine Below.drew ?_) | (with_reducible refine below_drewN ?_ _) | (with_reducible refine Below.alloc ?_ ?_ _) | (with_reducible refine Below.setCell ?_ ?_ _) | omega | (simp; done) | (simp; omega))))⟩
end Go.Proofs.Ytkhihgilodhjfaa
