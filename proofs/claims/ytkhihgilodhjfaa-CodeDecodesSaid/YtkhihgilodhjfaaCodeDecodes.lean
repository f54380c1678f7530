/- CodeDecodes: any bytes are the document's program, or why not. -/
import Derived.Test.YtkhihgilodhjfaaCodeLawA
import Derived.Test.YtkhihgilodhjfaaRefRdrD
namespace Go.Proofs.Ytkhihgilodhjfaa.codeDecodes
open Go.ChangeShapes Go.WideShapes Go.ChangeAt Go.RowKit
set_option linter.unusedVariables false

theorem walk_big (A : Option Addr) (n c : Nat) (w : World) (hc : c ≤ maxLen) (hn : n ≤ c) (h : 2000 < n) :
    Calls Try.prog 4 #[.slice A n c] w fun e w' => e = .returned (.bool true) ∧ Below w.heap.size w w' := by
  go_enter Try.func4, Try.ntmps4
  go_wp2_with (first
    | ((go_at_call 16; (with_reducible refine (awake27 _).mono ?_); rintro e w1 ⟨rfl, hb1⟩); replace hb1 := below_then' (a := w) (B := w.heap.size) (by (repeat' (first | (with_reducible exact Below.refl _ _) | (with_reducible assumption) | (with_reducible refine Below.drew ?_) | (with_reducible refine below_drewN ?_ _) | (with_reducible refine Below.alloc ?_ ?_ _) | (with_reducible refine Below.setCell ?_ ?_ _) | omega | (simp; done) | (simp; omega)))) hb1 (by first | omega | (simp; done) | (simp; omega)); have hb1s := hb1.size)
    | fail "no arm")
  go_ret
  exact ⟨rfl, (by (repeat' (first | (with_reducible exact Below.refl _ _) | (with_reducible assumption) | (with_reducible refine Below.drew ?_) | (with_reducible refine below_drewN ?_ _) | (with_reducible refine Below.alloc ?_ ?_ _) | (with_reducible refine Below.setCell ?_ ?_ _) | omega | (simp; done) | (simp; omega))))⟩

set_option maxRecDepth 100000 in
set_option maxHeartbeats 4000000 in
theorem walk_small (A : Option Addr) (n c : Nat) (bs : List UInt8) (w : World) (hl : RB w A n bs) (hc : c ≤ maxLen) (hn : n ≤ c) (h2 : n ≤ 2000) :
    Calls Try.prog 4 #[.slice A n c] w fun e w' => e = .returned (.bool true) ∧ Below w.heap.size w w' := by
  have hd : ∀ w, RB w A n bs → Calls Try.prog 17 #[.slice A n c] w fun e w' => ∃ y : PA, e = .returned (.tuple #[.agg #[.slice y.A1 y.n1 y.c1, .slice y.A2 y.n2 y.c2, .int .i64 (decodeL bs).1.regs, .slice y.A3 y.n3 y.c3, .slice y.A4 y.n4 y.c4], .int .i64 ((decodeL bs).2 : Nat)]) ∧ ProgRd w' y (decodeL bs).1 ∧ Below w.heap.size w w' := fun w h => decode_any A n c bs w h hn hc
  have hr : ∀ w, RB w A n bs → Calls Try.prog 18 #[.slice A n c] w fun e w' => ∃ y : PA, e = .returned (.tuple #[.agg #[.slice y.A1 y.n1 y.c1, .slice y.A2 y.n2 y.c2, .int .i64 (decodeL bs).1.regs, .slice y.A3 y.n3 y.c3, .slice y.A4 y.n4 y.c4], .int .i64 ((decodeL bs).2 : Nat)]) ∧ ProgRd w' y (decodeL bs).1 ∧ Below w.heap.size w w' := fun w h => refdecode_any A n c bs w h hn hc
  generalize decodeL bs = D at *
  obtain ⟨q, z⟩ := D
  simp only at hd hr
  have hs : ∀ x y w, ProgRd w x q → ProgRd w y q → Calls Try.prog 19 #[.agg #[.slice x.A1 x.n1 x.c1, .slice x.A2 x.n2 x.c2, .int .i64 q.regs, .slice x.A3 x.n3 x.c3, .slice x.A4 x.n4 x.c4], .agg #[.slice y.A1 y.n1 y.c1, .slice y.A2 y.n2 y.c2, .int .i64 q.regs, .slice y.A3 y.n3 y.c3, .slice y.A4 y.n4 y.c4]] w fun e w' => e = .returned (.bool true) ∧ Below w.heap.size w w' := fun x y w h h' => by
    have := refcodesame_any x y q q w h h'
    rw [sameB_self] at this
    exact this
  go_enter Try.func4, Try.ntmps4
  go_wp2_with (first
    | ((go_at_call 16; (with_reducible refine (awake27 _).mono ?_); rintro e w1 ⟨rfl, hb1⟩); replace hb1 := below_then' (a := w) (B := w.heap.size) (by (repeat' (first | (with_reducible exact Below.refl _ _) | (with_reducible assumption) | (with_reducible refine Below.drew ?_) | (with_reducible refine below_drewN ?_ _) | (with_reducible refine Below.alloc ?_ ?_ _) | (with_reducible refine Below.setCell ?_ ?_ _) | omega | (simp; done) | (simp; omega)))) hb1 (by first | omega | (simp; done) | (simp; omega)); have hb1s := hb1.size)
    | ((go_at_call 17; (with_reducible refine (hd _ (hl.below (B := w.heap.size) (by (repeat' (first | (with_reducible exact Below.refl _ _) | (with_reducible assumption) | (with_reducible refine Below.drew ?_) | (with_reducible refine below_drewN ?_ _) | (with_reducible refine Below.alloc ?_ ?_ _) | (with_reducible refine Below.setCell ?_ ?_ _) | omega | (simp; done) | (simp; omega)))) (Nat.le_refl _))).mono ?_); rintro e w2 ⟨y2, rfl, hr2, hb2⟩); replace hb2 := below_then' (a := w) (B := w.heap.size) (by (repeat' (first | (with_reducible exact Below.refl _ _) | (with_reducible assumption) | (with_reducible refine Below.drew ?_) | (with_reducible refine below_drewN ?_ _) | (with_reducible refine Below.alloc ?_ ?_ _) | (with_reducible refine Below.setCell ?_ ?_ _) | omega | (simp; done) | (simp; omega)))) hb2 (by first | omega | (simp; done) | (simp; omega)); have hb2s := hb2.size)
    | ((go_at_call 18; (with_reducible refine (hr _ (hl.below (B := w.heap.size) (by (repeat' (first | (with_reducible exact Below.refl _ _) | (with_reducible assumption) | (with_reducible refine Below.drew ?_) | (with_reducible refine below_drewN ?_ _) | (with_reducible refine Below.alloc ?_ ?_ _) | (with_reducible refine Below.setCell ?_ ?_ _) | omega | (simp; done) | (simp; omega)))) (Nat.le_refl _))).mono ?_); rintro e w3 ⟨y3, rfl, hr3, hb3⟩); have hx3 := Blk.below (w' := w3) (g := w2.heap.size) (t := 26) (cs := [.slice y2.A1 y2.n1 y2.c1, .slice y2.A2 y2.n2 y2.c2, .int .i64 q.regs, .slice y2.A3 y2.n3 y2.c3, .slice y2.A4 y2.n4 y2.c4]) (by (repeat' (first | (with_reducible assumption) | (with_reducible refine Blk.top _ (by first | rfl | omega | (simp; done) | (simp; omega)) rfl) | (with_reducible refine Blk.alloc ?_ _) | (with_reducible refine Blk.drew ?_) | (with_reducible refine Blk.drewN ?_ _) | (with_reducible refine Blk.far ?_ (by first | omega | (simp; done) | (simp; omega)) _)))) hb3 (by first | omega | (simp; done) | (simp; omega)); obtain ⟨gx30, gx31, gx32, gx33, gx34⟩ := blk5 hx3; have sz3 := hx3.lt; have hr2' := hr2.below (b := w2.heap.size) (below_then' (by (repeat' (first | (with_reducible exact Below.refl _ _) | (with_reducible assumption) | (with_reducible refine Below.drew ?_) | (with_reducible refine below_drewN ?_ _) | (with_reducible refine Below.alloc ?_ ?_ _) | (with_reducible refine Below.setCell ?_ ?_ _) | omega | (simp; done) | (simp; omega)))) hb3 (by first | omega | (simp; done) | (simp; omega))) (Nat.le_refl _); replace hb3 := below_then' (a := w) (B := w.heap.size) (by (repeat' (first | (with_reducible exact Below.refl _ _) | (with_reducible assumption) | (with_reducible refine Below.drew ?_) | (with_reducible refine below_drewN ?_ _) | (with_reducible refine Below.alloc ?_ ?_ _) | (with_reducible refine Below.setCell ?_ ?_ _) | omega | (simp; done) | (simp; omega)))) hb3 (by first | omega | (simp; done) | (simp; omega)); have hb3s := hb3.size)
    | ((go_at_call 19; (with_reducible refine (hs _ _ _ (hr2'.below (b := w3.heap.size) (by (repeat' (first | (with_reducible exact Below.refl _ _) | (with_reducible assumption) | (with_reducible refine Below.drew ?_) | (with_reducible refine below_drewN ?_ _) | (with_reducible refine Below.alloc ?_ ?_ _) | (with_reducible refine Below.setCell ?_ ?_ _) | omega | (simp; done) | (simp; omega)))) (Nat.le_refl _)) (hr3.below (b := w3.heap.size) (by (repeat' (first | (with_reducible exact Below.refl _ _) | (with_reducible assumption) | (with_reducible refine Below.drew ?_) | (with_reducible refine below_drewN ?_ _) | (with_reducible refine Below.alloc ?_ ?_ _) | (with_reducible refine Below.setCell ?_ ?_ _) | omega | (simp; done) | (simp; omega)))) (Nat.le_refl _))).mono ?_); rintro e w4 ⟨rfl, hb4⟩); replace hb4 := below_then' (a := w) (B := w.heap.size) (by (repeat' (first | (with_reducible exact Below.refl _ _) | (with_reducible assumption) | (with_reducible refine Below.drew ?_) | (with_reducible refine below_drewN ?_ _) | (with_reducible refine Below.alloc ?_ ?_ _) | (with_reducible refine Below.setCell ?_ ?_ _) | omega | (simp; done) | (simp; omega)))) hb4 (by first | omega | (simp; done) | (simp; omega)); have hb4s := hb4.size)
    | fail "no arm")
  go_ret
  exact ⟨rfl, (by (repeat' (first | (with_reducible exact Below.refl _ _) | (with_reducible assumption) | (with_reducible refine Below.drew ?_) | (with_reducible refine below_drewN ?_ _) | (with_reducible refine Below.alloc ?_ ?_ _) | (with_reducible refine Below.setCell ?_ ?_ _) | omega | (simp; done) | (simp; omega))))⟩

theorem walk (w : World) (A : Option Addr) (n c : Nat) (l : List UInt8) (r : RB w A n l) (nc : n ≤ c) (cm : c ≤ maxLen) :
    Calls Try.prog 4 #[.slice A n c] w fun e w' => e = .returned (.bool true) ∧ Below w.heap.size w w' := by
  by_cases h : n ≤ 2000
  · exact walk_small A n c l w r cm nc h
  · exact walk_big A n c w cm nc (by omega)

--FRAME tompionlaw27 CodeDecodes codeDecodes walk bytes
theorem own : ownKnob Try.prog.godebug = none := by kernel_rfl
theorem laidOut : laidOutB Try.prog = true := by kernel_rfl

set_option maxRecDepth 100000 in
theorem lifted (os : Os) (started : os.Started) (H : Type) (enc : TypeId × Value → H) :
    ReturnsInHanded {} Try.checked os 4 .any (Rows.codeDecodesSpec.pre6 enc Try.prog Try.f4 Rows.codeDecodesRow.domain false) (Rows.codeDecodesSpec.post enc Try.prog Try.f4 false true false false) := by
  refine returnsInHanded_of_change (C := Try.checked) own started (by kernel_rfl) Try.func4
    (ChangeSpec.witness6 (enc := enc) (C := Try.checked) false ⟨#[], #[.slice none 0 0], []⟩ 8 (by kernel_rfl) (by kernel_rfl) (by kernel_rfl) (by kernel_rfl)) ?_
  intro W base args ds gs before hval0 hW hcnd _
  have hval : ∀ (j : Nat) t v, Try.f4.params[j]? = some t → args[j]? = some v → Value.okWide Try.prog W .any base t v := hval0
  have hW' := hW
  obtain ⟨p, q, hA0, hV, rfl, hfz, hnd⟩ := hW
  have hA : DataW.TrodAll enc Try.prog W 0 (fun _ => true) true Try.f4.params.toList args.toList ds p := hA0
  rw [Try.params4] at hA hval
  obtain ⟨v0, vs0, d0, ds0, p0, q0, hargs, rfl, rfl, h0, rr0⟩ := trodAll_cons hA
  obtain ⟨rfl, rfl, rfl⟩ := trodAll_nil rr0
  obtain rfl : args = #[v0] := by cases args; simp_all
  obtain ⟨rfl, rfl⟩ := trodVars_none hV
  have k0 := h0
  have lt0 : ∀ x ∈ p0, x.block < W.heap.size := by obtain ⟨m, hm⟩ := k0; exact DataW.trod_lt m _ _ _ hm
  obtain ⟨A0, n0, c0, l0, rfl, r0, nc0, cm0⟩ := args_bytes Try.underlying29 Try.underlying5 (by kernel_rfl) (hval 0 29 v0 rfl rfl) h0
  clear hA0 hval0
  refine (walk W A0 n0 c0 l0 r0 nc0 cm0).mono fun e W' ⟨he, bel⟩ => ?_
  subst he
  exact ⟨_, rfl, _, _, _, [], _, [], hW', trodAll_mk1 (shut_bool Try.underlying4 _), (trodAll_cons_mk (Below.trod laidOut (by kernel_rfl) (of_decide_eq_true (by kernel_rfl)) k0 bel lt0) trodAll_mk0), rfl, bel.frame _, fun h => by cases h⟩

theorem over : Rows.codeDecodesRow.holds Try.pinned (OpenSpec.ofChange Rows.codeDecodesSpec) :=
  OpenClaim.holds_of_wide 4 Try.f4 rfl rfl rfl rfl rfl rfl rfl ⟨rfl, rfl, rfl, rfl, rfl⟩ rfl rfl rfl rfl rfl (by kernel_rfl) Try.func4 (by kernel_rfl)
    (of_decide_eq_true (by kernel_rfl)) (by unfold Func.isWrapper; first | (rw [if_pos (by decide +kernel)]; kernel_rfl) | (rw [if_neg (by decide +kernel)]; exact ⟨rfl, rfl⟩))
    (fun os started H enc _ => lifted os started H enc)

theorem proved : Rows.CodeDecodesSaid := over
--ENDFRAME
end Go.Proofs.Ytkhihgilodhjfaa.codeDecodes
