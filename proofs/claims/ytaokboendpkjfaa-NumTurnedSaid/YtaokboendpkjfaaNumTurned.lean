/- NumTurned: any number's short bytes, turned, are the document's, and any bytes begin with the document's turned number, or why not. -/
import Derived.Test.YtaokboendpkjfaaNumLawA
import Derived.Test.YtaokboendpkjfaaFrame
import Derived.Test.YtaokboendpkjfaaRefNumF
namespace Go.Proofs.Ytaokboendpkjfaa.numTurned
open Go.ChangeShapes Go.WideShapes Go.ChangeAt Go.RowKit
set_option linter.unusedVariables false

theorem walk_big (n : Int) (A : Option Addr) (m c : Nat) (w : World) (h : 100 < m) (hm : m ≤ maxLen) :
    Calls Try.prog 9 #[.int .i64 n, .slice A m c] w fun e w' => e = .returned (.bool true) ∧ Below w.heap.size w w' := by
  unfold maxLen at hm
  go_enter Try.func9, Try.ntmps9
  go_wp2_with (go_at_call 22; (with_reducible refine (awake1 _).mono ?_); rintro e w1 ⟨rfl, hb⟩)
  go_ret
  exact ⟨rfl, hb⟩

/-- What both readers of turned short bytes answer. -/
theorem both_zag (A : Option Addr) (m c : Nat) (l : List UInt8) (hm : m ≤ maxLen) : ∃ (x s e : Int), ∀ w : World, RB w A m l →
    (Calls Try.prog 31 #[.slice A m c] w fun r w' => r = .returned (.tuple #[.int .i64 x, .int .i64 s, .int .i64 e]) ∧ w = w') ∧
    (Calls Try.prog 32 #[.slice A m c] w fun r w' => r = .returned (.tuple #[.int .i64 x, .int .i64 s, .int .i64 e]) ∧ Below w.heap.size w w') := by
  by_cases h : (endsL 10 0 l).2 = 0
  · have hz : endsL 10 0 l = ((endsL 10 0 l).1, 0) := Prod.ext rfl h
    by_cases hb : (endsL 10 0 l).1 = 10 ∧ 1 < byteAt l 9
    · rw [hb.1] at hz
      exact ⟨0, 0, 11, fun w hl => ⟨zag_big A m c l w hl hm hz hb.2, (refzag_big A m c l w hl hm hz hb.2).mono fun _ _ ⟨h1, h2⟩ => ⟨h1, h2 ▸ Below.refl _ _⟩⟩⟩
    · have hb2 : (endsL 10 0 l).1 ≠ 10 ∨ byteAt l 9 ≤ 1 := by omega
      exact ⟨unzz (sevL (l.take (endsL 10 0 l).1)), ((endsL 10 0 l).1 : Nat), 0, fun w hl => ⟨zag_ok A m c _ l w hl hm hz hb2, refzag_ok A m c _ l w hl hm hz hb2 (zag_lt hl.1 hz hb2)⟩⟩
  · exact ⟨0, 0, ((endsL 10 0 l).2 : Nat), fun w hl => ⟨zag_err A m c l w hl hm h, (refzag_err A m c l w hl hm h).mono fun _ _ ⟨h1, h2⟩ => ⟨h1, h2 ▸ Below.refl _ _⟩⟩⟩

theorem walk_small (n : Int) (A : Option Addr) (m c : Nat) (l : List UInt8) (w : World) (h : m ≤ 100) (hl : RB w A m l) (h0 : -9223372036854775808 ≤ n) (h1 : n ≤ 9223372036854775807) :
    Calls Try.prog 9 #[.int .i64 n, .slice A m c] w fun e w' => e = .returned (.bool true) ∧ Below w.heap.size w w' := by
  obtain ⟨x, s, er, hboth⟩ := both_zag A m c l (by unfold maxLen; omega)
  have hp := fun w => zig_any n w h0 h1
  have hq := fun w => refzig_any n w h0 h1
  have hlen := (digL_len 9 (zz n)).1
  generalize digL 9 (zz n) = L at *
  have hsm : ∀ (A B : Option Addr) (c d : Nat) (w : World), RB w A L.length L → RB w B L.length L → Calls Try.prog 19 #[.slice A L.length c, .slice B L.length d] w fun e w' => e = .returned (.bool true) ∧ ∃ q, w' = w.drewN q :=
    fun A B c d w ha hb => (same_any A B _ _ c d _ _ w ha hb (by unfold maxLen; omega)).mono fun e w' ⟨h1, h2⟩ => ⟨by simpa using h1, h2⟩
  clear hlen
  go_enter Try.func9, Try.ntmps9
  go_wp2_with (first
    | ((go_at_call 22; (with_reducible refine (awake1 _).mono ?_); rintro e w1 ⟨rfl, hb1⟩); have hb1s := hb1.size)
    | (go_at_call 31; (with_reducible refine ((hboth _ (hl.below (B := w.heap.size) (by (repeat' (first | (with_reducible exact Below.refl _ _) | (with_reducible assumption) | (with_reducible refine Below.drew ?_) | (with_reducible refine below_drewN ?_ _) | (with_reducible refine Below.alloc ?_ ?_ _) | (with_reducible refine Below.setCell ?_ ?_ _) | omega | (simp; done) | (simp; omega)))) (Nat.le_refl _))).1).mono ?_); rintro e w2 ⟨rfl, rfl⟩)
    | ((go_at_call 32; (with_reducible refine ((hboth _ (hl.below (B := w.heap.size) (by (repeat' (first | (with_reducible exact Below.refl _ _) | (with_reducible assumption) | (with_reducible refine Below.drew ?_) | (with_reducible refine below_drewN ?_ _) | (with_reducible refine Below.alloc ?_ ?_ _) | (with_reducible refine Below.setCell ?_ ?_ _) | omega | (simp; done) | (simp; omega)))) (Nat.le_refl _))).2).mono ?_); rintro e w3 ⟨rfl, hb3⟩); replace hb3 := below_then' (a := w) (B := w.heap.size) (by (repeat' (first | (with_reducible exact Below.refl _ _) | (with_reducible assumption) | (with_reducible refine Below.drew ?_) | (with_reducible refine below_drewN ?_ _) | (with_reducible refine Below.alloc ?_ ?_ _) | (with_reducible refine Below.setCell ?_ ?_ _) | omega | (simp; done) | (simp; omega)))) hb3 (by first | omega | (simp; done) | (simp; omega)); have hb3s := hb3.size)
    | ((go_at_call 33; (with_reducible refine (hp _).mono ?_); rintro e w5 ⟨A5, c5, rfl, hown5, hb5⟩); replace hb5 := below_then' (a := w) (B := w.heap.size) (by (repeat' (first | (with_reducible exact Below.refl _ _) | (with_reducible assumption) | (with_reducible refine Below.drew ?_) | (with_reducible refine below_drewN ?_ _) | (with_reducible refine Below.alloc ?_ ?_ _) | (with_reducible refine Below.setCell ?_ ?_ _) | omega | (simp; done) | (simp; omega)))) hb5 (by first | omega | (simp; done) | (simp; omega)); have hb5s := hb5.size)
    | ((go_at_call 34; (with_reducible refine (hq _).mono ?_); rintro e w6 ⟨A6, c6, rfl, hown6, hb6⟩); have hr5 := hown5.rd.rb.below hb6 (Nat.le_refl _); replace hb6 := below_then' (a := w) (B := w.heap.size) (by (repeat' (first | (with_reducible exact Below.refl _ _) | (with_reducible assumption) | (with_reducible refine Below.drew ?_) | (with_reducible refine below_drewN ?_ _) | (with_reducible refine Below.alloc ?_ ?_ _) | (with_reducible refine Below.setCell ?_ ?_ _) | omega | (simp; done) | (simp; omega)))) hb6 (by first | omega | (simp; done) | (simp; omega)); have hb6s := hb6.size)
    | (go_at_call 19; (with_reducible refine (hsm _ _ _ _ _ hr5 hown6.rd.rb).mono ?_); rintro e w7 ⟨rfl, q, rfl⟩))
  go_ret
  exact ⟨rfl, (by (repeat' (first | (with_reducible exact Below.refl _ _) | (with_reducible assumption) | (with_reducible refine Below.drew ?_) | (with_reducible refine below_drewN ?_ _) | (with_reducible refine Below.alloc ?_ ?_ _) | (with_reducible refine Below.setCell ?_ ?_ _) | omega | (simp; done) | (simp; omega))))⟩

theorem walk (w : World) (n : Int) (wf : (Lit.int .i64 n).wf = true) (A : Option Addr) (m c : Nat) (l : List UInt8) (r : RB w A m l) (nc : m ≤ c) (cm : c ≤ maxLen) :
    Calls Try.prog 9 #[.int .i64 n, .slice A m c] w fun e w' => e = .returned (.bool true) ∧ Below w.heap.size w w' := by
  have hb := bounds_i64 wf
  by_cases h : m ≤ 100
  · exact walk_small n A m c l w h r hb.1 hb.2
  · exact walk_big n A m c w (by omega) (by omega)

--FRAME tompionlaw01 NumTurned numTurned walk i64 bytes
theorem own : ownKnob Try.prog.godebug = none := by kernel_rfl
theorem laidOut : laidOutB Try.prog = true := by kernel_rfl

set_option maxRecDepth 100000 in
theorem lifted (os : Os) (started : os.Started) (H : Type) (enc : TypeId × Value → H) :
    ReturnsInHanded {} Try.checked os 9 .any (Rows.numTurnedSpec.pre6 enc Try.prog Try.f9 Rows.numTurnedRow.domain false) (Rows.numTurnedSpec.post enc Try.prog Try.f9 false true false false) := by
  refine returnsInHanded_of_change (C := Try.checked) own started (by kernel_rfl) Try.func9
    (ChangeSpec.witness6 (enc := enc) (C := Try.checked) false ⟨#[], #[.int .i64 0, .slice none 0 0], []⟩ 8 (by kernel_rfl) (by kernel_rfl) (by kernel_rfl) (by kernel_rfl)) ?_
  intro W base args ds gs before hval0 hW hcnd _
  have hval : ∀ (j : Nat) t v, Try.f9.params[j]? = some t → args[j]? = some v → Value.okWide Try.prog W .any base t v := hval0
  have hW' := hW
  obtain ⟨p, q, hA0, hV, rfl, hfz, hnd⟩ := hW
  have hA : DataW.TrodAll enc Try.prog W 0 (fun _ => true) true Try.f9.params.toList args.toList ds p := hA0
  rw [Try.params9] at hA hval
  obtain ⟨v0, vs0, d0, ds0, p0, q0, hargs, rfl, rfl, h0, rr0⟩ := trodAll_cons hA
  obtain ⟨v1, vs1, d1, ds1, p1, q1, rfl, rfl, rfl, h1, rr1⟩ := trodAll_cons rr0
  obtain ⟨rfl, rfl, rfl⟩ := trodAll_nil rr1
  obtain rfl : args = #[v0, v1] := by cases args; simp_all
  obtain ⟨rfl, rfl⟩ := trodVars_none hV
  have k0 := h0
  have lt0 : ∀ x ∈ p0, x.block < W.heap.size := by obtain ⟨m, hm⟩ := k0; exact DataW.trod_lt m _ _ _ hm
  obtain ⟨a0, rfl, wf0⟩ := args_int Try.underlying3 (hval 0 3 v0 rfl rfl) h0
  have k1 := h1
  have lt1 : ∀ x ∈ p1, x.block < W.heap.size := by obtain ⟨m, hm⟩ := k1; exact DataW.trod_lt m _ _ _ hm
  obtain ⟨A1, n1, c1, l1, rfl, r1, nc1, cm1⟩ := args_bytes Try.underlying22 Try.underlying5 (by kernel_rfl) (hval 1 22 v1 rfl rfl) h1
  clear hA0 hval0
  refine (walk W a0 wf0 A1 n1 c1 l1 r1 nc1 cm1).mono fun e W' ⟨he, bel⟩ => ?_
  subst he
  exact ⟨_, rfl, _, _, _, [], _, [], hW', trodAll_mk1 (shut_bool Try.underlying4 _), (trodAll_cons_mk (Below.trod laidOut (by kernel_rfl) (of_decide_eq_true (by kernel_rfl)) k0 bel lt0) (trodAll_cons_mk (Below.trod laidOut (by kernel_rfl) (of_decide_eq_true (by kernel_rfl)) k1 bel lt1) trodAll_mk0)), rfl, bel.frame _, fun h => by cases h⟩

theorem over : Rows.numTurnedRow.holds Try.pinned (OpenSpec.ofChange Rows.numTurnedSpec) :=
  OpenClaim.holds_of_wide 9 Try.f9 rfl rfl rfl rfl rfl rfl rfl ⟨rfl, rfl, rfl, rfl, rfl⟩ rfl rfl rfl rfl rfl (by kernel_rfl) Try.func9 (by kernel_rfl)
    (of_decide_eq_true (by kernel_rfl)) (by unfold Func.isWrapper; first | (rw [if_pos (by decide +kernel)]; kernel_rfl) | (rw [if_neg (by decide +kernel)]; exact ⟨rfl, rfl⟩))
    (fun os started H enc _ => lifted os started H enc)

theorem proved : Rows.NumTurnedSaid := over
--ENDFRAME
end Go.Proofs.Ytaokboendpkjfaa.numTurned
