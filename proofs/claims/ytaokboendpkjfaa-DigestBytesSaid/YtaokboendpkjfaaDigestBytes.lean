/- DigestBytes: the digest of any bytes is the document's. -/
import Derived.Test.YtaokboendpkjfaaDigLawA
import Derived.Test.YtaokboendpkjfaaRefDigB
import Derived.Test.YtaokboendpkjfaaFrame
namespace Go.Proofs.Ytaokboendpkjfaa.digestBytes
open Go.ChangeShapes Go.WideShapes Go.ChangeAt Go.RowKit
set_option linter.unusedVariables false

theorem walk (w : World) (A : Option Addr) (m c : Nat) (l : List UInt8) (r : RB w A m l) (nc : m ≤ c) (cm : c ≤ maxLen) :
    Calls Try.prog 11 #[.slice A m c] w fun e w' => e = .returned (.bool true) ∧ Below w.heap.size w w' := by
  unfold maxLen at cm
  by_cases h : m ≤ 40
  · have h1 := fun w hl => dbytes_any A m c l w hl (by unfold maxLen; omega)
    have h2 := fun w hl => refdbytes_any A m c l w hl (by unfold maxLen; omega)
    generalize fnv l % 9223372036854775808 = z at *
    have hz : ¬ ((z : Nat) : Int) < 0 := by omega
    go_enter Try.func11, Try.ntmps11
    go_wp2_with (first
      | ((go_at_call 35; (with_reducible refine (awake32 _).mono ?_); rintro e w1 ⟨rfl, hb1⟩); have hb1s := hb1.size)
      | (go_at_call 36; (with_reducible refine (h1 _ (r.below (B := w.heap.size) (by (repeat' (first | (with_reducible exact Below.refl _ _) | (with_reducible assumption) | (with_reducible refine Below.drew ?_) | (with_reducible refine below_drewN ?_ _) | (with_reducible refine Below.alloc ?_ ?_ _) | (with_reducible refine Below.setCell ?_ ?_ _) | omega | (simp; done) | (simp; omega)))) (Nat.le_refl _))).mono ?_); rintro e w2 ⟨rfl, rfl⟩)
      | ((go_at_call 37; (with_reducible refine (h2 _ (r.below (B := w.heap.size) (by (repeat' (first | (with_reducible exact Below.refl _ _) | (with_reducible assumption) | (with_reducible refine Below.drew ?_) | (with_reducible refine below_drewN ?_ _) | (with_reducible refine Below.alloc ?_ ?_ _) | (with_reducible refine Below.setCell ?_ ?_ _) | omega | (simp; done) | (simp; omega)))) (Nat.le_refl _))).mono ?_); rintro e w3 ⟨rfl, hb3⟩); replace hb3 := below_then' (a := w) (B := w.heap.size) (by (repeat' (first | (with_reducible exact Below.refl _ _) | (with_reducible assumption) | (with_reducible refine Below.drew ?_) | (with_reducible refine below_drewN ?_ _) | (with_reducible refine Below.alloc ?_ ?_ _) | (with_reducible refine Below.setCell ?_ ?_ _) | omega | (simp; done) | (simp; omega)))) hb3 (by first | omega | (simp; done) | (simp; omega)); have hb3s := hb3.size))
    go_ret
    exact ⟨rfl, (by (repeat' (first | (with_reducible exact Below.refl _ _) | (with_reducible assumption) | (with_reducible refine Below.drew ?_) | (with_reducible refine below_drewN ?_ _) | (with_reducible refine Below.alloc ?_ ?_ _) | (with_reducible refine Below.setCell ?_ ?_ _) | omega | (simp; done) | (simp; omega))))⟩
  · go_enter Try.func11, Try.ntmps11
    go_wp2_with (go_at_call 35; (with_reducible refine (awake32 _).mono ?_); rintro e w1 ⟨rfl, hb⟩)
    go_ret
    exact ⟨rfl, hb⟩

--FRAME tompionlaw32 DigestBytes digestBytes walk bytes
theorem own : ownKnob Try.prog.godebug = none := by kernel_rfl
theorem laidOut : laidOutB Try.prog = true := by kernel_rfl

set_option maxRecDepth 100000 in
theorem lifted (os : Os) (started : os.Started) (H : Type) (enc : TypeId × Value → H) :
    ReturnsInHanded {} Try.checked os 11 .any (Rows.digestBytesSpec.pre6 enc Try.prog Try.f11 Rows.digestBytesRow.domain false) (Rows.digestBytesSpec.post enc Try.prog Try.f11 false true false false) := by
  refine returnsInHanded_of_change (C := Try.checked) own started (by kernel_rfl) Try.func11
    (ChangeSpec.witness6 (enc := enc) (C := Try.checked) false ⟨#[], #[.slice none 0 0], []⟩ 8 (by kernel_rfl) (by kernel_rfl) (by kernel_rfl) (by kernel_rfl)) ?_
  intro W base args ds gs before hval0 hW hcnd _
  have hval : ∀ (j : Nat) t v, Try.f11.params[j]? = some t → args[j]? = some v → Value.okWide Try.prog W .any base t v := hval0
  have hW' := hW
  obtain ⟨p, q, hA0, hV, rfl, hfz, hnd⟩ := hW
  have hA : DataW.TrodAll enc Try.prog W 0 (fun _ => true) true Try.f11.params.toList args.toList ds p := hA0
  rw [Try.params11] at hA hval
  obtain ⟨v0, vs0, d0, ds0, p0, q0, hargs, rfl, rfl, h0, rr0⟩ := trodAll_cons hA
  obtain ⟨rfl, rfl, rfl⟩ := trodAll_nil rr0
  obtain rfl : args = #[v0] := by cases args; simp_all
  obtain ⟨rfl, rfl⟩ := trodVars_none hV
  have k0 := h0
  have lt0 : ∀ x ∈ p0, x.block < W.heap.size := by obtain ⟨m, hm⟩ := k0; exact DataW.trod_lt m _ _ _ hm
  obtain ⟨A0, n0, c0, l0, rfl, r0, nc0, cm0⟩ := args_bytes Try.underlying22 Try.underlying5 (by kernel_rfl) (hval 0 22 v0 rfl rfl) h0
  clear hA0 hval0
  refine (walk W A0 n0 c0 l0 r0 nc0 cm0).mono fun e W' ⟨he, bel⟩ => ?_
  subst he
  exact ⟨_, rfl, _, _, _, [], _, [], hW', trodAll_mk1 (shut_bool Try.underlying4 _), (trodAll_cons_mk (Below.trod laidOut (by kernel_rfl) (of_decide_eq_true (by kernel_rfl)) k0 bel lt0) trodAll_mk0), rfl, bel.frame _, fun h => by cases h⟩

theorem over : Rows.digestBytesRow.holds Try.pinned (OpenSpec.ofChange Rows.digestBytesSpec) :=
  OpenClaim.holds_of_wide 11 Try.f11 rfl rfl rfl rfl rfl rfl rfl ⟨rfl, rfl, rfl, rfl, rfl⟩ rfl rfl rfl rfl rfl (by kernel_rfl) Try.func11 (by kernel_rfl)
    (of_decide_eq_true (by kernel_rfl)) (by unfold Func.isWrapper; first | (rw [if_pos (by decide +kernel)]; kernel_rfl) | (rw [if_neg (by decide +kernel)]; exact ⟨rfl, rfl⟩))
    (fun os started H enc _ => lifted os started H enc)

theorem proved : Rows.DigestBytesSaid := over
--ENDFRAME
end Go.Proofs.Ytaokboendpkjfaa.digestBytes
