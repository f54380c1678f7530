/- CrcMore: a sum goes on with what stands behind, wherever a text is cut. -/
import Derived.Test.YtaokboendpkjfaaCrcLawA
import Derived.Test.YtaokboendpkjfaaFrame
namespace Go.Proofs.Ytaokboendpkjfaa.crcMore
open Go.ChangeShapes Go.WideShapes Go.ChangeAt Go.RowKit
set_option linter.unusedVariables false

theorem walk_big (A0 A1 : Option Addr) (n0 c0 n1 c1 : Nat) (w : World) (h : 1000 < n0 ∨ 1000 < n1) (h0 : n0 ≤ maxLen) (h1 : n1 ≤ maxLen) :
    Calls Try.prog 3 #[.slice A0 n0 c0, .slice A1 n1 c1] w fun e w' => e = .returned (.bool true) ∧ Below w.heap.size w w' := by
  unfold maxLen at h0 h1
  by_cases h2 : 1000 < n0
  all_goals
    go_enter Try.func3, Try.ntmps3
    go_wp2_with (go_at_call 15; (with_reducible refine (awake2 _).mono ?_); rintro e w1 ⟨rfl, hb⟩)
    go_ret
    exact ⟨rfl, hb⟩

theorem crcMore_append (s : Nat) (a b : List UInt8) (hs : s < 4294967296) : crcMore (crcMore s a) b = crcMore s (a ++ b) := by
  have := crcFold_lt a (c := 4294967295 - s) (by omega)
  unfold crcMore
  rw [crcFold_append, show 4294967295 - (4294967295 - crcFold (4294967295 - s) a) = crcFold (4294967295 - s) a from by omega]
theorem crcSum_more (a b : List UInt8) : crcMore (crcSum [a]) b = crcSum [a ++ b] := crcMore_append 0 a b (by omega)
theorem crcSum_two (a b : List UInt8) : crcSum [a, b] = crcSum [a ++ b] := crcMore_append 0 a b (by omega)

theorem walk_small (A0 A1 : Option Addr) (n0 c0 n1 c1 : Nat) (l0 l1 : List UInt8) (w : World) (h0 : n0 ≤ 1000) (h1 : n1 ≤ 1000) (hr0 : RB w A0 n0 l0) (hr1 : RB w A1 n1 l1) :
    Calls Try.prog 3 #[.slice A0 n0 c0, .slice A1 n1 c1] w fun e w' => e = .returned (.bool true) ∧ Below w.heap.size w w' := by
  go_enter Try.func3, Try.ntmps3
  go_wp2_with (first
    | (go_at_call 15; (with_reducible refine (awake2 _).mono ?_); rintro e w1 ⟨rfl, hb⟩; have hs1 := hb.size)
    | (at_builtin; refine wpList_app rfl rfl elemU8 bv_one (s := .tmp 16) (N := n0) (L := l0) rfl (Ow.new _ _ #[] [] rfl (by decide)) rfl (B := A0) (hr0.below (B := w.heap.size) (by (repeat' (first | (with_reducible exact Below.refl _ _) | (with_reducible assumption) | (with_reducible refine Below.drew ?_) | (with_reducible refine below_drewN ?_ _) | (with_reducible refine Below.alloc ?_ ?_ _) | (with_reducible refine Below.setCell ?_ ?_ _) | omega | (simp; done) | (simp; omega)))) (Nat.le_refl _)).rd (by simp) (by simp) (by unfold maxLen; omega) (by omega) (by simp) ?_; intro A2 c2 w2 hown2 hg2 hat2 hb2; have hs2 := hb2.size; simp at hs2)
    | (at_builtin; go_loud (refine wpList_app rfl rfl elemU8 bv_one (s := .tmp 18) (N := n0 + n1) (L := l0 ++ l1) rfl hown2 rfl (B := A1) (hr1.below (B := w.heap.size) (Below.trans (b := w1.alloc (Obj.cells #[] 5)) (by (repeat' (first | (with_reducible exact Below.refl _ _) | (with_reducible assumption) | (with_reducible refine Below.drew ?_) | (with_reducible refine below_drewN ?_ _) | (with_reducible refine Below.alloc ?_ ?_ _) | (with_reducible refine Below.setCell ?_ ?_ _) | omega | (simp; done) | (simp; omega)))) (hb2.mono (by omega))) (Nat.le_refl _)).rd rfl rfl (by unfold maxLen; omega) (by omega) (by omega) ?_); intro A3 c3 w3 hown3 hg3 hat3 hb3))
  have hW : Below w.heap.size w w3 := Below.trans (Below.trans (b := w1.alloc (Obj.cells #[] 5)) (by (repeat' (first | (with_reducible exact Below.refl _ _) | (with_reducible assumption) | (with_reducible refine Below.drew ?_) | (with_reducible refine below_drewN ?_ _) | (with_reducible refine Below.alloc ?_ ?_ _) | (with_reducible refine Below.setCell ?_ ?_ _) | omega | (simp; done) | (simp; omega)))) (hb2.mono (by omega))) (hb3.mono (by omega))
  have hs3 := hb3.size
  have hr3 := hown3.rd.rb
  have e1 : (((crcMore (crcSum [l0]) l1 : Nat) : Int) == ((crcSum [l0 ++ l1] : Nat) : Int)) = true := by rw [beq_iff_eq, crcSum_more]
  have e2 : (((crcSum [l0, l1] : Nat) : Int) == ((crcSum [l0 ++ l1] : Nat) : Int)) = true := by rw [beq_iff_eq, crcSum_two]
  have e3 : (((crcMore 0 l0 : Nat) : Int) == ((crcSum [l0] : Nat) : Int)) = true := by rw [beq_iff_eq]; rfl
  clear hb hb2 hb3 hg2 hat2 hown2 hg3 hat3 hown3
  have hm0 : n0 ≤ maxLen := by unfold maxLen; omega
  have hm1 : n1 ≤ maxLen := by unfold maxLen; omega
  have hm2 : n0 + n1 ≤ maxLen := by unfold maxLen; omega
  have hlt := crcSum_lt [l0]
  go_wp2_with (first
    | (go_at_call 17; (with_reducible refine (sum_any _ _ _ [l0] _ (RBs.one (heap_top _ _ (by simp)) (hr0.below (B := w.heap.size) (by (repeat' (first | (with_reducible exact Below.refl _ _) | (with_reducible assumption) | (with_reducible refine Below.drew ?_) | (with_reducible refine below_drewN ?_ _) | (with_reducible refine Below.alloc ?_ ?_ _) | (with_reducible refine Below.setCell ?_ ?_ _) | omega | (simp; done) | (simp; omega)))) (Nat.le_refl _)) hm0) (by decide)).mono ?_); rintro e w' ⟨rfl, rfl⟩)
    | (go_at_call 17; (with_reducible refine (sum_any _ _ _ [l0 ++ l1] _ (RBs.one (heap_top _ _ (by simp)) (hr3.below (B := w3.heap.size) (by (repeat' (first | (with_reducible exact Below.refl _ _) | (with_reducible assumption) | (with_reducible refine Below.drew ?_) | (with_reducible refine below_drewN ?_ _) | (with_reducible refine Below.alloc ?_ ?_ _) | (with_reducible refine Below.setCell ?_ ?_ _) | omega | (simp; done) | (simp; omega)))) (Nat.le_refl _)) hm2) (by decide)).mono ?_); rintro e w' ⟨rfl, rfl⟩)
    | (go_at_call 17; (with_reducible refine (sum_any _ _ _ [l0, l1] _ (RBs.two (heap_top _ _ (by simp)) (hr0.below (B := w.heap.size) (by (repeat' (first | (with_reducible exact Below.refl _ _) | (with_reducible assumption) | (with_reducible refine Below.drew ?_) | (with_reducible refine below_drewN ?_ _) | (with_reducible refine Below.alloc ?_ ?_ _) | (with_reducible refine Below.setCell ?_ ?_ _) | omega | (simp; done) | (simp; omega)))) (Nat.le_refl _)) hm0 (hr1.below (B := w.heap.size) (by (repeat' (first | (with_reducible exact Below.refl _ _) | (with_reducible assumption) | (with_reducible refine Below.drew ?_) | (with_reducible refine below_drewN ?_ _) | (with_reducible refine Below.alloc ?_ ?_ _) | (with_reducible refine Below.setCell ?_ ?_ _) | omega | (simp; done) | (simp; omega)))) (Nat.le_refl _)) hm1) (by decide)).mono ?_); rintro e w' ⟨rfl, rfl⟩)
    | (go_at_call 16; (with_reducible refine (more_any _ _ _ _ l1 _ hlt (hr1.below (B := w.heap.size) (by (repeat' (first | (with_reducible exact Below.refl _ _) | (with_reducible assumption) | (with_reducible refine Below.drew ?_) | (with_reducible refine below_drewN ?_ _) | (with_reducible refine Below.alloc ?_ ?_ _) | (with_reducible refine Below.setCell ?_ ?_ _) | omega | (simp; done) | (simp; omega)))) (Nat.le_refl _)) hm1).mono ?_); rintro e w' ⟨rfl, rfl⟩)
    | (go_at_call 16; (with_reducible refine (more_zero _ _ _ l0 _ (hr0.below (B := w.heap.size) (by (repeat' (first | (with_reducible exact Below.refl _ _) | (with_reducible assumption) | (with_reducible refine Below.drew ?_) | (with_reducible refine below_drewN ?_ _) | (with_reducible refine Below.alloc ?_ ?_ _) | (with_reducible refine Below.setCell ?_ ?_ _) | omega | (simp; done) | (simp; omega)))) (Nat.le_refl _)) hm0).mono ?_); rintro e w' ⟨rfl, rfl⟩))
  go_ret
  exact ⟨rfl, (by (repeat' (first | (with_reducible exact Below.refl _ _) | (with_reducible assumption) | (with_reducible refine Below.drew ?_) | (with_reducible refine below_drewN ?_ _) | (with_reducible refine Below.alloc ?_ ?_ _) | (with_reducible refine Below.setCell ?_ ?_ _) | omega | (simp; done) | (simp; omega))))⟩
theorem walk (w : World) (A0 : Option Addr) (n0 c0 : Nat) (l0 : List UInt8) (r0 : RB w A0 n0 l0) (nc0 : n0 ≤ c0) (cm0 : c0 ≤ maxLen) (A1 : Option Addr) (n1 c1 : Nat) (l1 : List UInt8) (r1 : RB w A1 n1 l1) (nc1 : n1 ≤ c1) (cm1 : c1 ≤ maxLen) :
    Calls Try.prog 3 #[.slice A0 n0 c0, .slice A1 n1 c1] w fun e w' => e = .returned (.bool true) ∧ Below w.heap.size w w' := by
  by_cases h : n0 ≤ 1000 ∧ n1 ≤ 1000
  · exact walk_small A0 A1 n0 c0 n1 c1 l0 l1 w h.1 h.2 r0 r1
  · exact walk_big A0 A1 n0 c0 n1 c1 w (by omega) (by omega) (by omega)

--FRAME tompionlaw02 CrcMore crcMore walk bytes bytes
theorem own : ownKnob Try.prog.godebug = none := by kernel_rfl
theorem laidOut : laidOutB Try.prog = true := by kernel_rfl

set_option maxRecDepth 100000 in
theorem lifted (os : Os) (started : os.Started) (H : Type) (enc : TypeId × Value → H) :
    ReturnsInHanded {} Try.checked os 3 .any (Rows.crcMoreSpec.pre6 enc Try.prog Try.f3 Rows.crcMoreRow.domain false) (Rows.crcMoreSpec.post enc Try.prog Try.f3 false true false false) := by
  refine returnsInHanded_of_change (C := Try.checked) own started (by kernel_rfl) Try.func3
    (ChangeSpec.witness6 (enc := enc) (C := Try.checked) false ⟨#[], #[.slice none 0 0, .slice none 0 0], []⟩ 8 (by kernel_rfl) (by kernel_rfl) (by kernel_rfl) (by kernel_rfl)) ?_
  intro W base args ds gs before hval0 hW hcnd _
  have hval : ∀ (j : Nat) t v, Try.f3.params[j]? = some t → args[j]? = some v → Value.okWide Try.prog W .any base t v := hval0
  have hW' := hW
  obtain ⟨p, q, hA0, hV, rfl, hfz, hnd⟩ := hW
  have hA : DataW.TrodAll enc Try.prog W 0 (fun _ => true) true Try.f3.params.toList args.toList ds p := hA0
  rw [Try.params3] at hA hval
  obtain ⟨v0, vs0, d0, ds0, p0, q0, hargs, rfl, rfl, h0, rr0⟩ := trodAll_cons hA
  obtain ⟨v1, vs1, d1, ds1, p1, q1, rfl, rfl, rfl, h1, rr1⟩ := trodAll_cons rr0
  obtain ⟨rfl, rfl, rfl⟩ := trodAll_nil rr1
  obtain rfl : args = #[v0, v1] := by cases args; simp_all
  obtain ⟨rfl, rfl⟩ := trodVars_none hV
  have k0 := h0
  have lt0 : ∀ x ∈ p0, x.block < W.heap.size := by obtain ⟨m, hm⟩ := k0; exact DataW.trod_lt m _ _ _ hm
  obtain ⟨A0, n0, c0, l0, rfl, r0, nc0, cm0⟩ := args_bytes Try.underlying22 Try.underlying5 (by kernel_rfl) (hval 0 22 v0 rfl rfl) h0
  have k1 := h1
  have lt1 : ∀ x ∈ p1, x.block < W.heap.size := by obtain ⟨m, hm⟩ := k1; exact DataW.trod_lt m _ _ _ hm
  obtain ⟨A1, n1, c1, l1, rfl, r1, nc1, cm1⟩ := args_bytes Try.underlying22 Try.underlying5 (by kernel_rfl) (hval 1 22 v1 rfl rfl) h1
  clear hA0 hval0
  refine (walk W A0 n0 c0 l0 r0 nc0 cm0 A1 n1 c1 l1 r1 nc1 cm1).mono fun e W' ⟨he, bel⟩ => ?_
  subst he
  exact ⟨_, rfl, _, _, _, [], _, [], hW', trodAll_mk1 (shut_bool Try.underlying4 _), (trodAll_cons_mk (Below.trod laidOut (by kernel_rfl) (of_decide_eq_true (by kernel_rfl)) k0 bel lt0) (trodAll_cons_mk (Below.trod laidOut (by kernel_rfl) (of_decide_eq_true (by kernel_rfl)) k1 bel lt1) trodAll_mk0)), rfl, bel.frame _, fun h => by cases h⟩

theorem over : Rows.crcMoreRow.holds Try.pinned (OpenSpec.ofChange Rows.crcMoreSpec) :=
  OpenClaim.holds_of_wide 3 Try.f3 rfl rfl rfl rfl rfl rfl rfl ⟨rfl, rfl, rfl, rfl, rfl⟩ rfl rfl rfl rfl rfl (by kernel_rfl) Try.func3 (by kernel_rfl)
    (of_decide_eq_true (by kernel_rfl)) (by unfold Func.isWrapper; first | (rw [if_pos (by decide +kernel)]; kernel_rfl) | (rw [if_neg (by decide +kernel)]; exact ⟨rfl, rfl⟩))
    (fun os started H enc _ => lifted os started H enc)

theorem proved : Rows.CrcMoreSaid := over
--ENDFRAME
end Go.Proofs.Ytaokboendpkjfaa.crcMore
