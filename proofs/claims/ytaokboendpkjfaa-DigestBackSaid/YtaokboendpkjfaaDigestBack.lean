/- DigestBack: any number is read of its digits as it was; whatever is read has just these digits. -/
import Derived.Test.YtaokboendpkjfaaDigLawA
import Derived.Test.YtaokboendpkjfaaDigB
import Derived.Test.YtaokboendpkjfaaFrame
namespace Go.Proofs.Ytaokboendpkjfaa.digestBack
open Go.ChangeShapes Go.WideShapes Go.ChangeAt Go.RowKit
set_option linter.unusedVariables false

theorem read_back (s : ByteArray) (hs : s.size ≤ maxLen) : ∃ (x e : Int), (∀ w : World,
    Calls Try.prog 38 #[.string s] w fun r w' => r = .returned (.tuple #[.int .i64 x, .int .i64 e]) ∧ Below w.heap.size w w') ∧
    (((e != 0) = true ∧ (x == 0) = true) ∨ (e = 0 ∧ ∀ w : World, Calls Try.prog 40 #[.int .i64 x] w fun r w' => r = .returned (.string s) ∧ Below w.heap.size w w')) := by
  rcases Nat.lt_trichotomy s.size 16 with h | h | h
  · exact ⟨0, 10, fun w => (dread_short s w h).mono fun _ _ ⟨h1, h2⟩ => ⟨h1, h2 ▸ Below.refl _ _⟩, .inl ⟨rfl, rfl⟩⟩
  · refine ⟨_, _, fun w => dread_any s w h, ?_⟩
    cases hok : hexOk s.data.toList with
    | false => exact .inl ⟨rfl, rfl⟩
    | true =>
      refine .inr ⟨rfl, fun w => ?_⟩
      have hlen : s.data.toList.length = 16 := by simpa using h
      have hlt := hexN_lt _ hok
      rw [hlen] at hlt
      have ht := text_any (sg (hexN s.data.toList)) w
      rw [un_sg (by omega), text_hexN _ hlen hok] at ht
      exact ht
  · exact ⟨0, 12, fun w => (dread_long s w h hs).mono fun _ _ ⟨h1, h2⟩ => ⟨h1, h2 ▸ Below.refl _ _⟩, .inl ⟨rfl, rfl⟩⟩

theorem read_text (n : Int) (h0 : -9223372036854775808 ≤ n) (h1 : n ≤ 9223372036854775807) (w : World) :
    Calls Try.prog 38 #[.string ⟨(textL (un n)).toArray⟩] w fun r w' => r = .returned (.tuple #[.int .i64 n, .int .i64 0]) ∧ Below w.heap.size w w' := by
  have hsz : (⟨(textL (un n)).toArray⟩ : ByteArray).size = 16 := by
    show (textL (un n)).toArray.size = 16
    rw [List.size_toArray, textL_len]
  have h := dread_any ⟨(textL (un n)).toArray⟩ w hsz
  have e : (ByteArray.mk (textL (un n)).toArray).data.toList = textL (un n) := rfl
  rw [e, if_pos (textL_ok _), if_pos (textL_ok _), hexN_text _ (un_lt n), sg_un h0 h1] at h
  exact h

theorem walk (w : World) (n : Int) (wf : (Lit.int .i64 n).wf = true) (s : ByteArray) (hs : s.size ≤ maxLen) :
    Calls Try.prog 13 #[.int .i64 n, .string s] w fun e w' => e = .returned (.bool true) ∧ Below w.heap.size w w' := by
  have hb := bounds_i64 wf
  obtain ⟨x, e, hr, hx⟩ := read_back s hs
  have ht := fun w => text_any n w
  have hu := fun w => read_text n hb.1 hb.2 w
  generalize (⟨(textL (un n)).toArray⟩ : ByteArray) = T at *
  unfold maxLen at hs
  by_cases h : s.size ≤ 100
  case neg =>
    go_enter Try.func13, Try.ntmps13
    go_wp2_with ((go_at_call 35; (with_reducible refine (awake32 _).mono ?_); rintro e w1 ⟨rfl, hb1⟩); have hb1s := hb1.size)
    go_ret
    exact ⟨rfl, (by (repeat' (first | (with_reducible exact Below.refl _ _) | (with_reducible assumption) | (with_reducible refine Below.drew ?_) | (with_reducible refine below_drewN ?_ _) | (with_reducible refine Below.alloc ?_ ?_ _) | (with_reducible refine Below.setCell ?_ ?_ _) | omega | (simp; done) | (simp; omega))))⟩
  case pos =>
    rcases hx with ⟨he, hx0⟩ | ⟨rfl, hx⟩
    case inl =>
      have he2 : (e == 0) = false := by rw [bne_iff_ne] at he; rw [beq_eq_false_iff_ne]; exact he
      go_enter Try.func13, Try.ntmps13
      go_wp2_with (first
        | ((go_at_call 35; (with_reducible refine (awake32 _).mono ?_); rintro e w1 ⟨rfl, hb1⟩); have hb1s := hb1.size)
        | ((go_at_call 38; (with_reducible refine (hu _).mono ?_); rintro e w2 ⟨rfl, hb2⟩); replace hb2 := below_then' (a := w) (B := w.heap.size) (by (repeat' (first | (with_reducible exact Below.refl _ _) | (with_reducible assumption) | (with_reducible refine Below.drew ?_) | (with_reducible refine below_drewN ?_ _) | (with_reducible refine Below.alloc ?_ ?_ _) | (with_reducible refine Below.setCell ?_ ?_ _) | omega | (simp; done) | (simp; omega)))) hb2 (by first | omega | (simp; done) | (simp; omega)); have hb2s := hb2.size)
        | ((go_at_call 40; (with_reducible refine (ht _).mono ?_); rintro e w4 ⟨rfl, hb4⟩); replace hb4 := below_then' (a := w) (B := w.heap.size) (by (repeat' (first | (with_reducible exact Below.refl _ _) | (with_reducible assumption) | (with_reducible refine Below.drew ?_) | (with_reducible refine below_drewN ?_ _) | (with_reducible refine Below.alloc ?_ ?_ _) | (with_reducible refine Below.setCell ?_ ?_ _) | omega | (simp; done) | (simp; omega)))) hb4 (by first | omega | (simp; done) | (simp; omega)); have hb4s := hb4.size)
        | ((go_at_call 38; (with_reducible refine (hr _).mono ?_); rintro e w3 ⟨rfl, hb3⟩); replace hb3 := below_then' (a := w) (B := w.heap.size) (by (repeat' (first | (with_reducible exact Below.refl _ _) | (with_reducible assumption) | (with_reducible refine Below.drew ?_) | (with_reducible refine below_drewN ?_ _) | (with_reducible refine Below.alloc ?_ ?_ _) | (with_reducible refine Below.setCell ?_ ?_ _) | omega | (simp; done) | (simp; omega)))) hb3 (by first | omega | (simp; done) | (simp; omega)); have hb3s := hb3.size))
      go_ret
      exact ⟨rfl, (by (repeat' (first | (with_reducible exact Below.refl _ _) | (with_reducible assumption) | (with_reducible refine Below.drew ?_) | (with_reducible refine below_drewN ?_ _) | (with_reducible refine Below.alloc ?_ ?_ _) | (with_reducible refine Below.setCell ?_ ?_ _) | omega | (simp; done) | (simp; omega))))⟩
    case inr =>
      go_enter Try.func13, Try.ntmps13
      go_wp2_with (first
        | ((go_at_call 35; (with_reducible refine (awake32 _).mono ?_); rintro e w1 ⟨rfl, hb1⟩); have hb1s := hb1.size)
        | ((go_at_call 38; (with_reducible refine (hu _).mono ?_); rintro e w2 ⟨rfl, hb2⟩); replace hb2 := below_then' (a := w) (B := w.heap.size) (by (repeat' (first | (with_reducible exact Below.refl _ _) | (with_reducible assumption) | (with_reducible refine Below.drew ?_) | (with_reducible refine below_drewN ?_ _) | (with_reducible refine Below.alloc ?_ ?_ _) | (with_reducible refine Below.setCell ?_ ?_ _) | omega | (simp; done) | (simp; omega)))) hb2 (by first | omega | (simp; done) | (simp; omega)); have hb2s := hb2.size)
        | ((go_at_call 40; (with_reducible refine (ht _).mono ?_); rintro e w4 ⟨rfl, hb4⟩); replace hb4 := below_then' (a := w) (B := w.heap.size) (by (repeat' (first | (with_reducible exact Below.refl _ _) | (with_reducible assumption) | (with_reducible refine Below.drew ?_) | (with_reducible refine below_drewN ?_ _) | (with_reducible refine Below.alloc ?_ ?_ _) | (with_reducible refine Below.setCell ?_ ?_ _) | omega | (simp; done) | (simp; omega)))) hb4 (by first | omega | (simp; done) | (simp; omega)); have hb4s := hb4.size)
        | ((go_at_call 38; (with_reducible refine (hr _).mono ?_); rintro e w3 ⟨rfl, hb3⟩); replace hb3 := below_then' (a := w) (B := w.heap.size) (by (repeat' (first | (with_reducible exact Below.refl _ _) | (with_reducible assumption) | (with_reducible refine Below.drew ?_) | (with_reducible refine below_drewN ?_ _) | (with_reducible refine Below.alloc ?_ ?_ _) | (with_reducible refine Below.setCell ?_ ?_ _) | omega | (simp; done) | (simp; omega)))) hb3 (by first | omega | (simp; done) | (simp; omega)); have hb3s := hb3.size)
        | ((go_at_call 40; (with_reducible refine (hx _).mono ?_); rintro e w5 ⟨rfl, hb5⟩); replace hb5 := below_then' (a := w) (B := w.heap.size) (by (repeat' (first | (with_reducible exact Below.refl _ _) | (with_reducible assumption) | (with_reducible refine Below.drew ?_) | (with_reducible refine below_drewN ?_ _) | (with_reducible refine Below.alloc ?_ ?_ _) | (with_reducible refine Below.setCell ?_ ?_ _) | omega | (simp; done) | (simp; omega)))) hb5 (by first | omega | (simp; done) | (simp; omega)); have hb5s := hb5.size))
      go_ret
      exact ⟨rfl, (by (repeat' (first | (with_reducible exact Below.refl _ _) | (with_reducible assumption) | (with_reducible refine Below.drew ?_) | (with_reducible refine below_drewN ?_ _) | (with_reducible refine Below.alloc ?_ ?_ _) | (with_reducible refine Below.setCell ?_ ?_ _) | omega | (simp; done) | (simp; omega))))⟩

--FRAME tompionlaw32 DigestBack digestBack walk i64 string
theorem own : ownKnob Try.prog.godebug = none := by kernel_rfl
theorem laidOut : laidOutB Try.prog = true := by kernel_rfl

set_option maxRecDepth 100000 in
theorem lifted (os : Os) (started : os.Started) (H : Type) (enc : TypeId × Value → H) :
    ReturnsInHanded {} Try.checked os 13 .any (Rows.digestBackSpec.pre6 enc Try.prog Try.f13 Rows.digestBackRow.domain false) (Rows.digestBackSpec.post enc Try.prog Try.f13 false true false false) := by
  refine returnsInHanded_of_change (C := Try.checked) own started (by kernel_rfl) Try.func13
    (ChangeSpec.witness6 (enc := enc) (C := Try.checked) false ⟨#[], #[.int .i64 0, .string ByteArray.empty], []⟩ 8 (by kernel_rfl) (by kernel_rfl) (by kernel_rfl) (by kernel_rfl)) ?_
  intro W base args ds gs before hval0 hW hcnd _
  have hval : ∀ (j : Nat) t v, Try.f13.params[j]? = some t → args[j]? = some v → Value.okWide Try.prog W .any base t v := hval0
  have hW' := hW
  obtain ⟨p, q, hA0, hV, rfl, hfz, hnd⟩ := hW
  have hA : DataW.TrodAll enc Try.prog W 0 (fun _ => true) true Try.f13.params.toList args.toList ds p := hA0
  rw [Try.params13] at hA hval
  obtain ⟨v0, vs0, d0, ds0, p0, q0, hargs, rfl, rfl, h0, rr0⟩ := trodAll_cons hA
  obtain ⟨v1, vs1, d1, ds1, p1, q1, rfl, rfl, rfl, h1, rr1⟩ := trodAll_cons rr0
  obtain ⟨rfl, rfl, rfl⟩ := trodAll_nil rr1
  obtain rfl : args = #[v0, v1] := by cases args; simp_all
  obtain ⟨rfl, rfl⟩ := trodVars_none hV
  have k0 := h0
  have lt0 : ∀ x ∈ p0, x.block < W.heap.size := by obtain ⟨m, hm⟩ := k0; exact DataW.trod_lt m _ _ _ hm
  obtain ⟨a0, rfl, wf0⟩ := args_int Try.underlying3 (hval 0 3 v0 rfl rfl) h0
  have k1 := h1
  have lt1 : ∀ x ∈ p1, x.block < W.heap.size := by obtain ⟨m, hm⟩ := k1; exact DataW.trod_lt m _ _ _ hm
  obtain ⟨a1, rfl, sz1⟩ := args_string Try.underlying9 (hval 1 9 v1 rfl rfl) h1
  clear hA0 hval0
  refine (walk W a0 wf0 a1 sz1).mono fun e W' ⟨he, bel⟩ => ?_
  subst he
  exact ⟨_, rfl, _, _, _, [], _, [], hW', trodAll_mk1 (shut_bool Try.underlying4 _), (trodAll_cons_mk (Below.trod laidOut (by kernel_rfl) (of_decide_eq_true (by kernel_rfl)) k0 bel lt0) (trodAll_cons_mk (Below.trod laidOut (by kernel_rfl) (of_decide_eq_true (by kernel_rfl)) k1 bel lt1) trodAll_mk0)), rfl, bel.frame _, fun h => by cases h⟩

theorem over : Rows.digestBackRow.holds Try.pinned (OpenSpec.ofChange Rows.digestBackSpec) :=
  OpenClaim.holds_of_wide 13 Try.f13 rfl rfl rfl rfl rfl rfl rfl ⟨rfl, rfl, rfl, rfl, rfl⟩ rfl rfl rfl rfl rfl (by kernel_rfl) Try.func13 (by kernel_rfl)
    (of_decide_eq_true (by kernel_rfl)) (by unfold Func.isWrapper; first | (rw [if_pos (by decide +kernel)]; kernel_rfl) | (rw [if_neg (by decide +kernel)]; exact ⟨rfl, rfl⟩))
    (fun os started H enc _ => lifted os started H enc)

theorem proved : Rows.DigestBackSaid := over
--ENDFRAME
end Go.Proofs.Ytaokboendpkjfaa.digestBack
