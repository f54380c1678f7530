/- SealBack: what is made is opened, by its kind alone. -/
import Derived.Test.YtmaiafmpihpleaaSealLawA
import Derived.Test.YtmaiafmpihpleaaFrame
namespace Go.Proofs.Ytmaiafmpihpleaa.sealBack
open Go.ChangeShapes Go.WideShapes Go.ChangeAt Go.RowKit
set_option linter.unusedVariables false

theorem walk_big (kind n : Int) (A : Option Addr) (m c : Nat) (w : World) (h : 300 < m) (hm : m ≤ maxLen) :
    Calls Try.prog 5 #[.int .i64 kind, .int .i64 n, .slice A m c] w fun e w' => e = .returned (.bool true) ∧ Below w.heap.size w w' := by
  unfold maxLen at hm
  go_enter Try.func5, Try.ntmps5
  go_wp2_with (go_at_call 15; (with_reducible refine (awake7 _).mono ?_); rintro e w1 ⟨rfl, hB1⟩)
  go_ret
  exact ⟨rfl, hB1⟩

set_option maxRecDepth 100000 in
set_option maxHeartbeats 2000000 in
theorem walk_err (kind n : Int) (A : Option Addr) (m c : Nat) (l : List UInt8) (w : World) (hl : RB w A m l) (hm : m ≤ 300) (hn : n ≤ 9223372036854775807) (h : (kind < 1 ∨ 255 < kind ∨ n < 0) ∨ 113 < m) :
    Calls Try.prog 5 #[.int .i64 kind, .int .i64 n, .slice A m c] w fun e w' => e = .returned (.bool true) ∧ Below w.heap.size w w' := by
  have hmk := fun (w : World) hl => make_any kind n A m c l w hn (by unfold maxLen; omega) hl
  have hN := makeL_len kind n l
  have hr : ((makeL kind n l).2 != 0) = true := by
    unfold makeL
    by_cases h1 : kind < 1 ∨ 255 < kind ∨ n < 0
    · rw [if_pos h1]; rfl
    · rw [if_neg h1, if_pos (by rw [hl.1]; omega)]; rfl
  generalize (makeL kind n l).1 = M at *
  generalize (makeL kind n l).2 = r at *
  have HL := Lib.hid (show (M.map bv).length = 128 by simpa using hN)
  have Hm := Lib.hid (mem_bv (l := M))
  unfold aggB at *
  generalize M.map bv = C at *
  have hz := (zero_of_info zero128).1
  have Hi := Lib.hid (zero_of_info zero128).2
  have Hz := Lib.hid (show (zerosL.map bv).length = 128 by simp [zerosL_len])
  unfold aggB at hz
  generalize zerosL.map bv = Z at *
  have Hmk := Lib.hid hmk
  have hcs : kind < 1 ∨ (1 ≤ kind ∧ 255 < kind) ∨ (1 ≤ kind ∧ kind ≤ 255 ∧ n < 0) ∨ (1 ≤ kind ∧ kind ≤ 255 ∧ 0 ≤ n ∧ 113 < m) := by omega
  clear hmk hN h
  rcases hcs with h1 | ⟨h1, h2⟩ | ⟨h1, h2, h3⟩ | ⟨h1, h2, h3, h4⟩
  all_goals
   go_enter Try.func5, Try.ntmps5
   go_wp2_with (first
    | ((go_at_call 15; (with_reducible refine (awake7 _).mono ?_); rintro e w1 ⟨rfl, hB1⟩))
    | ((go_at_call 16; (with_reducible refine (Hmk.out _ (hl.below (B := w.heap.size) (by (repeat' (first | (with_reducible exact Below.refl _ _) | (with_reducible assumption) | (with_reducible refine Below.drew ?_) | (with_reducible refine below_drewN ?_ _) | (with_reducible refine Below.alloc ?_ ?_ _) | (with_reducible refine Below.setCell ?_ ?_ _) | omega | (simp; done) | (simp; omega)))) (Nat.le_refl _))).mono ?_); rintro e w2 ⟨rfl, hB2⟩); replace hB2 := below_then hB1 hB2 hB1.size)
    | (refine wpList_store_arr rfl (x := .tmp 7) (y := .tmp 25) rfl rfl rfl (t := 24) (cs := Z) (xs := C) (Blk.top _ rfl rfl) Hi.out HL.out (by rw [Hz.out]; omega) Hm.out ?_; intro w3 hb3 hg3 hs3; rw [splice_all _ _ (by rw [Hz.out, HL.out])] at hb3))
   go_ret
   exact ⟨by first | (simp [*]; done) | (refine ret_bool ?_; simp; omega), below_of_only (hB2.alloc hB2.size _) hg3 (by have := hB2.size; simp; omega) hB2.size⟩

set_option maxRecDepth 100000 in
set_option maxHeartbeats 2000000 in
theorem walk_ok (kind n : Int) (A : Option Addr) (m c : Nat) (l : List UInt8) (w : World) (hl : RB w A m l) (hm : m ≤ 113) (hn : n ≤ 9223372036854775807) (h1 : 1 ≤ kind) (h2 : kind ≤ 255) (h3 : 0 ≤ n) :
    Calls Try.prog 5 #[.int .i64 kind, .int .i64 n, .slice A m c] w fun e w' => e = .returned (.bool true) ∧ Below w.heap.size w w' := by
  have hmk := fun (w : World) hl => make_any kind n A m c l w hn (by unfold maxLen; omega) hl
  have e1 : makeL kind n l = (sealL kind.toNat n.toNat l, 0) := by unfold makeL; rw [if_neg (by omega), if_neg (by rw [hl.1]; omega)]
  have hN := sealL_len kind.toNat n.toNat l (by rw [hl.1]; exact hm)
  obtain ⟨o1, o2, o3⟩ := opens_seal (kind := kind) (n := n.toNat) (load := l) h1 h2 (by omega) (by rw [hl.1]; exact hm)
  have o4 := sealL_size kind.toNat n.toNat l (by rw [hl.1]; exact hm)
  have o5 : opens (sealL kind.toNat n.toNat l) (kind % 255 + 1) = false := by
    cases ho : opens (sealL kind.toNat n.toNat l) (kind % 255 + 1) with
    | false => rfl
    | true => have a := (opens_kind ho).1; have b := (opens_kind o1).1; omega
  have o6 : sg n.toNat = n := by unfold sg; rw [if_pos (by omega)]; omega
  rw [e1] at hmk
  dsimp only at hmk
  generalize sealL kind.toNat n.toNat l = M at *
  have hop1 : ∀ w, Calls Try.prog 20 #[aggB M, .int .i64 kind] w fun e w' => ∃ A c, e = .returned (.tuple #[.int .i64 n, .slice A m c, .int .i64 0]) ∧ OB w' w.heap.size 5 A m c l ∧ Below w.heap.size w w' := fun w =>
    (open_any M kind w hN).mono fun e w' h => by
      rw [o1, o2, o3, o4, o6, hl.1] at h
      rcases h with ⟨hf, _⟩ | ⟨_, h⟩
      · cases hf
      · exact h
  have hop2 : ∀ w, Calls Try.prog 20 #[aggB M, .int .i64 (kind % 255 + 1)] w fun e w' => e = .returned (.tuple #[.int .i64 0, .slice none 0 0, .int .i64 53]) ∧ Below w.heap.size w w' := fun w =>
    (open_any M (kind % 255 + 1) w hN).mono fun e w' h => by
      rw [o5] at h
      rcases h with ⟨_, h⟩ | ⟨hf, _⟩
      · exact h
      · cases hf
  have HL := Lib.hid (show (M.map bv).length = 128 by simpa using hN)
  have Hm := Lib.hid (mem_bv (l := M))
  unfold aggB at *
  clear e1 o1 o2 o3 o4 o5 o6 hN
  generalize M.map bv = C at *
  have hz := (zero_of_info zero128).1
  have Hi := Lib.hid (zero_of_info zero128).2
  have Hz := Lib.hid (show (zerosL.map bv).length = 128 by simp [zerosL_len])
  unfold aggB at hz
  generalize zerosL.map bv = Z at *
  have Hmk := Lib.hid hmk
  have Hop1 := Lib.hid hop1
  have Hop2 := Lib.hid hop2
  clear hmk hop1 hop2
  go_enter Try.func5, Try.ntmps5
  go_wp2_with (first
    | ((go_at_call 15; (with_reducible refine (awake7 _).mono ?_); rintro e w1 ⟨rfl, hB1⟩))
    | ((go_at_call 16; (with_reducible refine (Hmk.out _ (hl.below (B := w.heap.size) (by (repeat' (first | (with_reducible exact Below.refl _ _) | (with_reducible assumption) | (with_reducible refine Below.drew ?_) | (with_reducible refine below_drewN ?_ _) | (with_reducible refine Below.alloc ?_ ?_ _) | (with_reducible refine Below.setCell ?_ ?_ _) | omega | (simp; done) | (simp; omega)))) (Nat.le_refl _))).mono ?_); rintro e w2 ⟨rfl, hB2⟩); replace hB2 := below_then hB1 hB2 hB1.size)
    | ((refine wpList_store_arr rfl (x := .tmp 7) (y := .tmp 25) rfl rfl rfl (t := 24) (cs := Z) (xs := C) (Blk.top _ rfl rfl) Hi.out HL.out (by rw [Hz.out]; omega) Hm.out ?_; intro w3 hb3 hg3 hs3; rw [splice_all _ _ (by rw [Hz.out, HL.out])] at hb3); replace hg3 : Below w.heap.size w w3 := below_of_only (hB2.alloc hB2.size _) hg3 (by have := hB2.size; simp; omega) hB2.size)
    | (refine wpList_load_arr rfl (x := .tmp 7) rfl rfl (t := 24) (cs := C) hb3 Try.underlying24 Hi.out HL.out (xs := C) (by rw [List.drop_zero, List.take_of_length_le (by rw [HL.out]; omega)]) ?_)
    | (refine wpList_load_arr rfl (x := .tmp 7) rfl rfl (t := 24) (cs := C) hb4 Try.underlying24 Hi.out HL.out (xs := C) (by rw [List.drop_zero, List.take_of_length_le (by rw [HL.out]; omega)]) ?_)
    | ((go_at_call 20; (with_reducible refine (Hop1.out _).mono ?_); rintro e w4 ⟨A4, c4, rfl, own4, hB4⟩); have hb4 := hb3.below hB4 hb3.lt; replace hB4 := below_then hg3 hB4 hg3.size)
    | ((go_at_call 20; (with_reducible refine (Hop2.out _).mono ?_); rintro e w5 ⟨rfl, hB5⟩); replace own4 := own4.below hB5 (Nat.le_refl _); replace hB5 := below_then hB4 hB5 hB4.size)
    | (go_at_call 18; (with_reducible refine (same_any _ _ _ _ _ _ l l _ own4.rd.rb (hl.below (B := w.heap.size) (by (repeat' (first | (with_reducible exact Below.refl _ _) | (with_reducible assumption) | (with_reducible refine Below.drew ?_) | (with_reducible refine below_drewN ?_ _) | (with_reducible refine Below.alloc ?_ ?_ _) | (with_reducible refine Below.setCell ?_ ?_ _) | omega | (simp; done) | (simp; omega)))) (Nat.le_refl _)) (by unfold maxLen; omega)).mono ?_); rintro e w6 ⟨rfl, q, rfl⟩))
  go_ret
  exact ⟨by first | rfl | (simp; done), (by (repeat' (first | (with_reducible exact Below.refl _ _) | (with_reducible assumption) | (with_reducible refine Below.drew ?_) | (with_reducible refine below_drewN ?_ _) | (with_reducible refine Below.alloc ?_ ?_ _) | (with_reducible refine Below.setCell ?_ ?_ _) | omega | (simp; done) | (simp; omega))))⟩

theorem walk (w : World) (kind : Int) (wf0 : (Lit.int .i64 kind).wf = true) (n : Int) (wf1 : (Lit.int .i64 n).wf = true) (A : Option Addr) (m c : Nat) (l : List UInt8) (hl : RB w A m l) (nc : m ≤ c) (cm : c ≤ maxLen) :
    Calls Try.prog 5 #[.int .i64 kind, .int .i64 n, .slice A m c] w fun e w' => e = .returned (.bool true) ∧ Below w.heap.size w w' := by
  have hn := bounds_i64 wf1
  by_cases h : 300 < m
  · exact walk_big kind n A m c w h (by omega)
  · by_cases h2 : (kind < 1 ∨ 255 < kind ∨ n < 0) ∨ 113 < m
    · exact walk_err kind n A m c l w hl (by omega) hn.2 h2
    · exact walk_ok kind n A m c l w hl (by omega) hn.2 (by omega) (by omega) (by omega)

--FRAME tompionlaw07 SealBack sealBack walk i64 i64 bytes
theorem own : ownKnob Try.prog.godebug = none := by kernel_rfl
theorem laidOut : laidOutB Try.prog = true := by kernel_rfl

set_option maxRecDepth 100000 in
theorem lifted (os : Os) (started : os.Started) (H : Type) (enc : TypeId × Value → H) :
    ReturnsInHanded {} Try.checked os 5 .any (Rows.sealBackSpec.pre6 enc Try.prog Try.f5 Rows.sealBackRow.domain false) (Rows.sealBackSpec.post enc Try.prog Try.f5 false true false false) := by
  refine returnsInHanded_of_change (C := Try.checked) own started (by kernel_rfl) Try.func5
    (ChangeSpec.witness6 (enc := enc) (C := Try.checked) false ⟨#[], #[.int .i64 0, .int .i64 0, .slice none 0 0], []⟩ 8 (by kernel_rfl) (by kernel_rfl) (by kernel_rfl) (by kernel_rfl)) ?_
  intro W base args ds gs before hval0 hW hcnd _
  have hval : ∀ (j : Nat) t v, Try.f5.params[j]? = some t → args[j]? = some v → Value.okWide Try.prog W .any base t v := hval0
  have hW' := hW
  obtain ⟨p, q, hA0, hV, rfl, hfz, hnd⟩ := hW
  have hA : DataW.TrodAll enc Try.prog W 0 (fun _ => true) true Try.f5.params.toList args.toList ds p := hA0
  rw [Try.params5] at hA hval
  obtain ⟨v0, vs0, d0, ds0, p0, q0, hargs, rfl, rfl, h0, rr0⟩ := trodAll_cons hA
  obtain ⟨v1, vs1, d1, ds1, p1, q1, rfl, rfl, rfl, h1, rr1⟩ := trodAll_cons rr0
  obtain ⟨v2, vs2, d2, ds2, p2, q2, rfl, rfl, rfl, h2, rr2⟩ := trodAll_cons rr1
  obtain ⟨rfl, rfl, rfl⟩ := trodAll_nil rr2
  obtain rfl : args = #[v0, v1, v2] := by cases args; simp_all
  obtain ⟨rfl, rfl⟩ := trodVars_none hV
  have k0 := h0
  have lt0 : ∀ x ∈ p0, x.block < W.heap.size := by obtain ⟨m, hm⟩ := k0; exact DataW.trod_lt m _ _ _ hm
  obtain ⟨a0, rfl, wf0⟩ := args_int Try.underlying3 (hval 0 3 v0 rfl rfl) h0
  have k1 := h1
  have lt1 : ∀ x ∈ p1, x.block < W.heap.size := by obtain ⟨m, hm⟩ := k1; exact DataW.trod_lt m _ _ _ hm
  obtain ⟨a1, rfl, wf1⟩ := args_int Try.underlying3 (hval 1 3 v1 rfl rfl) h1
  have k2 := h2
  have lt2 : ∀ x ∈ p2, x.block < W.heap.size := by obtain ⟨m, hm⟩ := k2; exact DataW.trod_lt m _ _ _ hm
  obtain ⟨A2, n2, c2, l2, rfl, r2, nc2, cm2⟩ := args_bytes Try.underlying22 Try.underlying5 (by kernel_rfl) (hval 2 22 v2 rfl rfl) h2
  clear hA0 hval0
  refine (walk W a0 wf0 a1 wf1 A2 n2 c2 l2 r2 nc2 cm2).mono fun e W' ⟨he, bel⟩ => ?_
  subst he
  exact ⟨_, rfl, _, _, _, [], _, [], hW', trodAll_mk1 (shut_bool Try.underlying4 _), (trodAll_cons_mk (Below.trod laidOut (by kernel_rfl) (of_decide_eq_true (by kernel_rfl)) k0 bel lt0) (trodAll_cons_mk (Below.trod laidOut (by kernel_rfl) (of_decide_eq_true (by kernel_rfl)) k1 bel lt1) (trodAll_cons_mk (Below.trod laidOut (by kernel_rfl) (of_decide_eq_true (by kernel_rfl)) k2 bel lt2) trodAll_mk0))), rfl, bel.frame _, fun h => by cases h⟩

theorem over : Rows.sealBackRow.holds Try.pinned (OpenSpec.ofChange Rows.sealBackSpec) :=
  OpenClaim.holds_of_wide 5 Try.f5 rfl rfl rfl rfl rfl rfl rfl ⟨rfl, rfl, rfl, rfl, rfl⟩ rfl rfl rfl rfl rfl (by kernel_rfl) Try.func5 (by kernel_rfl)
    (of_decide_eq_true (by kernel_rfl)) (by unfold Func.isWrapper; first | (rw [if_pos (by decide +kernel)]; kernel_rfl) | (rw [if_neg (by decide +kernel)]; exact ⟨rfl, rfl⟩))
    (fun os started H enc _ => lifted os started H enc)

theorem proved : Rows.SealBackSaid := over
--ENDFRAME
end Go.Proofs.Ytmaiafmpihpleaa.sealBack
