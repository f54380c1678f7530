/- SealMakes: the sealed sector of any kind, number and load is the document's, or why there is none. -/
import Derived.Test.YtmaiafmpihpleaaRefSealA
import Derived.Test.YtmaiafmpihpleaaFrame
namespace Go.Proofs.Ytmaiafmpihpleaa.sealMakes
open Go.ChangeShapes Go.WideShapes Go.ChangeAt Go.RowKit
set_option linter.unusedVariables false

theorem makeL_blank (kind n : Int) (l : List UInt8) : (decide ((makeL kind n l).1 = zerosL) == ((makeL kind n l).2 != 0)) = true := by
  unfold makeL
  split
  · simp
  · split
    · simp
    · have : sealL kind.toNat n.toNat l ≠ zerosL := fun h => by
        have h1 := sealL_last kind.toNat n.toNat l (by omega)
        rw [h] at h1
        revert h1; decide
      simp [this]

theorem walk_big (kind n : Int) (A : Option Addr) (m c : Nat) (w : World) (h : 300 < m) (hm : m ≤ maxLen) :
    Calls Try.prog 3 #[.int .i64 kind, .int .i64 n, .slice A m c] w fun e w' => e = .returned (.bool true) ∧ Below w.heap.size w w' := by
  unfold maxLen at hm
  go_enter Try.func3, Try.ntmps3
  go_wp2_with (go_at_call 15; (with_reducible refine (awake7 _).mono ?_); rintro e w1 ⟨rfl, hB1⟩)
  go_ret
  exact ⟨rfl, hB1⟩

set_option maxRecDepth 100000 in
set_option maxHeartbeats 2000000 in
theorem walk_small (kind n : Int) (A : Option Addr) (m c : Nat) (l : List UInt8) (w : World) (hl : RB w A m l) (hm : m ≤ 300) (hn : n ≤ 9223372036854775807) :
    Calls Try.prog 3 #[.int .i64 kind, .int .i64 n, .slice A m c] w fun e w' => e = .returned (.bool true) ∧ Below w.heap.size w w' := by
  have hmk := fun (w : World) hl => make_any kind n A m c l w hn (by unfold maxLen; omega) hl
  have hrf := fun (w : World) hl => refmake_any kind n A m c l w hn (by unfold maxLen; omega) hl
  have hbl := makeL_blank kind n l
  have hN := makeL_len kind n l
  generalize (makeL kind n l).1 = M at *
  generalize (makeL kind n l).2 = r at *
  have hb1 := fun w => blank_any zerosL w zerosL_len
  have hb2 := fun w => blank_any M w hN
  rw [show decide (zerosL = zerosL) = true from by simp] at hb1
  have hbu : ∀ w : World, (Instr.build 24 #[]).run Try.prog w = .ok (aggB zerosL) w := fun w => run_build w _ _ _ (by kernel_rfl)
  generalize decide (M = zerosL) = q at *
  have HL := Lib.hid (show (M.map bv).length = 128 by simpa using hN)
  have HN := Lib.hid hN
  have Hm := Lib.hid (mem_bv (l := M))
  unfold aggB at *
  have hz := (zero_of_info zero128).1
  have Hi := Lib.hid (zero_of_info zero128).2
  have Hz := Lib.hid (show (zerosL.map bv).length = 128 by simp [zerosL_len])
  unfold aggB at hz
  generalize zerosL.map bv = Z at *
  have Hmk := Lib.hid hmk
  have Hrf := Lib.hid hrf
  have Hb1 := Lib.hid hb1
  have Hb2 := Lib.hid hb2
  clear hmk hrf hb1 hb2 hN
  go_enter Try.func3, Try.ntmps3
  go_wp2_with (first
    | ((go_at_call 15; (with_reducible refine (awake7 _).mono ?_); rintro e w1 ⟨rfl, hB1⟩))
    | ((go_at_call 16; (with_reducible refine (Hmk.out _ (hl.below (B := w.heap.size) (by (repeat' (first | (with_reducible exact Below.refl _ _) | (with_reducible assumption) | (with_reducible refine Below.drew ?_) | (with_reducible refine below_drewN ?_ _) | (with_reducible refine Below.alloc ?_ ?_ _) | (with_reducible refine Below.setCell ?_ ?_ _) | omega | (simp; done) | (simp; omega)))) (Nat.le_refl _))).mono ?_); rintro e w2 ⟨rfl, hB2⟩); replace hB2 := below_then hB1 hB2 hB1.size)
    | ((refine wpList_store_arr rfl (x := .tmp 7) (y := .tmp 21) rfl rfl rfl (t := 24) (cs := Z) (xs := M.map bv) (Blk.top _ rfl rfl) Hi.out HL.out (by rw [Hz.out]; omega) Hm.out ?_; intro w3 hb3 hg3 hs3; rw [splice_all _ _ (by rw [Hz.out, HL.out])] at hb3); replace hg3 : Below w.heap.size w w3 := below_of_only (hB2.alloc hB2.size _) hg3 (by have := hB2.size; simp; omega) hB2.size; clear hs3)
    | ((go_at_call 17; (with_reducible refine (Hrf.out _ (hl.below (B := w.heap.size) (by (repeat' (first | (with_reducible exact Below.refl _ _) | (with_reducible assumption) | (with_reducible refine Below.drew ?_) | (with_reducible refine below_drewN ?_ _) | (with_reducible refine Below.alloc ?_ ?_ _) | (with_reducible refine Below.setCell ?_ ?_ _) | omega | (simp; done) | (simp; omega)))) (Nat.le_refl _))).mono ?_); rintro e w4 ⟨A4, c4, rfl, own4, hB4⟩); have hb4 : BlkB w4 w2.heap.size 24 M := hb3.below hB4 hb3.lt; replace hB4 := below_then hg3 hB4 hg3.size)
    | (go_at_call 18; (with_reducible refine (same_any _ _ _ _ _ _ M M _ (BlkB.rb (off := 0) hb4 (by rw [List.drop_zero, List.take_of_length_le (by rw [HN.out]; omega)]) (by rw [HN.out]; omega)) own4.rd.rb (by unfold maxLen; omega)).mono ?_); rintro e w6 ⟨rfl, q6, rfl⟩)
    | ((go_at_call 19; (with_reducible refine (Hb1.out _).mono ?_); rintro e w7 ⟨rfl, hB7⟩); have hb7 : BlkB w7 w2.heap.size 24 M := (hb4.drewN q6).below hB7 (hb4.drewN q6).lt; replace hB7 := below_then (below_drewN hB4 q6) hB7 (below_drewN hB4 q6).size)
    | (refine wpList_load_arr rfl (x := .tmp 7) rfl rfl (t := 24) (cs := M.map bv) hb7 Try.underlying24 Hi.out HL.out (xs := M.map bv) (by rw [List.drop_zero, List.take_of_length_le (by rw [HL.out]; omega)]) ?_)
    | ((go_at_call 19; (with_reducible refine (Hb2.out _).mono ?_); rintro e w8 ⟨rfl, hB8⟩); replace hB8 := below_then hB7 hB8 hB7.size))
  go_ret
  exact ⟨by first | rfl | (simp [hbl]; done), hB8⟩

theorem walk (w : World) (kind : Int) (wf0 : (Lit.int .i64 kind).wf = true) (n : Int) (wf1 : (Lit.int .i64 n).wf = true) (A : Option Addr) (m c : Nat) (l : List UInt8) (hl : RB w A m l) (nc : m ≤ c) (cm : c ≤ maxLen) :
    Calls Try.prog 3 #[.int .i64 kind, .int .i64 n, .slice A m c] w fun e w' => e = .returned (.bool true) ∧ Below w.heap.size w w' := by
  have hn := bounds_i64 wf1
  by_cases h : 300 < m
  · exact walk_big kind n A m c w h (by omega)
  · exact walk_small kind n A m c l w hl (by omega) hn.2

--FRAME tompionlaw07 SealMakes sealMakes walk i64 i64 bytes
theorem own : ownKnob Try.prog.godebug = none := by kernel_rfl
theorem laidOut : laidOutB Try.prog = true := by kernel_rfl

set_option maxRecDepth 100000 in
theorem lifted (os : Os) (started : os.Started) (H : Type) (enc : TypeId × Value → H) :
    ReturnsInHanded {} Try.checked os 3 .any (Rows.sealMakesSpec.pre6 enc Try.prog Try.f3 Rows.sealMakesRow.domain false) (Rows.sealMakesSpec.post enc Try.prog Try.f3 false true false false) := by
  refine returnsInHanded_of_change (C := Try.checked) own started (by kernel_rfl) Try.func3
    (ChangeSpec.witness6 (enc := enc) (C := Try.checked) false ⟨#[], #[.int .i64 0, .int .i64 0, .slice none 0 0], []⟩ 8 (by kernel_rfl) (by kernel_rfl) (by kernel_rfl) (by kernel_rfl)) ?_
  intro W base args ds gs before hval0 hW hcnd _
  have hval : ∀ (j : Nat) t v, Try.f3.params[j]? = some t → args[j]? = some v → Value.okWide Try.prog W .any base t v := hval0
  have hW' := hW
  obtain ⟨p, q, hA0, hV, rfl, hfz, hnd⟩ := hW
  have hA : DataW.TrodAll enc Try.prog W 0 (fun _ => true) true Try.f3.params.toList args.toList ds p := hA0
  rw [Try.params3] at hA hval
  obtain ⟨v0, vs0, d0, ds0, p0, q0, hargs, rfl, rfl, h0, rr0⟩ := trodAll_cons hA
  obtain ⟨v1, vs1, d1, ds1, p1, q1, rfl, rfl, rfl, h1, rr1⟩ := trodAll_cons rr0
  obtain ⟨v2, vs2, d2, ds2, p2, q2, rfl, rfl, rfl, h2, rr2⟩ := trodAll_cons rr1
  obtain ⟨rfl, rfl, rfl⟩ := trodAll_nil rr2
  obtain rfl : args = #[v0, v1, v2] := by cases args; simp_all
  obtain ⟨rfl, rfl⟩ := trodVars_none hV
  have k0 := h0
  have lt0 : ∀ x ∈ p0, x.block < W.heap.size := by obtain ⟨m, hm⟩ := k0; exact DataW.trod_lt m _ _ _ hm
  obtain ⟨a0, rfl, wf0⟩ := args_int Try.underlying3 (hval 0 3 v0 rfl rfl) h0
  have k1 := h1
  have lt1 : ∀ x ∈ p1, x.block < W.heap.size := by obtain ⟨m, hm⟩ := k1; exact DataW.trod_lt m _ _ _ hm
  obtain ⟨a1, rfl, wf1⟩ := args_int Try.underlying3 (hval 1 3 v1 rfl rfl) h1
  have k2 := h2
  have lt2 : ∀ x ∈ p2, x.block < W.heap.size := by obtain ⟨m, hm⟩ := k2; exact DataW.trod_lt m _ _ _ hm
  obtain ⟨A2, n2, c2, l2, rfl, r2, nc2, cm2⟩ := args_bytes Try.underlying22 Try.underlying5 (by kernel_rfl) (hval 2 22 v2 rfl rfl) h2
  clear hA0 hval0
  refine (walk W a0 wf0 a1 wf1 A2 n2 c2 l2 r2 nc2 cm2).mono fun e W' ⟨he, bel⟩ => ?_
  subst he
  exact ⟨_, rfl, _, _, _, [], _, [], hW', trodAll_mk1 (shut_bool Try.underlying4 _), (trodAll_cons_mk (Below.trod laidOut (by kernel_rfl) (of_decide_eq_true (by kernel_rfl)) k0 bel lt0) (trodAll_cons_mk (Below.trod laidOut (by kernel_rfl) (of_decide_eq_true (by kernel_rfl)) k1 bel lt1) (trodAll_cons_mk (Below.trod laidOut (by kernel_rfl) (of_decide_eq_true (by kernel_rfl)) k2 bel lt2) trodAll_mk0))), rfl, bel.frame _, fun h => by cases h⟩

theorem over : Rows.sealMakesRow.holds Try.pinned (OpenSpec.ofChange Rows.sealMakesSpec) :=
  OpenClaim.holds_of_wide 3 Try.f3 rfl rfl rfl rfl rfl rfl rfl ⟨rfl, rfl, rfl, rfl, rfl⟩ rfl rfl rfl rfl rfl (by kernel_rfl) Try.func3 (by kernel_rfl)
    (of_decide_eq_true (by kernel_rfl)) (by unfold Func.isWrapper; first | (rw [if_pos (by decide +kernel)]; kernel_rfl) | (rw [if_neg (by decide +kernel)]; exact ⟨rfl, rfl⟩))
    (fun os started H enc _ => lifted os started H enc)

theorem proved : Rows.SealMakesSaid := over
--ENDFRAME
end Go.Proofs.Ytmaiafmpihpleaa.sealMakes
