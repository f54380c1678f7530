/- SealTorn: the first bytes of a sealed sector, not all, over a sector whose last byte isn't the mark, are not sealed. -/
import Derived.Test.YtmaiafmpihpleaaSealLawA
import Derived.Test.YtmaiafmpihpleaaFrame
namespace Go.Proofs.Ytmaiafmpihpleaa.sealTorn
open Go.ChangeShapes Go.WideShapes Go.ChangeAt Go.RowKit
set_option linter.unusedVariables false

theorem torn_last (was M : List UInt8) (p : Nat) (hw : was.length = 128) (hM : M.length = 128) (hp : p < 128) : byteAt (splice was 0 (M.take p)) 127 = byteAt was 127 ∧ (splice was 0 (M.take p)).length = 128 := by
  have h1 : (M.take p).length = p := by rw [List.length_take]; omega
  refine ⟨?_, by rw [length_splice _ _ _ (by omega), hw]⟩
  unfold byteAt splice
  rw [List.getD_eq_getElem?_getD, List.getD_eq_getElem?_getD, List.take_zero, List.nil_append, List.getElem?_append_right (by omega), h1, List.getElem?_drop]
  rw [show 0 + p + (127 - p) = 127 from by omega]

theorem makeL_three (m : Nat) (l : List UInt8) (hl : l.length = m) : makeL 3 (m : Int) l = if 113 < m then (zerosL, 3) else (sealL 3 m l, 0) := by
  unfold makeL
  rw [if_neg (by omega), hl]; rfl

set_option maxRecDepth 100000 in
set_option maxHeartbeats 1000000 in
theorem walk_past (A : Option Addr) (m c : Nat) (l was : List UInt8) (k : Int) (w : World) (hl : RB w A m l) (hm : m ≤ maxLen) (hw : was.length = 128) (h : 113 < m ∨ (m ≤ 113 ∧ byteAt was 127 = 215)) :
    Calls Try.prog 6 #[.slice A m c, aggB was, .int .u8 k] w fun e w' => e = .returned (.bool true) ∧ Below w.heap.size w w' := by
  have hmk := fun (w : World) hl => make_any 3 m A m c l w (by unfold maxLen at hm; omega) hm hl
  rw [makeL_three m l hl.1] at hmk
  have c127 := cellB (l := was) 127 (by omega)
  have hN : ((if 113 < m then (zerosL, (3 : Int)) else (sealL 3 m l, 0)).1).length = 128 := by
    split
    · exact zerosL_len
    · exact sealL_len _ _ _ (by rw [hl.1]; omega)
  generalize hM : (if 113 < m then (zerosL, (3 : Int)) else (sealL 3 m l, 0)).1 = M at *
  generalize hr : (if 113 < m then (zerosL, (3 : Int)) else (sealL 3 m l, 0)).2 = r at *
  have hr2 : (113 < m ∧ (r != 0) = true) ∨ (¬ 113 < m ∧ (r != 0) = false ∧ (((byteAt was 127 : Nat) : Int) == 215) = true) := by
    rcases h with h | ⟨h, h2⟩
    · rw [if_pos h] at hr; subst hr; exact .inl ⟨h, rfl⟩
    · rw [if_neg (by omega)] at hr; subst hr; exact .inr ⟨by omega, rfl, by rw [h2]; rfl⟩
  have HL := Lib.hid (show (M.map bv).length = 128 by simpa using hN)
  have Hm := Lib.hid (mem_bv (l := M))
  clear hN hM hr h
  unfold aggB at *
  generalize M.map bv = C at *
  generalize was.map bv = D at *
  generalize byteAt was 127 = y at *
  have hz := (zero_of_info zero128).1
  have Hi := Lib.hid (zero_of_info zero128).2
  have Hz := Lib.hid (show (zerosL.map bv).length = 128 by simp [zerosL_len])
  unfold aggB at hz
  generalize zerosL.map bv = Z at *
  unfold maxLen at hm
  have Hmk := Lib.hid hmk
  clear hmk hw
  rcases hr2 with ⟨h1, h2⟩ | ⟨h1, h2, h3⟩
  all_goals
   go_enter Try.func6, Try.ntmps6
   go_wp2_with (first
    | ((go_at_call 15; (with_reducible refine (awake7 _).mono ?_); rintro e w1 ⟨rfl, hB1⟩); have hd := (Blk.top (t := 24) (cs := D) w rfl rfl).below hB1 (by simp); replace hB1 := below_then' (a := w) (B := w.heap.size) (by (repeat' (first | (with_reducible exact Below.refl _ _) | (with_reducible assumption) | (with_reducible refine Below.drew ?_) | (with_reducible refine below_drewN ?_ _) | (with_reducible refine Below.alloc ?_ ?_ _) | (with_reducible refine Below.setCell ?_ ?_ _) | omega | (simp; done) | (simp; omega)))) hB1 (by first | omega | (simp; done) | (simp; omega)); have hB1s := hB1.size)
    | ((go_at_call 16; (with_reducible refine (Hmk.out _ (hl.below (B := w.heap.size) (by (repeat' (first | (with_reducible exact Below.refl _ _) | (with_reducible assumption) | (with_reducible refine Below.drew ?_) | (with_reducible refine below_drewN ?_ _) | (with_reducible refine Below.alloc ?_ ?_ _) | (with_reducible refine Below.setCell ?_ ?_ _) | omega | (simp; done) | (simp; omega)))) (Nat.le_refl _))).mono ?_); rintro e w2 ⟨rfl, hB2⟩); replace hd := hd.below hB2 hd.lt; replace hB2 := below_then' (a := w) (B := w.heap.size) (by (repeat' (first | (with_reducible exact Below.refl _ _) | (with_reducible assumption) | (with_reducible refine Below.drew ?_) | (with_reducible refine below_drewN ?_ _) | (with_reducible refine Below.alloc ?_ ?_ _) | (with_reducible refine Below.setCell ?_ ?_ _) | omega | (simp; done) | (simp; omega)))) hB2 (by first | omega | (simp; done) | (simp; omega)); have hB2s := hB2.size)
    | ((refine wpList_store_arr rfl (x := .tmp 7) (y := .tmp 20) rfl rfl rfl (t := 24) (cs := Z) (xs := C) (Blk.top _ rfl rfl) Hi.out HL.out (by rw [Hz.out]; omega) Hm.out ?_; intro w3 hb3 hg3 hs3; rw [splice_all _ _ (by rw [Hz.out, HL.out])] at hb3); have k127 := ((hd.alloc _).grown hg3 (by have := hd.lt; simp; omega)).cell 127; rw [c127] at k127))
   go_ret
   exact ⟨rfl, below_of_only (hB2.alloc hB2.size _) hg3 (by have := hB2.size; simp; omega) hB2.size⟩

set_option maxRecDepth 100000 in
set_option maxHeartbeats 1000000 in
theorem walk_torn (A : Option Addr) (m c : Nat) (l was : List UInt8) (k p : Nat) (w : World) (hl : RB w A m l) (hm : m ≤ 113) (hw : was.length = 128) (h : byteAt was 127 ≠ 215) (hk : k < 256) (hp : Hid (k % 128 = p)) (hp2 : p < 128) :
    Calls Try.prog 6 #[.slice A m c, aggB was, .int .u8 (k : Nat)] w fun e w' => e = .returned (.bool true) ∧ Below w.heap.size w w' := by
  have hmk := fun (w : World) hl => make_any 3 m A m c l w (by omega) (by unfold maxLen; omega) hl
  rw [makeL_three m l hl.1, if_neg (by omega)] at hmk
  have c127 := cellB (l := was) 127 (by omega)
  have hN : (sealL 3 m l).length = 128 := sealL_len _ _ _ (by rw [hl.1]; omega)
  have hk1 : ((k : Int) % 128) = (p : Int) := by rw [← hp.out]; omega
  have hq0 : (0 : Int) ≤ (p : Int) := by omega
  have hq1 : (p : Int) ≤ 128 := by omega
  have hk2 : IntKind.i64.wrap (k : Int) = k := by rw [IntWalk.i64_in _ (by omega)]
  have hk3 : ((k : Int).tmod 128) = (p : Int) := by rw [← hk1]; exact Int.tmod_eq_emod_of_nonneg (by omega)
  dsimp only at hmk
  generalize sealL 3 m l = M at *
  obtain ⟨ht1, ht2⟩ := torn_last was M p hw hN hp2
  have hop : ∀ (kind : Int) (w : World), Calls Try.prog 20 #[aggB (splice was 0 (M.take p)), .int .i64 kind] w fun e w' => e = .returned (.tuple #[.int .i64 0, .slice none 0 0, .int .i64 53]) ∧ Below w.heap.size w w' :=
    fun kind w => open_bad _ kind w ht2 (.inl (by rw [ht1]; exact h))
  have hy : (((byteAt was 127 : Nat) : Int) == 215) = false := by rw [beq_eq_false_iff_ne]; omega
  have HL := Lib.hid (show (M.map bv).length = 128 by simpa using hN)
  have HW := Lib.hid hw
  have HN := Lib.hid hN
  have Hm := Lib.hid (mem_bv (l := M))
  have HS := Lib.hid (rfl : splice was 0 (M.take p) = splice was 0 (M.take p))
  obtain ⟨T, hT⟩ : ∃ T, Hid (splice was 0 (M.take p) = T) := ⟨_, rfl⟩
  have hTl : Hid ((T.map bv).length = 128) := by show _ = _; rw [List.length_map, ← hT.out, ht2]
  rw [hT.out] at hop
  clear hN h ht1 ht2 HS hw hp
  unfold aggB at *
  generalize byteAt was 127 = y at *
  have hz := (zero_of_info zero128).1
  have Hi := Lib.hid (zero_of_info zero128).2
  have Hz := Lib.hid (show (zerosL.map bv).length = 128 by simp [zerosL_len])
  unfold aggB at hz
  generalize zerosL.map bv = Z at *
  have Hmk := Lib.hid hmk
  clear hmk
  go_enter Try.func6, Try.ntmps6
  go_wp2_with (first
    | ((go_at_call 15; (with_reducible refine (awake7 _).mono ?_); rintro e w1 ⟨rfl, hB1⟩); have hd : BlkB w1 w.heap.size 24 was := (Blk.top (t := 24) (cs := was.map bv) w rfl rfl).below hB1 (by simp); replace hB1 := below_then' (a := w) (B := w.heap.size) (by (repeat' (first | (with_reducible exact Below.refl _ _) | (with_reducible assumption) | (with_reducible refine Below.drew ?_) | (with_reducible refine below_drewN ?_ _) | (with_reducible refine Below.alloc ?_ ?_ _) | (with_reducible refine Below.setCell ?_ ?_ _) | omega | (simp; done) | (simp; omega)))) hB1 (by first | omega | (simp; done) | (simp; omega)); have hB1s := hB1.size)
    | ((go_at_call 16; (with_reducible refine (Hmk.out _ (hl.below (B := w.heap.size) (by (repeat' (first | (with_reducible exact Below.refl _ _) | (with_reducible assumption) | (with_reducible refine Below.drew ?_) | (with_reducible refine below_drewN ?_ _) | (with_reducible refine Below.alloc ?_ ?_ _) | (with_reducible refine Below.setCell ?_ ?_ _) | omega | (simp; done) | (simp; omega)))) (Nat.le_refl _))).mono ?_); rintro e w2 ⟨rfl, hB2⟩); replace hd := hd.below hB2 hd.lt; replace hB2 := below_then' (a := w) (B := w.heap.size) (by (repeat' (first | (with_reducible exact Below.refl _ _) | (with_reducible assumption) | (with_reducible refine Below.drew ?_) | (with_reducible refine below_drewN ?_ _) | (with_reducible refine Below.alloc ?_ ?_ _) | (with_reducible refine Below.setCell ?_ ?_ _) | omega | (simp; done) | (simp; omega)))) hB2 (by first | omega | (simp; done) | (simp; omega)); have hB2s := hB2.size)
    | ((refine wpList_store_arr rfl (x := .tmp 7) (y := .tmp 20) rfl rfl rfl (t := 24) (cs := Z) (xs := M.map bv) (Blk.top _ rfl rfl) Hi.out HL.out (by rw [Hz.out]; omega) Hm.out ?_; intro w3 hb3 hg3 hs3; rw [splice_all _ _ (by rw [Hz.out, HL.out])] at hb3); replace hd : BlkB w3 w.heap.size 24 was := (hd.alloc _).grown hg3 (by have := hd.lt; simp; omega); have k127 := (hd.cell 127).trans c127))
  have hB3 : Below w.heap.size w w3 := below_of_only (hB2.alloc hB2.size _) hg3 (by have := hB2.size; simp; omega) hB2.size
  have hM3 : RB w3 (some ⟨w2.heap.size, 0, none⟩) 128 M := BlkB.rb (off := 0) hb3 (by rw [List.drop_zero, List.take_of_length_le (by rw [HN.out]; omega)]) (by rw [HN.out]; omega)
  go_region_held3 (fun _ => True) (trivial) ((refine step_copy_rd rfl (d := .tmp 32) (s := .tmp 33) rfl elemU8 bv_one (g := w.heap.size) (off := 0) (l := was) (k := M) rfl rfl (fun _ => rfl) hd.drew hM3.rd.drew' (by rw [HW.out]; omega) hT.out ?_; intro w4 hb4 hg4 hs4))
  have hB4 : Below w.heap.size w w4 := below_of_only hB3.drew hg4 hB3.size (Nat.le_refl _)
  replace hb4 : Blk w4 w.heap.size 24 (T.map bv) := hb4
  clear hg4 hB3 hM3 hd hg3 hb3 hs3 hs4 k127 hB2 hB1 hk1 hk2 hk3 hq0 hq1
  go_wp2
  go_loopw [35] (fun i wr => ∃ n : Nat, n ≤ 5 ∧ i = .int .i64 (n : Nat) ∧ Blk wr w.heap.size 24 (T.map bv) ∧ Below w.heap.size w wr) (fun i _ => 5 - (intOf i).toNat)
  case atStart => exact ⟨0, by omega, rfl, hb4, hB4⟩
  case round =>
    obtain ⟨n, hn, rfl, hbr, hBr⟩ := hrel
    have hlt := hbr.lt
    by_cases hn5 : n < 5
    · go_wp2_with (first
        | (refine wpList_load_arr rfl (x := .tmp 4) rfl rfl (t := 24) (cs := T.map bv) hbr Try.underlying24 Hi.out hTl.out (xs := T.map bv) (by rw [List.drop_zero, List.take_of_length_le (by rw [hTl.out]; omega)]) ?_)
        | ((go_at_call 20; (with_reducible refine (hop _ _).mono ?_); rintro e w5 ⟨rfl, hB5⟩); replace hbr := hbr.below hB5 hlt; replace hB5 := below_then' (a := w) (B := w.heap.size) (by (repeat' (first | (with_reducible exact Below.refl _ _) | (with_reducible assumption) | (with_reducible refine Below.drew ?_) | (with_reducible refine below_drewN ?_ _) | (with_reducible refine Below.alloc ?_ ?_ _) | (with_reducible refine Below.setCell ?_ ?_ _) | omega | (simp; done) | (simp; omega)))) hB5 (by first | omega | (simp; done) | (simp; omega)); have hB5s := hB5.size))
      go_roundw
      case rel => exact ⟨n + 1, by omega, by go_num, hbr, hB5⟩
      case measure => simp [intOf]; omega
    · go_wp2
      go_ret
      exact ⟨rfl, hBr⟩

theorem walk (w : World) (A : Option Addr) (m c : Nat) (l : List UInt8) (r0 : RB w A m l) (nc : m ≤ c) (cm : c ≤ maxLen) (v : Value) (hv : ∃ l : List UInt8, v = .agg (l.map bv).toArray ∧ l.length = 128) (k : Int) (wf : (Lit.int .u8 k).wf = true) :
    Calls Try.prog 6 #[.slice A m c, v, .int .u8 k] w fun e w' => e = .returned (.bool true) ∧ Below w.heap.size w w' := by
  obtain ⟨was, rfl, hw⟩ := hv
  by_cases h : 113 < m ∨ (m ≤ 113 ∧ byteAt was 127 = 215)
  · exact walk_past A m c l was k w r0 (by omega) hw h
  · have hk := bounds_u8 wf
    obtain ⟨k, rfl⟩ := Int.eq_ofNat_of_zero_le hk.1
    exact walk_torn A m c l was k (k % 128) w r0 (by omega) hw (by omega) (by omega) rfl (by omega)

--FRAME tompionlaw07 SealTorn sealTorn walk bytes raw:[128]uint8:(args_byteArray‹_›Try.underlying24‹_›Try.underlying5‹_›(by‹_›kernel_rfl)‹_›(by‹_›kernel_rfl)):.agg‹_›(Array.replicate‹_›128‹_›(.int‹_›.u8‹_›0)) u8
theorem own : ownKnob Try.prog.godebug = none := by kernel_rfl
theorem laidOut : laidOutB Try.prog = true := by kernel_rfl

set_option maxRecDepth 100000 in
theorem lifted (os : Os) (started : os.Started) (H : Type) (enc : TypeId × Value → H) :
    ReturnsInHanded {} Try.checked os 6 .any (Rows.sealTornSpec.pre6 enc Try.prog Try.f6 Rows.sealTornRow.domain false) (Rows.sealTornSpec.post enc Try.prog Try.f6 false true false false) := by
  refine returnsInHanded_of_change (C := Try.checked) own started (by kernel_rfl) Try.func6
    (ChangeSpec.witness6 (enc := enc) (C := Try.checked) false ⟨#[], #[.slice none 0 0, .agg (Array.replicate 128 (.int .u8 0)), .int .u8 0], []⟩ 8 (by kernel_rfl) (by kernel_rfl) (by kernel_rfl) (by kernel_rfl)) ?_
  intro W base args ds gs before hval0 hW hcnd _
  have hval : ∀ (j : Nat) t v, Try.f6.params[j]? = some t → args[j]? = some v → Value.okWide Try.prog W .any base t v := hval0
  have hW' := hW
  obtain ⟨p, q, hA0, hV, rfl, hfz, hnd⟩ := hW
  have hA : DataW.TrodAll enc Try.prog W 0 (fun _ => true) true Try.f6.params.toList args.toList ds p := hA0
  rw [Try.params6] at hA hval
  obtain ⟨v0, vs0, d0, ds0, p0, q0, hargs, rfl, rfl, h0, rr0⟩ := trodAll_cons hA
  obtain ⟨v1, vs1, d1, ds1, p1, q1, rfl, rfl, rfl, h1, rr1⟩ := trodAll_cons rr0
  obtain ⟨v2, vs2, d2, ds2, p2, q2, rfl, rfl, rfl, h2, rr2⟩ := trodAll_cons rr1
  obtain ⟨rfl, rfl, rfl⟩ := trodAll_nil rr2
  obtain rfl : args = #[v0, v1, v2] := by cases args; simp_all
  obtain ⟨rfl, rfl⟩ := trodVars_none hV
  have k0 := h0
  have lt0 : ∀ x ∈ p0, x.block < W.heap.size := by obtain ⟨m, hm⟩ := k0; exact DataW.trod_lt m _ _ _ hm
  obtain ⟨A0, n0, c0, l0, rfl, r0, nc0, cm0⟩ := args_bytes Try.underlying22 Try.underlying5 (by kernel_rfl) (hval 0 22 v0 rfl rfl) h0
  have k1 := h1
  have lt1 : ∀ x ∈ p1, x.block < W.heap.size := by obtain ⟨m, hm⟩ := k1; exact DataW.trod_lt m _ _ _ hm
  have x1 := (args_byteArray Try.underlying24 Try.underlying5 (by kernel_rfl) (by kernel_rfl)) (hval 1 24 v1 rfl rfl) h1
  have k2 := h2
  have lt2 : ∀ x ∈ p2, x.block < W.heap.size := by obtain ⟨m, hm⟩ := k2; exact DataW.trod_lt m _ _ _ hm
  obtain ⟨a2, rfl, wf2⟩ := args_int Try.underlying5 (hval 2 5 v2 rfl rfl) h2
  clear hA0 hval0
  refine (walk W A0 n0 c0 l0 r0 nc0 cm0 v1 x1 a2 wf2).mono fun e W' ⟨he, bel⟩ => ?_
  subst he
  exact ⟨_, rfl, _, _, _, [], _, [], hW', trodAll_mk1 (shut_bool Try.underlying4 _), (trodAll_cons_mk (Below.trod laidOut (by kernel_rfl) (of_decide_eq_true (by kernel_rfl)) k0 bel lt0) (trodAll_cons_mk (Below.trod laidOut (by kernel_rfl) (of_decide_eq_true (by kernel_rfl)) k1 bel lt1) (trodAll_cons_mk (Below.trod laidOut (by kernel_rfl) (of_decide_eq_true (by kernel_rfl)) k2 bel lt2) trodAll_mk0))), rfl, bel.frame _, fun h => by cases h⟩

theorem over : Rows.sealTornRow.holds Try.pinned (OpenSpec.ofChange Rows.sealTornSpec) :=
  OpenClaim.holds_of_wide 6 Try.f6 rfl rfl rfl rfl rfl rfl rfl ⟨rfl, rfl, rfl, rfl, rfl⟩ rfl rfl rfl rfl rfl (by kernel_rfl) Try.func6 (by kernel_rfl)
    (of_decide_eq_true (by kernel_rfl)) (by unfold Func.isWrapper; first | (rw [if_pos (by decide +kernel)]; kernel_rfl) | (rw [if_neg (by decide +kernel)]; exact ⟨rfl, rfl⟩))
    (fun os started H enc _ => lifted os started H enc)

theorem proved : Rows.SealTornSaid := over
--ENDFRAME
end Go.Proofs.Ytmaiafmpihpleaa.sealTorn
