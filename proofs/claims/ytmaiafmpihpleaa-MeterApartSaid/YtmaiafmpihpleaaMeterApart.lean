/- MeterApart: what is done of one kind changes no other one's count; what was taken and what is there is what was added. -/
import Derived.Test.YtmaiafmpihpleaaMeterB
import Derived.Test.YtmaiafmpihpleaaFrameB
namespace Go.Proofs.Ytmaiafmpihpleaa.meterApart
open Go.ChangeShapes Go.WideShapes Go.ChangeAt Go.RowKit
set_option linter.unusedVariables false

theorem mCnt_zero (kind : Int) : mCnt [0, 0, 0, 0, 0, 0] kind = 0 := by
  unfold mCnt mGet
  split
  · show (List.replicate 6 (0 : Int)).getD _ 0 = 0
    generalize (kind - 1).toNat = q
    rw [List.getD_eq_getElem?_getD, List.getElem?_replicate]
    split <;> rfl
  · rfl
section
variable {H : Type} {enc : TypeId × Value → H} {w : World} {base b0 : Nat} {held : Bool} {r : Reach} {v : Value} {d : DataW H} {ps : List MemPlace}
set_option maxRecDepth 100000 in
theorem args_do (hval : Value.okWide Try.prog w r b0 41 v) (hd : DataW.Trod enc Try.prog w base (fun _ => true) held 41 v d ps) :
    ∃ A n c, ∃ zs : List Int, v = .slice A n c ∧ zs.length = n * 3 ∧ Row w A (n * 3) (fun i => .int .i64 (zs.getD i 0)) ∧ n ≤ c ∧ c ≤ maxLen ∧ (∀ z ∈ zs, -9223372036854775808 ≤ z ∧ z ≤ 9223372036854775807) :=
  args_structs (k := 3) Try.underlying41 Try.underlying45 (by kernel_rfl) (by kernel_rfl) rfl (fun j f h => by
    match j, h with
    | 0, h => simp at h; subst h; exact Try.underlying3
    | 1, h => simp at h; subst h; exact Try.underlying3
    | 2, h => simp at h; subst h; exact Try.underlying3
    | k + 3, h => simp at h) hval hd
end

theorem walk_big (A : Option Addr) (n c : Nat) (kind : Int) (w : World) (h : 60 < n) (hn : n ≤ maxLen) :
    Calls Try.prog 8 #[.slice A n c, .int .i64 kind] w fun e w' => e = .returned (.bool true) ∧ Below w.heap.size w w' := by
  unfold maxLen at hn
  go_enter Try.func8, Try.ntmps8
  go_wp2_with (go_at_call 22; (with_reducible refine (awake5 _).mono ?_); rintro e w1 ⟨rfl, hB1⟩)
  go_ret
  exact ⟨rfl, hB1⟩

set_option maxRecDepth 100000 in
set_option maxHeartbeats 2000000 in
theorem walk_small (A : Option Addr) (n c : Nat) (zs : List Int) (kind : Int) (w : World) (h : n ≤ 60) (hr : Row w A (n * 3) (fun i => .int .i64 (zs.getD i 0))) :
    Calls Try.prog 8 #[.slice A n c, .int .i64 kind] w fun e w' => e = .returned (.bool true) ∧ Below w.heap.size w w' := by
  go_enter Try.func8, Try.ntmps8
  go_wp2_with (first
    | (go_at_call 22; (with_reducible refine (awake5 _).mono ?_); rintro e w1 ⟨rfl, hB1⟩)
    | ((go_at_call 23; (with_reducible refine (newmeter_any _).mono ?_); rintro e w2 ⟨rfl, hm2, hB2, hs2⟩); have hlt2 : w1.heap.size < w2.heap.size := (by omega); clear hs2; replace hB2 := below_then hB1 hB2 hB1.size))
  have hB1s := hB1.size
  go_loopw [6, 7, 19] (fun s t i wr => ∃ (k : Nat) (l : List Int) (x y : Int), k ≤ n ∧ i = .int .i64 (k : Nat) ∧ s = .int .i64 x ∧ t = .int .i64 y ∧ Hid (mCnt l kind = wrap64 (x - y)) ∧ MeterAt wr w1.heap.size l ∧ Below w.heap.size w wr) (fun _ _ i _ => n - (intOf i).toNat)
  case atStart => exact ⟨0, [0, 0, 0, 0, 0, 0], 0, 0, by omega, rfl, rfl, rfl, by show mCnt [0, 0, 0, 0, 0, 0] kind = wrap64 (0 - 0); rw [mCnt_zero]; unfold wrap64; omega, hm2, hB2⟩
  case round =>
    obtain ⟨k, l, x, y, hk, rfl, rfl, rfl, hI, hm, hB⟩ := hrel
    have hltr := hm.2.lt
    by_cases hkn : k < n
    · obtain ⟨b, o, rfl, hb, hc⟩ := hr (by omega)
      have c0 : wr.cell? ⟨b, o + k * 3, none⟩ = some (.int .i64 (zs.getD (k * 3) 0)) := (hB.cell (p := ⟨b, o + k * 3, none⟩) hb).trans (hc (k * 3) (by omega))
      have c1 : wr.cell? ⟨b, o + k * 3 + 1, none⟩ = some (.int .i64 (zs.getD (k * 3 + 1) 0)) := (hB.cell (p := ⟨b, o + k * 3 + 1, none⟩) hb).trans (hc (k * 3 + 1) (by omega))
      have c2 : wr.cell? ⟨b, o + k * 3 + 2, none⟩ = some (.int .i64 (zs.getD (k * 3 + 2) 0)) := (hB.cell (p := ⟨b, o + k * 3 + 2, none⟩) hb).trans (hc (k * 3 + 2) (by omega))
      generalize zs.getD (k * 3) 0 = What at *
      generalize zs.getD (k * 3 + 1) 0 = Kind at *
      generalize zs.getD (k * 3 + 2) 0 = N at *
      clear hc
      by_cases hK : Kind = kind
      · subst hK
        have e1 : (Kind != Kind) = false := by simp
        by_cases hW : What = 3
        · have e2 : (What == 3) = true := by rw [hW]; rfl
          have hI2 : Hid (mCnt (mTake l Kind) Kind = wrap64 (x - wrap64 (y + mCnt l Kind))) := by
            show _ = _
            rw [mCnt_take hm.1]; exact wrap_take x y _ hI.out
          clear hW
          go_wp2_with ((go_at_call 27; (with_reducible refine (take_any _ _ _ _ (hm.alloc _)).mono ?_); rintro e w3 ⟨rfl, hm3, hg3, hs3⟩); replace hg3 : Below w.heap.size w w3 := below_of_only (hB.alloc hB.size _) hg3 (by have := hB.size; simp; omega) hB1s; clear hs3)
          go_roundw
          case rel => exact ⟨k + 1, _, _, _, by omega, by go_num, rfl, rfl, hI2, hm3, hg3⟩
          case measure => simp [intOf]; omega
        · have e2 : (What == 3) = false := by rw [beq_eq_false_iff_ne]; exact hW
          clear hW
          cases hin : inK Kind with
          | true =>
            have hI2 : Hid (mCnt (mAdd l Kind N) Kind = wrap64 (wrap64 (x + N) - y)) := by
              show _ = _
              rw [mCnt_add hm.1, if_pos hin]; exact wrap_add x y _ N hI.out
            have hadd := fun w h => add_any w1.heap.size l Kind N w h
            rw [hin] at hadd
            have Hadd := Lib.hid hadd
            clear hadd hin
            go_wp2_with ((go_at_call 25; (with_reducible refine (Hadd.out _ (hm.alloc _)).mono ?_); rintro e w3 ⟨rfl, hm3, hg3, hs3⟩); have d2 : w3.cell? ⟨wr.heap.size, 2, none⟩ = some (.int .i64 N) := (((Blk.top (t := 45) (cs := [.int .i64 What, .int .i64 Kind, .int .i64 N]) wr rfl rfl).grown hg3 (by simp; omega)).cell 2); replace hg3 : Below w.heap.size w w3 := below_of_only (hB.alloc hB.size _) hg3 (by have := hB.size; simp; omega) hB1s; clear hs3)
            go_roundw
            case rel => exact ⟨k + 1, _, _, _, by omega, by go_num, rfl, rfl, hI2, hm3, hg3⟩
            case measure => simp [intOf]; omega
          | false =>
            have hI2 : Hid (mCnt (mAdd l Kind N) Kind = wrap64 (x - y)) := by
              show _ = _
              rw [← hI.out]
              unfold mCnt; simp [hin]
            have hadd := fun w h => add_any w1.heap.size l Kind N w h
            rw [hin] at hadd
            have Hadd := Lib.hid hadd
            clear hadd hin
            go_wp2_with ((go_at_call 25; (with_reducible refine (Hadd.out _ (hm.alloc _)).mono ?_); rintro e w3 ⟨rfl, hm3, hg3, hs3⟩); replace hg3 : Below w.heap.size w w3 := below_of_only (hB.alloc hB.size _) hg3 (by have := hB.size; simp; omega) hB1s; clear hs3)
            go_roundw
            case rel => exact ⟨k + 1, _, _, _, by omega, by go_num, rfl, rfl, hI2, hm3, hg3⟩
            case measure => simp [intOf]; omega
      · have e1 : (Kind != kind) = true := by rw [bne_iff_ne]; exact hK
        have hI2 : Hid (mCnt (mTake (mRse (mAdd l Kind N) Kind N) Kind) kind = wrap64 (x - y)) := by
          show _ = _
          rw [mCnt_far hK]; exact hI.out
        have hsame : Hid (mCnt (mTake (mRse (mAdd l Kind N) Kind N) Kind) kind = mCnt l kind) := mCnt_far hK N N
        clear hK
        have hD0 := Blk.top (t := 45) (cs := [.int .i64 What, .int .i64 Kind, .int .i64 N]) (cs' := #[.int .i64 What, .int .i64 Kind, .int .i64 N]) wr rfl rfl
        have HD0 := Lib.hid hD0
        clear hD0
        have hne : some w1.heap.size ≠ some wr.heap.size := by simp; omega
        have HN := Lib.hid hne
        clear hne
        go_wp2_with (first
          | ((go_at_call 24; (with_reducible refine (count_any _ _ _ _ (hm.alloc _)).mono ?_); rintro e w3 ⟨rfl, rfl⟩))
          | ((go_at_call 25; (with_reducible refine (add_any _ _ _ _ _ (hm.alloc _)).mono ?_); rintro e w4 ⟨rfl, hm4, hg4, hs4⟩); have d4 := HD0.out.grown hg4 HN.out; have d41 : w4.cell? ⟨wr.heap.size, 1, none⟩ = some (.int .i64 Kind) := (d4.cell 1); have d42 : w4.cell? ⟨wr.heap.size, 2, none⟩ = some (.int .i64 N) := (d4.cell 2); replace hg4 : Below w.heap.size w w4 := below_of_only (hB.alloc hB.size _) hg4 (by have := hB.size; simp; omega) hB1s; clear hs4)
          | ((go_at_call 26; (with_reducible refine (raise_any _ _ _ _ _ hm4).mono ?_); rintro e w5 ⟨rfl, hm5, hg5, hs5⟩); have d5 := d4.grown hg5 HN.out; have d51 : w5.cell? ⟨wr.heap.size, 1, none⟩ = some (.int .i64 Kind) := (d5.cell 1); replace hg5 : Below w.heap.size w w5 := below_of_only hg4 hg5 hg4.size hB1s; clear hs5)
          | ((go_at_call 27; (with_reducible refine (take_any _ _ _ _ hm5).mono ?_); rintro e w6 ⟨rfl, hm6, hg6, hs6⟩); replace hg6 : Below w.heap.size w w6 := below_of_only hg5 hg6 hg5.size hB1s; clear hs6)
          | ((go_at_call 24; (with_reducible refine (count_any _ _ _ _ hm6).mono ?_); rintro e w7 ⟨rfl, rfl⟩); have hsm := hsame.out))
        go_roundw
        case rel => exact ⟨k + 1, _, _, _, by omega, by go_num, rfl, rfl, hI2, hm6, hg6⟩
        case measure => simp [intOf]; omega
    · go_wp2_with (go_at_call 24; (with_reducible refine (count_any _ _ _ _ hm).mono ?_); rintro e w3 ⟨rfl, rfl⟩)
      go_ret
      exact ⟨ret_bool (by rw [hI.out]; simp), hB⟩

theorem walk (w : World) (v : Value) (hv : ∃ A n c, ∃ zs : List Int, v = .slice A n c ∧ zs.length = n * 3 ∧ Row w A (n * 3) (fun i => .int .i64 (zs.getD i 0)) ∧ n ≤ c ∧ c ≤ maxLen ∧ (∀ z ∈ zs, -9223372036854775808 ≤ z ∧ z ≤ 9223372036854775807)) (kind : Int) (wf1 : (Lit.int .i64 kind).wf = true) :
    Calls Try.prog 8 #[v, .int .i64 kind] w fun e w' => e = .returned (.bool true) ∧ Below w.heap.size w w' := by
  obtain ⟨A, n, c, zs, rfl, _, hr, hnc, hcm, _⟩ := hv
  by_cases h : 60 < n
  · exact walk_big A n c kind w h (by omega)
  · exact walk_small A n c zs kind w (by omega) hr

--FRAME tompionlaw05 MeterApart meterApart walk raw:[]tompionlaw05.Do:args_do:.slice‹_›none‹_›0‹_›0 i64
theorem own : ownKnob Try.prog.godebug = none := by kernel_rfl
theorem laidOut : laidOutB Try.prog = true := by kernel_rfl

set_option maxRecDepth 100000 in
theorem lifted (os : Os) (started : os.Started) (H : Type) (enc : TypeId × Value → H) :
    ReturnsInHanded {} Try.checked os 8 .any (Rows.meterApartSpec.pre6 enc Try.prog Try.f8 Rows.meterApartRow.domain false) (Rows.meterApartSpec.post enc Try.prog Try.f8 false true false false) := by
  refine returnsInHanded_of_change (C := Try.checked) own started (by kernel_rfl) Try.func8
    (ChangeSpec.witness6 (enc := enc) (C := Try.checked) false ⟨#[], #[.slice none 0 0, .int .i64 0], []⟩ 8 (by kernel_rfl) (by kernel_rfl) (by kernel_rfl) (by kernel_rfl)) ?_
  intro W base args ds gs before hval0 hW hcnd _
  have hval : ∀ (j : Nat) t v, Try.f8.params[j]? = some t → args[j]? = some v → Value.okWide Try.prog W .any base t v := hval0
  have hW' := hW
  obtain ⟨p, q, hA0, hV, rfl, hfz, hnd⟩ := hW
  have hA : DataW.TrodAll enc Try.prog W 0 (fun _ => true) true Try.f8.params.toList args.toList ds p := hA0
  rw [Try.params8] at hA hval
  obtain ⟨v0, vs0, d0, ds0, p0, q0, hargs, rfl, rfl, h0, rr0⟩ := trodAll_cons hA
  obtain ⟨v1, vs1, d1, ds1, p1, q1, rfl, rfl, rfl, h1, rr1⟩ := trodAll_cons rr0
  obtain ⟨rfl, rfl, rfl⟩ := trodAll_nil rr1
  obtain rfl : args = #[v0, v1] := by cases args; simp_all
  obtain ⟨rfl, rfl⟩ := trodVars_none hV
  have k0 := h0
  have lt0 : ∀ x ∈ p0, x.block < W.heap.size := by obtain ⟨m, hm⟩ := k0; exact DataW.trod_lt m _ _ _ hm
  have x0 := args_do (hval 0 41 v0 rfl rfl) h0
  have k1 := h1
  have lt1 : ∀ x ∈ p1, x.block < W.heap.size := by obtain ⟨m, hm⟩ := k1; exact DataW.trod_lt m _ _ _ hm
  obtain ⟨a1, rfl, wf1⟩ := args_int Try.underlying3 (hval 1 3 v1 rfl rfl) h1
  clear hA0 hval0
  refine (walk W v0 x0 a1 wf1).mono fun e W' ⟨he, bel⟩ => ?_
  subst he
  exact ⟨_, rfl, _, _, _, [], _, [], hW', trodAll_mk1 (shut_bool Try.underlying4 _), (trodAll_cons_mk (Below.trod laidOut (by kernel_rfl) (of_decide_eq_true (by kernel_rfl)) k0 bel lt0) (trodAll_cons_mk (Below.trod laidOut (by kernel_rfl) (of_decide_eq_true (by kernel_rfl)) k1 bel lt1) trodAll_mk0)), rfl, bel.frame _, fun h => by cases h⟩

theorem over : Rows.meterApartRow.holds Try.pinned (OpenSpec.ofChange Rows.meterApartSpec) :=
  OpenClaim.holds_of_wide 8 Try.f8 rfl rfl rfl rfl rfl rfl rfl ⟨rfl, rfl, rfl, rfl, rfl⟩ rfl rfl rfl rfl rfl (by kernel_rfl) Try.func8 (by kernel_rfl)
    (of_decide_eq_true (by kernel_rfl)) (by unfold Func.isWrapper; first | (rw [if_pos (by decide +kernel)]; kernel_rfl) | (rw [if_neg (by decide +kernel)]; exact ⟨rfl, rfl⟩))
    (fun os started H enc _ => lifted os started H enc)

theorem proved : Rows.MeterApartSaid := over
--ENDFRAME
end Go.Proofs.Ytmaiafmpihpleaa.meterApart
