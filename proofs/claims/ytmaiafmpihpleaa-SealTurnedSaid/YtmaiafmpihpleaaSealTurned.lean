/- SealTurned: a sealed sector of which some of four bytes side by side, of the first 123, are turned, is not sealed any more. -/
import Derived.Test.YtmaiafmpihpleaaSealLawA
import Derived.Test.YtmaiafmpihpleaaFrame
import Derived.Test.YtmaiafmpihpleaaPlainTells
import Derived.Test.YtmaiafmpihpleaaRegion
namespace Go.Proofs.Ytmaiafmpihpleaa.sealTurned
open Go.ChangeShapes Go.WideShapes Go.ChangeAt Go.RowKit
set_option linter.unusedVariables false

theorem calls_world {P : Program} {f : FuncId} {args : Array Value} {K : Ending → World → Prop} {w : World} (F : World → Prop) (hF : F w) (h : ∀ w', F w' → Calls P f args w' K) : Calls P f args w K := h w hF
theorem makeL_three (m : Nat) (l : List UInt8) (hl : l.length = m) : makeL 3 (m : Int) l = if 113 < m then (zerosL, 3) else (sealL 3 m l, 0) := by
  unfold makeL
  rw [if_neg (by omega), hl]; rfl

/-- What is turned is not sealed. -/
theorem turned_not (m : Nat) (l : List UInt8) (p : Nat) (b : Nat → UInt8) (hl : l.length ≤ 113) (hp : p < 120) (kind : Int) (h : turned (sealL 3 m l) p b 4 ≠ sealL 3 m l) : opens (turned (sealL 3 m l) p b 4) kind = false := by
  cases ho : opens (turned (sealL 3 m l) p b 4) kind with
  | false => rfl
  | true =>
    exfalso
    obtain ⟨h1, h2, h3, h4, h5⟩ := opens_parts ho
    have hlen := sealL_len 3 m l hl
    have hb := sealBody_len 3 m l hl
    generalize hT : turned (sealL 3 m l) p b 4 = T at *
    have hTl : T.length = 128 := by rw [← hT, turned_len, hlen]
    have hlo := openLoad_len hTl h4
    have hb2 := sealBody_len kind.toNat (openNum T) (openLoad T) (by omega)
    -- the two bodies
    have e1 : T.take 123 = turned (sealBody 3 m l) p b 4 := by
      rw [← hT]; unfold sealL
      rw [turned_app _ _ _ _ _ (by omega), List.take_append_of_le_length (by rw [turned_len]; omega), List.take_of_length_le (by rw [turned_len]; omega)]
    have e2 : T.take 123 = sealBody kind.toNat (openNum T) (openLoad T) := by
      conv => lhs; rw [← h5]
      exact sealL_body (by omega)
    have e3 : (T.drop 123).take 4 = le4 (crcSum [sealBody 3 m l]) := by
      rw [← hT]; unfold sealL
      rw [turned_app _ _ _ _ _ (by omega), List.drop_append_of_le_length (by rw [turned_len]; omega), List.drop_of_length_le (by rw [turned_len]; omega), List.nil_append, List.take_append_of_le_length (by rw [le4_len]; omega), List.take_of_length_le (by rw [le4_len]; omega)]
    have e4 : (T.drop 123).take 4 = le4 (crcSum [sealBody kind.toNat (openNum T) (openLoad T)]) := by
      conv => lhs; rw [← h5]
      unfold sealL
      rw [List.drop_append_of_le_length (by omega), List.drop_of_length_le (by omega), List.nil_append, List.take_append_of_le_length (by rw [le4_len]; omega), List.take_of_length_le (by rw [le4_len]; omega)]
    have e5 : crcSum [sealBody 3 m l] = crcSum [turned (sealBody 3 m l) p b 4] := le4_inj (crcSum_lt _) (crcSum_lt _) (by rw [← e3, e4, ← e2, e1])
    have e6 := turned_told (sealBody 3 m l) p b (by omega)
    rw [e5] at e6
    have e7 : sealBody 3 m l = turned (sealBody 3 m l) p b 4 := by simpa using e6
    apply h
    rw [← hT]
    unfold sealL
    rw [turned_app _ _ _ _ _ (by omega), ← e7]

set_option maxRecDepth 100000 in
set_option maxHeartbeats 1000000 in
theorem walk_past (A : Option Addr) (m c : Nat) (l : List UInt8) (at_ b0 b1 b2 b3 : Int) (w : World) (hl : RB w A m l) (hm : m ≤ maxLen) (h : 113 < m) :
    Calls Try.prog 7 #[.slice A m c, .int .u8 at_, .agg #[.int .u8 b0, .int .u8 b1, .int .u8 b2, .int .u8 b3]] w fun e w' => e = .returned (.bool true) ∧ Below w.heap.size w w' := by
  have hmk := fun (w : World) hl => make_any 3 m A m c l w (by unfold maxLen at hm; omega) hm hl
  have hN := makeL_len 3 m l
  have hr : ((makeL 3 m l).2 != 0) = true := by rw [makeL_three m l hl.1, if_pos h]; rfl
  generalize (makeL 3 m l).1 = M at *
  generalize (makeL 3 m l).2 = r at *
  have HL := Lib.hid (show (M.map bv).length = 128 by simpa using hN)
  have Hm := Lib.hid (mem_bv (l := M))
  unfold aggB at *
  generalize M.map bv = C at *
  have hz := (zero_of_info zero128).1
  have Hi := Lib.hid (zero_of_info zero128).2
  have Hz := Lib.hid (show (zerosL.map bv).length = 128 by simp [zerosL_len])
  unfold aggB at hz
  generalize zerosL.map bv = Z at *
  unfold maxLen at hm
  have Hmk := Lib.hid hmk
  clear hmk
  go_enter Try.func7, Try.ntmps7
  go_wp2_with (first
    | ((go_at_call 15; (with_reducible refine (awake7 _).mono ?_); rintro e w1 ⟨rfl, hB1⟩); replace hB1 := below_then' (a := w) (B := w.heap.size) (by (repeat' (first | (with_reducible exact Below.refl _ _) | (with_reducible assumption) | (with_reducible refine Below.drew ?_) | (with_reducible refine below_drewN ?_ _) | (with_reducible refine Below.alloc ?_ ?_ _) | (with_reducible refine Below.setCell ?_ ?_ _) | omega | (simp; done) | (simp; omega)))) hB1 (by first | omega | (simp; done) | (simp; omega)); have hB1s := hB1.size)
    | ((go_at_call 16; (with_reducible refine (Hmk.out _ (hl.below (B := w.heap.size) (by (repeat' (first | (with_reducible exact Below.refl _ _) | (with_reducible assumption) | (with_reducible refine Below.drew ?_) | (with_reducible refine below_drewN ?_ _) | (with_reducible refine Below.alloc ?_ ?_ _) | (with_reducible refine Below.setCell ?_ ?_ _) | omega | (simp; done) | (simp; omega)))) (Nat.le_refl _))).mono ?_); rintro e w2 ⟨rfl, hB2⟩); replace hB2 := below_then' (a := w) (B := w.heap.size) (by (repeat' (first | (with_reducible exact Below.refl _ _) | (with_reducible assumption) | (with_reducible refine Below.drew ?_) | (with_reducible refine below_drewN ?_ _) | (with_reducible refine Below.alloc ?_ ?_ _) | (with_reducible refine Below.setCell ?_ ?_ _) | omega | (simp; done) | (simp; omega)))) hB2 (by first | omega | (simp; done) | (simp; omega)); have hB2s := hB2.size)
    | (refine wpList_store_arr rfl (x := .tmp 7) (y := .tmp 22) rfl rfl rfl (t := 24) (cs := Z) (xs := C) (Blk.top _ rfl rfl) Hi.out HL.out (by rw [Hz.out]; omega) Hm.out ?_; intro w3 hb3 hg3 hs3; rw [splice_all _ _ (by rw [Hz.out, HL.out])] at hb3))
  go_ret
  exact ⟨rfl, below_of_only (hB2.alloc hB2.size _) hg3 (by have := hB2.size; simp; omega) hB2.size⟩

set_option maxRecDepth 100000 in
set_option maxHeartbeats 2000000 in
theorem walk_mid (A : Option Addr) (m c at_ p : Nat) (l : List UInt8) (b : Nat → UInt8) (w : World) (hm : m ≤ 113) (ha : at_ ≤ 255) (hl : RB w A m l) (hp : Hid (at_ % 120 = p)) (hp2 : p < 120) :
    Calls Try.prog 7 #[.slice A m c, .int .u8 at_, .agg #[.int .u8 (b 0).toNat, .int .u8 (b 1).toNat, .int .u8 (b 2).toNat, .int .u8 (b 3).toNat]] w fun e w' => e = .returned (.bool true) ∧ Below w.heap.size w w' := by
  have hmk := fun (w : World) hl => make_any 3 m A m c l w (by omega) (by unfold maxLen; omega) hl
  rw [makeL_three m l hl.1, if_neg (by omega)] at hmk
  have hN : (sealL 3 m l).length = 128 := sealL_len _ _ _ (by rw [hl.1]; omega)
  have hturn := fun kind h => turned_not m l p b (by rw [hl.1]; exact hm) hp2 kind h
  have hp1 : ((at_ : Int) % 120) = (p : Int) := by rw [← hp.out]; omega
  dsimp only at hmk
  generalize sealL 3 m l = M at *
  have hTl : (turned M p b 4).length = 128 := by rw [turned_len, hN]
  have hop : ∀ (w : World), Calls Try.prog 20 #[aggB (turned M p b 4), .int .i64 (byteAt (turned M p b 4) 0 : Nat)] w fun e w' => ∃ N A n c r, e = .returned (.tuple #[.int .i64 N, .slice A n c, .int .i64 r]) ∧ (decide (turned M p b 4 = M) = true ∨ r = 53) ∧ Below w.heap.size w w' := fun w =>
    (open_any (turned M p b 4) _ w hTl).mono fun e w' h => by
      rcases h with ⟨_, rfl, hB⟩ | ⟨ho, A5, c5, rfl, _, hB⟩
      · exact ⟨_, _, _, _, _, rfl, .inr rfl, hB⟩
      · refine ⟨_, _, _, _, _, rfl, .inl ?_, hB⟩
        by_cases hE : turned M p b 4 = M
        · simpa using hE
        · rw [hturn _ hE] at ho; cases ho
  have hq := fun w => eq128 (turned M p b 4) M hTl hN w
  have HL := Lib.hid (show (M.map bv).length = 128 by simpa using hN)
  have HN := Lib.hid hN
  have Hm := Lib.hid (mem_bv (l := M))
  have HT := Lib.hid (show ((turned M p b 4).map bv).length = 128 by simpa using hTl)
  have cT0 := cellB (l := turned M p b 4) 0 (by omega)
  have hT0 := byteAt_lt (turned M p b 4) 0
  generalize byteAt (turned M p b 4) 0 = y0 at *
  clear hTl hp hturn
  generalize decide (turned M p b 4 = M) = bb at *
  unfold aggB at *
  have hz := (zero_of_info zero128).1
  have Hi := Lib.hid (zero_of_info zero128).2
  have Hz := Lib.hid (show (zerosL.map bv).length = 128 by simp [zerosL_len])
  unfold aggB at hz
  generalize zerosL.map bv = Z at *
  have Hmk := Lib.hid hmk
  have Hq := Lib.hid hq
  have Hop := Lib.hid hop
  have HcT := Lib.hid cT0
  clear hmk hq hop cT0
  generalize hby : [Value.int .u8 (b 0).toNat, .int .u8 (b 1).toNat, .int .u8 (b 2).toNat, .int .u8 (b 3).toNat] = BY
  have HBY := Lib.hid hby
  clear hby
  go_enter Try.func7, Try.ntmps7
  go_wp2_with fail
  refine calls_world (fun W => Blk W w.heap.size 39 BY ∧ Below w.heap.size w W ∧ W.heap.size = w.heap.size + 1) ⟨Blk.top _ rfl (by rw [← HBY.out]), (by (repeat' (first | (with_reducible exact Below.refl _ _) | (with_reducible assumption) | (with_reducible refine Below.drew ?_) | (with_reducible refine below_drewN ?_ _) | (with_reducible refine Below.alloc ?_ ?_ _) | (with_reducible refine Below.setCell ?_ ?_ _) | omega | (simp; done) | (simp; omega)))), by simp⟩ ?_
  rintro w0 ⟨hby, hB0, hs0⟩
  go_wp2_with (first
    | ((go_at_call 15; (with_reducible refine (awake7 _).mono ?_); rintro e w1 ⟨rfl, hB1⟩); replace hby := hby.below hB1 hby.lt; replace hB1 := below_then hB0 hB1 hB0.size)
    | ((go_at_call 16; (with_reducible refine (Hmk.out _ (hl.below (B := w.heap.size) (by (repeat' (first | (with_reducible exact Below.refl _ _) | (with_reducible assumption) | (with_reducible refine Below.drew ?_) | (with_reducible refine below_drewN ?_ _) | (with_reducible refine Below.alloc ?_ ?_ _) | (with_reducible refine Below.setCell ?_ ?_ _) | omega | (simp; done) | (simp; omega)))) (Nat.le_refl _))).mono ?_); rintro e w2 ⟨rfl, hB2⟩); replace hby := hby.below hB2 hby.lt; have hlt2 := hby.lt; replace hB2 := below_then hB1 hB2 hB1.size)
    | ((refine wpList_store_arr rfl (x := .tmp 7) (y := .tmp 22) rfl rfl rfl (t := 24) (cs := Z) (xs := M.map bv) (Blk.top _ rfl rfl) Hi.out HL.out (by rw [Hz.out]; omega) Hm.out ?_; intro w3 hb3 hg3 hs3; rw [splice_all _ _ (by rw [Hz.out, HL.out])] at hb3); clear hs3; replace hby := (hby.alloc _).grown hg3 (by have := hby.lt; simp; omega))
    | (refine wpList_load_arr rfl (x := .tmp 7) rfl rfl (t := 24) (cs := M.map bv) hb3 Try.underlying24 Hi.out HL.out (xs := M.map bv) (by rw [List.drop_zero, List.take_of_length_le (by rw [HL.out]; omega)]) ?_)
    | ((refine wpList_store_arr rfl (x := .tmp 9) (y := .tmp 26) rfl rfl rfl (t := 24) (cs := Z) (xs := M.map bv) (Blk.top _ rfl rfl) Hi.out HL.out (by rw [Hz.out]; omega) Hm.out ?_; intro w4 hb4 hg4 hs4; rw [splice_all _ _ (by rw [Hz.out, HL.out])] at hb4); clear hs4; have hlt3 := hb3.lt; replace hb3 := (hb3.alloc _).grown hg4 (by have := hb3.lt; simp; omega); replace hby := (hby.alloc _).grown hg4 (by have := hby.lt; simp; omega)))
  have hB3 : Below w.heap.size w w3 := below_of_only (hB2.alloc hB2.size _) hg3 (by have := hB2.size; simp; omega) hB2.size
  have hB4 : Below w.heap.size w w4 := below_of_only (hB3.alloc hB3.size _) hg4 (by have := hB3.size; simp; omega) hB3.size
  have hBYc : ∀ k, k < 4 → Hid (BY[k]? = some (.int .u8 ((b k).toNat : Nat))) := fun k hk => by
    show _ = _
    rw [← HBY.out]
    rcases (by omega : k = 0 ∨ k = 1 ∨ k = 2 ∨ k = 3) with rfl | rfl | rfl | rfl <;> rfl
  clear hg3 hg4 hB3 hB2 hB1 hB0 hs0 Hmk HBY
  go_loopw [30] (fun i wr => ∃ k : Nat, k ≤ 4 ∧ i = .int .i64 (k : Nat) ∧ BlkB wr w2.heap.size 24 (turned M p b k) ∧ BlkB wr w3.heap.size 24 M ∧ Blk wr w.heap.size 39 BY ∧ Below w.heap.size w wr) (fun i _ => 4 - (intOf i).toNat)
  case atStart => exact ⟨0, by omega, rfl, hb3, hb4, hby, hB4⟩
  case round =>
    obtain ⟨k, hk, rfl, hb7, hb9, hbyr, hBr⟩ := hrel
    by_cases hk4 : k < 4
    · have c1 := (hbyr.cell k).trans (hBYc k hk4).out
      have c0 := hb7.cellB (p + k) (by rw [turned_len]; have := HN.out; omega)
      have cf := hb7.frozen (p + k)
      have hset := hb7.setB (p + k) (M.getD (p + k) 0 ^^^ b k) (.int .u8 (((M.getD (p + k) 0).toNat ^^^ (b k).toNat : Nat) : Int)) (by unfold bv; rw [UInt8.toNat_xor])
      have hfar : byteAt (turned M p b k) (p + k) = (M.getD (p + k) 0).toNat := by unfold byteAt; rw [turned_far _ _ _ _ _ (Nat.le_refl _)]
      rw [hfar] at c0
      have hnext : Hid ((turned M p b k).set (p + k) (M.getD (p + k) 0 ^^^ b k) = turned M p b (k + 1)) := rfl
      rw [hnext.out] at hset
      have e1 := u8_xor (M.getD (p + k) 0).toNat (b k).toNat (UInt8.toNat_lt _) (UInt8.toNat_lt _)
      have hpk : (p : Int) + (k : Int) < 128 := by omega
      have h9' : ∀ u, BlkB (wr.setCell ⟨w2.heap.size, p + k, none⟩ u) w3.heap.size 24 M := fun u => hb9.far (by simp; omega) u
      have hby' : ∀ u, Blk (wr.setCell ⟨w2.heap.size, p + k, none⟩ u) w.heap.size 39 BY := fun u => hbyr.far (by simp; omega) u
      have hB' : ∀ u, Below w.heap.size w (wr.setCell ⟨w2.heap.size, p + k, none⟩ u) := fun u => hBr.setCell (by simp; omega) u
      have H1 := Lib.hid h9'
      have H2 := Lib.hid hby'
      have H3 := Lib.hid hB'
      have Hs := Lib.hid hset
      have Hf := Lib.hid hfar
      generalize hy : M.getD (p + k) 0 = y at *
      generalize hz' : b k = z at *
      clear hy hz' h9' hby' hB' hset hfar hb7 hb9 hbyr hBYc
      go_wp2
      refine wp_region_quiet_tail 13 (by kernel_rfl) (by kernel_rfl) ?_
      simp only [List.take_succ_cons, List.take_zero, List.drop_succ_cons, List.drop_zero]
      repeat (go_big_quiet_step (fail))
      refine wpQuiet_nil ?_
      go_wp2
      go_roundw
      case rel => exact ⟨k + 1, by omega, by go_num, Hs.out, H1.out _, H2.out _, (H3.out _).drew⟩
      case measure => simp [intOf]; omega
    · have hk9 : k = 4 := by omega
      subst hk9
      have k0 := (hb7.cell 0).trans HcT.out
      have hlt7 := hb7.lt
      have hlt9 := hb9.lt
      have hq := Hq.out
      have H9 : Hid (BlkB wr w3.heap.size 24 M) := hb9
      have H7 : Hid (BlkB wr w2.heap.size 24 (turned M p b 4)) := hb7
      clear hbyr hby hb3 hb4 hBYc hb9 hb7
      generalize turned M p b 4 = T at *
      cases bb
      all_goals
       go_wp2_with (first
        | (refine wpList_load_arr rfl (x := .tmp 7) rfl rfl (t := 24) (cs := T.map bv) H7.out Try.underlying24 Hi.out HT.out (xs := T.map bv) (by rw [List.drop_zero, List.take_of_length_le (by rw [HT.out]; omega)]) ?_)
        | ((go_at_call 20; (with_reducible refine (Hop.out _).mono ?_); rintro e w5 ⟨N5, A5, n5, c5, r5, rfl, hr5, hB5⟩); have h75 : Hid (BlkB w5 w2.heap.size 24 T) := H7.out.below hB5 hlt7; have h95 : Hid (BlkB w5 w3.heap.size 24 M) := H9.out.below hB5 hlt9; replace hB5 := below_then hBr hB5 hBr.size)
        | (refine wpList_load_arr rfl (x := .tmp 7) rfl rfl (t := 24) (cs := T.map bv) h75.out Try.underlying24 Hi.out HT.out (xs := T.map bv) (by rw [List.drop_zero, List.take_of_length_le (by rw [HT.out]; omega)]) ?_)
        | (refine wpList_load_arr rfl (x := .tmp 9) rfl rfl (t := 24) (cs := M.map bv) h95.out Try.underlying24 Hi.out HL.out (xs := M.map bv) (by rw [List.drop_zero, List.take_of_length_le (by rw [HL.out]; omega)]) ?_))
       go_ret
       exact ⟨by first | rfl | (have : r5 = 53 := by simpa using hr5
                                simp [this]), hB5⟩

theorem walk (w : World) (A : Option Addr) (m c : Nat) (l : List UInt8) (hl : RB w A m l) (nc : m ≤ c) (cm : c ≤ maxLen) (at_ : Int) (wf1 : (Lit.int .u8 at_).wf = true) (v : Value) (hv : ∃ l : List UInt8, v = .agg (l.map bv).toArray ∧ l.length = 4) :
    Calls Try.prog 7 #[.slice A m c, .int .u8 at_, v] w fun e w' => e = .returned (.bool true) ∧ Below w.heap.size w w' := by
  obtain ⟨k, rfl, hk⟩ := hv
  match k, hk with
  | [b0, b1, b2, b3], _ =>
    by_cases h : 113 < m
    · exact walk_past A m c l _ _ _ _ _ w hl (by omega) h
    · have hat := bounds_u8 wf1
      obtain ⟨a, rfl⟩ := Int.eq_ofNat_of_zero_le hat.1
      exact walk_mid A m c a (a % 120) l (fun i => [b0, b1, b2, b3].getD i 0) w (by omega) (by omega) hl rfl (by omega)

--FRAME tompionlaw07 SealTurned sealTurned walk bytes u8 raw:[4]uint8:(args_byteArray‹_›Try.underlying39‹_›Try.underlying5‹_›(by‹_›kernel_rfl)‹_›(by‹_›kernel_rfl)):.agg‹_›#[.int‹_›.u8‹_›0,.int‹_›.u8‹_›0,.int‹_›.u8‹_›0,.int‹_›.u8‹_›0]
theorem own : ownKnob Try.prog.godebug = none := by kernel_rfl
theorem laidOut : laidOutB Try.prog = true := by kernel_rfl

set_option maxRecDepth 100000 in
theorem lifted (os : Os) (started : os.Started) (H : Type) (enc : TypeId × Value → H) :
    ReturnsInHanded {} Try.checked os 7 .any (Rows.sealTurnedSpec.pre6 enc Try.prog Try.f7 Rows.sealTurnedRow.domain false) (Rows.sealTurnedSpec.post enc Try.prog Try.f7 false true false false) := by
  refine returnsInHanded_of_change (C := Try.checked) own started (by kernel_rfl) Try.func7
    (ChangeSpec.witness6 (enc := enc) (C := Try.checked) false ⟨#[], #[.slice none 0 0, .int .u8 0, .agg #[.int .u8 0,.int .u8 0,.int .u8 0,.int .u8 0]], []⟩ 8 (by kernel_rfl) (by kernel_rfl) (by kernel_rfl) (by kernel_rfl)) ?_
  intro W base args ds gs before hval0 hW hcnd _
  have hval : ∀ (j : Nat) t v, Try.f7.params[j]? = some t → args[j]? = some v → Value.okWide Try.prog W .any base t v := hval0
  have hW' := hW
  obtain ⟨p, q, hA0, hV, rfl, hfz, hnd⟩ := hW
  have hA : DataW.TrodAll enc Try.prog W 0 (fun _ => true) true Try.f7.params.toList args.toList ds p := hA0
  rw [Try.params7] at hA hval
  obtain ⟨v0, vs0, d0, ds0, p0, q0, hargs, rfl, rfl, h0, rr0⟩ := trodAll_cons hA
  obtain ⟨v1, vs1, d1, ds1, p1, q1, rfl, rfl, rfl, h1, rr1⟩ := trodAll_cons rr0
  obtain ⟨v2, vs2, d2, ds2, p2, q2, rfl, rfl, rfl, h2, rr2⟩ := trodAll_cons rr1
  obtain ⟨rfl, rfl, rfl⟩ := trodAll_nil rr2
  obtain rfl : args = #[v0, v1, v2] := by cases args; simp_all
  obtain ⟨rfl, rfl⟩ := trodVars_none hV
  have k0 := h0
  have lt0 : ∀ x ∈ p0, x.block < W.heap.size := by obtain ⟨m, hm⟩ := k0; exact DataW.trod_lt m _ _ _ hm
  obtain ⟨A0, n0, c0, l0, rfl, r0, nc0, cm0⟩ := args_bytes Try.underlying22 Try.underlying5 (by kernel_rfl) (hval 0 22 v0 rfl rfl) h0
  have k1 := h1
  have lt1 : ∀ x ∈ p1, x.block < W.heap.size := by obtain ⟨m, hm⟩ := k1; exact DataW.trod_lt m _ _ _ hm
  obtain ⟨a1, rfl, wf1⟩ := args_int Try.underlying5 (hval 1 5 v1 rfl rfl) h1
  have k2 := h2
  have lt2 : ∀ x ∈ p2, x.block < W.heap.size := by obtain ⟨m, hm⟩ := k2; exact DataW.trod_lt m _ _ _ hm
  have x2 := (args_byteArray Try.underlying39 Try.underlying5 (by kernel_rfl) (by kernel_rfl)) (hval 2 39 v2 rfl rfl) h2
  clear hA0 hval0
  refine (walk W A0 n0 c0 l0 r0 nc0 cm0 a1 wf1 v2 x2).mono fun e W' ⟨he, bel⟩ => ?_
  subst he
  exact ⟨_, rfl, _, _, _, [], _, [], hW', trodAll_mk1 (shut_bool Try.underlying4 _), (trodAll_cons_mk (Below.trod laidOut (by kernel_rfl) (of_decide_eq_true (by kernel_rfl)) k0 bel lt0) (trodAll_cons_mk (Below.trod laidOut (by kernel_rfl) (of_decide_eq_true (by kernel_rfl)) k1 bel lt1) (trodAll_cons_mk (Below.trod laidOut (by kernel_rfl) (of_decide_eq_true (by kernel_rfl)) k2 bel lt2) trodAll_mk0))), rfl, bel.frame _, fun h => by cases h⟩

theorem over : Rows.sealTurnedRow.holds Try.pinned (OpenSpec.ofChange Rows.sealTurnedSpec) :=
  OpenClaim.holds_of_wide 7 Try.f7 rfl rfl rfl rfl rfl rfl rfl ⟨rfl, rfl, rfl, rfl, rfl⟩ rfl rfl rfl rfl rfl (by kernel_rfl) Try.func7 (by kernel_rfl)
    (of_decide_eq_true (by kernel_rfl)) (by unfold Func.isWrapper; first | (rw [if_pos (by decide +kernel)]; kernel_rfl) | (rw [if_neg (by decide +kernel)]; exact ⟨rfl, rfl⟩))
    (fun os started H enc _ => lifted os started H enc)

theorem proved : Rows.SealTurnedSaid := over
--ENDFRAME
end Go.Proofs.Ytmaiafmpihpleaa.sealTurned
