/- SealOpens: what any sector has, of any kind, is what the document says; what has something was made so. -/
import Derived.Test.YtmaiafmpihpleaaRefSealB
import Derived.Test.YtmaiafmpihpleaaFrame
namespace Go.Proofs.Ytmaiafmpihpleaa.sealOpens
open Go.ChangeShapes Go.WideShapes Go.ChangeAt Go.RowKit
set_option linter.unusedVariables false

set_option maxRecDepth 100000 in
set_option maxHeartbeats 2000000 in
theorem walk_no (l : List UInt8) (kind : Int) (w : World) (hlen : l.length = 128) (ho : opens l kind = false) :
    Calls Try.prog 4 #[aggB l, .int .i64 kind] w fun e w' => e = .returned (.bool true) ∧ Below w.heap.size w w' := by
  have hop : ∀ w, Calls Try.prog 20 #[aggB l, .int .i64 kind] w fun e w' => e = .returned (.tuple #[.int .i64 0, .slice none 0 0, .int .i64 53]) ∧ Below w.heap.size w w' := fun w =>
    (open_any l kind w hlen).mono fun e w' h => by
      rw [ho] at h
      rcases h with ⟨_, h⟩ | ⟨hf, _⟩
      · exact h
      · cases hf
  have hrf : ∀ g c w, RB w (some ⟨g, 0, none⟩) 128 l → 128 ≤ c → Calls Try.prog 21 #[.slice (some ⟨g, 0, none⟩) 128 c, .int .i64 kind] w fun e w' => e = .returned (.tuple #[.int .i64 0, .slice none 0 0, .int .i64 53]) ∧ Below w.heap.size w w' := fun g c w hl hc =>
    (refopen_any g 0 c l kind w hl hc).mono fun e w' h => by
      rw [ho] at h
      rcases h with ⟨_, h⟩ | ⟨hf, _⟩
      · exact h
      · cases hf
  have hsame := fun w => same_any none none 0 0 0 0 [] [] w ⟨rfl, Row.nil _ _ _⟩ ⟨rfl, Row.nil _ _ _⟩ (by unfold maxLen; omega)
  have HL := Lib.hid (show (l.map bv).length = 128 by simpa using hlen)
  have HN := Lib.hid hlen
  unfold aggB at *
  have hz := (zero_of_info zero128).1
  have Hi := Lib.hid (zero_of_info zero128).2
  have Hz := Lib.hid (show (zerosL.map bv).length = 128 by simp [zerosL_len])
  unfold aggB at hz
  generalize zerosL.map bv = Z at *
  have Hop := Lib.hid hop
  have Hrf := Lib.hid hrf
  clear hop hrf hlen
  go_enter Try.func4, Try.ntmps4
  go_wp2_with (first
    | ((go_at_call 15; (with_reducible refine (awake7 _).mono ?_); rintro e w1 ⟨rfl, hB1⟩); have hd : BlkB w1 w.heap.size 24 l := (Blk.top (t := 24) (cs := l.map bv) w rfl rfl).below hB1 (by simp); replace hB1 := below_then' (a := w) (B := w.heap.size) (by (repeat' (first | (with_reducible exact Below.refl _ _) | (with_reducible assumption) | (with_reducible refine Below.drew ?_) | (with_reducible refine below_drewN ?_ _) | (with_reducible refine Below.alloc ?_ ?_ _) | (with_reducible refine Below.setCell ?_ ?_ _) | omega | (simp; done) | (simp; omega)))) hB1 (by first | omega | (simp; done) | (simp; omega)); have hB1s := hB1.size)
    | (refine wpList_load_arr rfl (x := .tmp 2) rfl rfl (t := 24) (cs := l.map bv) hd Try.underlying24 Hi.out HL.out (xs := l.map bv) (by rw [List.drop_zero, List.take_of_length_le (by rw [HL.out]; omega)]) ?_)
    | ((go_at_call 20; (with_reducible refine (Hop.out _).mono ?_); rintro e w2 ⟨rfl, hB2⟩); replace hd := hd.below hB2 hd.lt; replace hB2 := below_then hB1 hB2 hB1.size)
    | ((go_at_call 21; (with_reducible refine (Hrf.out _ _ _ (BlkB.rb (off := 0) hd (by rw [List.drop_zero, List.take_of_length_le (by rw [HN.out]; omega)]) (by rw [HN.out]; omega)) (by omega)).mono ?_); rintro e w3 ⟨rfl, hB3⟩); replace hB3 := below_then hB2 hB3 hB2.size)
    | (go_at_call 18; (with_reducible refine (hsame _).mono ?_); rintro e w4 ⟨rfl, q4, rfl⟩))
  go_ret
  exact ⟨rfl, (by (repeat' (first | (with_reducible exact Below.refl _ _) | (with_reducible assumption) | (with_reducible refine Below.drew ?_) | (with_reducible refine below_drewN ?_ _) | (with_reducible refine Below.alloc ?_ ?_ _) | (with_reducible refine Below.setCell ?_ ?_ _) | omega | (simp; done) | (simp; omega))))⟩

set_option maxRecDepth 100000 in
set_option maxHeartbeats 2000000 in
theorem walk_yes (l : List UInt8) (kind : Int) (w : World) (hlen : l.length = 128) (ho : opens l kind = true) :
    Calls Try.prog 4 #[aggB l, .int .i64 kind] w fun e w' => e = .returned (.bool true) ∧ Below w.heap.size w w' := by
  obtain ⟨o1, o2, o3, o4, o5⟩ := opens_parts ho
  have hK := openLoad_len hlen o4
  have hsg : sg (openNum l) = (openNum l : Int) := by unfold sg; rw [if_pos o3]
  have hop : ∀ w, Calls Try.prog 20 #[aggB l, .int .i64 kind] w fun e w' => ∃ A c, e = .returned (.tuple #[.int .i64 (openNum l), .slice A (byteAt l 9) c, .int .i64 0]) ∧ OB w' w.heap.size 5 A (byteAt l 9) c (openLoad l) ∧ Below w.heap.size w w' := fun w =>
    (open_any l kind w hlen).mono fun e w' h => by
      rw [ho, hsg] at h
      rcases h with ⟨hf, _⟩ | ⟨_, h⟩
      · cases hf
      · exact h
  have hrf : ∀ g c w, RB w (some ⟨g, 0, none⟩) 128 l → 128 ≤ c → Calls Try.prog 21 #[.slice (some ⟨g, 0, none⟩) 128 c, .int .i64 kind] w fun e w' => ∃ A c, e = .returned (.tuple #[.int .i64 (openNum l), .slice A (byteAt l 9) c, .int .i64 0]) ∧ RB w' A (byteAt l 9) (openLoad l) ∧ Below w.heap.size w w' := fun g c w hl hc =>
    (refopen_any g 0 c l kind w hl hc).mono fun e w' h => by
      rw [ho, hsg] at h
      rcases h with ⟨hf, _⟩ | ⟨_, h⟩
      · cases hf
      · exact h
  have hmk : ∀ A c w, RB w A (byteAt l 9) (openLoad l) → Calls Try.prog 16 #[.int .i64 kind, .int .i64 (openNum l), .slice A (byteAt l 9) c] w fun e w' => e = .returned (.tuple #[aggB l, .int .i64 0]) ∧ Below w.heap.size w w' := fun A c w hr => by
    have := make_ok kind (openNum l) A (byteAt l 9) c (openLoad l) w o1 o2 (by omega) o4 hr
    have e : un (openNum l : Int) = openNum l := by unfold un; omega
    rwa [e, o5] at this
  have hq := fun w => eq128 l l hlen hlen w
  rw [show decide (l = l) = true from by simp] at hq
  have hsame := fun A B c d w ha hb => same_any A B (byteAt l 9) (byteAt l 9) c d (openLoad l) (openLoad l) w ha hb (by unfold maxLen; omega)
  have HL := Lib.hid (show (l.map bv).length = 128 by simpa using hlen)
  have HN := Lib.hid hlen
  have Hm := Lib.hid (mem_bv (l := l))
  unfold aggB at *
  generalize openLoad l = K at *
  generalize byteAt l 9 = y9 at *
  generalize openNum l = N at *
  clear ho o1 o2 o5 hsg hK
  have hz := (zero_of_info zero128).1
  have Hi := Lib.hid (zero_of_info zero128).2
  have Hz := Lib.hid (show (zerosL.map bv).length = 128 by simp [zerosL_len])
  unfold aggB at hz
  generalize zerosL.map bv = Z at *
  have Hop := Lib.hid hop
  have Hrf := Lib.hid hrf
  have Hmk := Lib.hid hmk
  have Hsame := Lib.hid hsame
  clear hop hrf hlen hmk hsame
  go_enter Try.func4, Try.ntmps4
  go_wp2_with (first
    | ((go_at_call 15; (with_reducible refine (awake7 _).mono ?_); rintro e w1 ⟨rfl, hB1⟩); have hd : BlkB w1 w.heap.size 24 l := (Blk.top (t := 24) (cs := l.map bv) w rfl rfl).below hB1 (by simp); replace hB1 := below_then' (a := w) (B := w.heap.size) (by (repeat' (first | (with_reducible exact Below.refl _ _) | (with_reducible assumption) | (with_reducible refine Below.drew ?_) | (with_reducible refine below_drewN ?_ _) | (with_reducible refine Below.alloc ?_ ?_ _) | (with_reducible refine Below.setCell ?_ ?_ _) | omega | (simp; done) | (simp; omega)))) hB1 (by first | omega | (simp; done) | (simp; omega)); have hB1s := hB1.size)
    | (refine wpList_load_arr rfl (x := .tmp 2) rfl rfl (t := 24) (cs := l.map bv) hd Try.underlying24 Hi.out HL.out (xs := l.map bv) (by rw [List.drop_zero, List.take_of_length_le (by rw [HL.out]; omega)]) ?_)
    | ((go_at_call 20; (with_reducible refine (Hop.out _).mono ?_); rintro e w2 ⟨A2, c2, rfl, own2, hB2⟩); replace hd := hd.below hB2 hd.lt; replace hB2 := below_then hB1 hB2 hB1.size)
    | ((go_at_call 21; (with_reducible refine (Hrf.out _ _ _ (BlkB.rb (off := 0) hd (by rw [List.drop_zero, List.take_of_length_le (by rw [HN.out]; omega)]) (by rw [HN.out]; omega)) (by omega)).mono ?_); rintro e w3 ⟨A3, c3, rfl, rd3, hB3⟩); have hd3 := hd.below hB3 hd.lt; replace own2 := own2.below hB3 (Nat.le_refl _); replace hB3 := below_then hB2 hB3 hB2.size)
    | (go_at_call 18; (with_reducible refine (Hsame.out _ _ _ _ _ own2.rd.rb rd3).mono ?_); rintro e w4 ⟨rfl, q4, rfl⟩)
    | ((go_at_call 16; (with_reducible refine (Hmk.out _ _ _ (own2.rd.rb.below (B := w3.heap.size) (by (repeat' (first | (with_reducible exact Below.refl _ _) | (with_reducible assumption) | (with_reducible refine Below.drew ?_) | (with_reducible refine below_drewN ?_ _) | (with_reducible refine Below.alloc ?_ ?_ _) | (with_reducible refine Below.setCell ?_ ?_ _) | omega | (simp; done) | (simp; omega)))) (Nat.le_refl _))).mono ?_); rintro e w5 ⟨rfl, hB5⟩); replace hd3 := (hd3.drewN q4).below hB5 (hd3.drewN q4).lt; replace hB5 := below_then (below_drewN hB3 q4) hB5 hB3.size)
    | ((refine wpList_store_arr rfl (x := .tmp 11) (y := .tmp 50) rfl rfl rfl (t := 24) (cs := Z) (xs := l.map bv) (Blk.top _ rfl rfl) Hi.out HL.out (by rw [Hz.out]; omega) Hm.out ?_; intro w6 hb6 hg6 hs6; rw [splice_all _ _ (by rw [Hz.out, HL.out])] at hb6); have hd6 := (hd3.alloc _).grown hg6 (by have := hd3.lt; simp; omega); replace hg6 : Below w.heap.size w w6 := below_of_only (hB5.alloc hB5.size _) hg6 (by have := hB5.size; simp; omega) hB5.size; clear hs6)
    | (refine wpList_load_arr rfl (x := .tmp 11) rfl rfl (t := 24) (cs := l.map bv) hb6 Try.underlying24 Hi.out HL.out (xs := l.map bv) (by rw [List.drop_zero, List.take_of_length_le (by rw [HL.out]; omega)]) ?_)
    | (refine wpList_load_arr rfl (x := .tmp 2) rfl rfl (t := 24) (cs := l.map bv) hd6 Try.underlying24 Hi.out HL.out (xs := l.map bv) (by rw [List.drop_zero, List.take_of_length_le (by rw [HL.out]; omega)]) ?_))
  go_ret
  exact ⟨rfl, hg6⟩

theorem walk (w : World) (v : Value) (hv : ∃ l : List UInt8, v = .agg (l.map bv).toArray ∧ l.length = 128) (kind : Int) (wf1 : (Lit.int .i64 kind).wf = true) :
    Calls Try.prog 4 #[v, .int .i64 kind] w fun e w' => e = .returned (.bool true) ∧ Below w.heap.size w w' := by
  obtain ⟨l, rfl, hl⟩ := hv
  cases ho : opens l kind with
  | false => exact walk_no l kind w hl ho
  | true => exact walk_yes l kind w hl ho

--FRAME tompionlaw07 SealOpens sealOpens walk raw:[128]uint8:(args_byteArray‹_›Try.underlying24‹_›Try.underlying5‹_›(by‹_›kernel_rfl)‹_›(by‹_›kernel_rfl)):.agg‹_›(Array.replicate‹_›128‹_›(.int‹_›.u8‹_›0)) i64
theorem own : ownKnob Try.prog.godebug = none := by kernel_rfl
theorem laidOut : laidOutB Try.prog = true := by kernel_rfl

set_option maxRecDepth 100000 in
theorem lifted (os : Os) (started : os.Started) (H : Type) (enc : TypeId × Value → H) :
    ReturnsInHanded {} Try.checked os 4 .any (Rows.sealOpensSpec.pre6 enc Try.prog Try.f4 Rows.sealOpensRow.domain false) (Rows.sealOpensSpec.post enc Try.prog Try.f4 false true false false) := by
  refine returnsInHanded_of_change (C := Try.checked) own started (by kernel_rfl) Try.func4
    (ChangeSpec.witness6 (enc := enc) (C := Try.checked) false ⟨#[], #[.agg (Array.replicate 128 (.int .u8 0)), .int .i64 0], []⟩ 8 (by kernel_rfl) (by kernel_rfl) (by kernel_rfl) (by kernel_rfl)) ?_
  intro W base args ds gs before hval0 hW hcnd _
  have hval : ∀ (j : Nat) t v, Try.f4.params[j]? = some t → args[j]? = some v → Value.okWide Try.prog W .any base t v := hval0
  have hW' := hW
  obtain ⟨p, q, hA0, hV, rfl, hfz, hnd⟩ := hW
  have hA : DataW.TrodAll enc Try.prog W 0 (fun _ => true) true Try.f4.params.toList args.toList ds p := hA0
  rw [Try.params4] at hA hval
  obtain ⟨v0, vs0, d0, ds0, p0, q0, hargs, rfl, rfl, h0, rr0⟩ := trodAll_cons hA
  obtain ⟨v1, vs1, d1, ds1, p1, q1, rfl, rfl, rfl, h1, rr1⟩ := trodAll_cons rr0
  obtain ⟨rfl, rfl, rfl⟩ := trodAll_nil rr1
  obtain rfl : args = #[v0, v1] := by cases args; simp_all
  obtain ⟨rfl, rfl⟩ := trodVars_none hV
  have k0 := h0
  have lt0 : ∀ x ∈ p0, x.block < W.heap.size := by obtain ⟨m, hm⟩ := k0; exact DataW.trod_lt m _ _ _ hm
  have x0 := (args_byteArray Try.underlying24 Try.underlying5 (by kernel_rfl) (by kernel_rfl)) (hval 0 24 v0 rfl rfl) h0
  have k1 := h1
  have lt1 : ∀ x ∈ p1, x.block < W.heap.size := by obtain ⟨m, hm⟩ := k1; exact DataW.trod_lt m _ _ _ hm
  obtain ⟨a1, rfl, wf1⟩ := args_int Try.underlying3 (hval 1 3 v1 rfl rfl) h1
  clear hA0 hval0
  refine (walk W v0 x0 a1 wf1).mono fun e W' ⟨he, bel⟩ => ?_
  subst he
  exact ⟨_, rfl, _, _, _, [], _, [], hW', trodAll_mk1 (shut_bool Try.underlying4 _), (trodAll_cons_mk (Below.trod laidOut (by kernel_rfl) (of_decide_eq_true (by kernel_rfl)) k0 bel lt0) (trodAll_cons_mk (Below.trod laidOut (by kernel_rfl) (of_decide_eq_true (by kernel_rfl)) k1 bel lt1) trodAll_mk0)), rfl, bel.frame _, fun h => by cases h⟩

theorem over : Rows.sealOpensRow.holds Try.pinned (OpenSpec.ofChange Rows.sealOpensSpec) :=
  OpenClaim.holds_of_wide 4 Try.f4 rfl rfl rfl rfl rfl rfl rfl ⟨rfl, rfl, rfl, rfl, rfl⟩ rfl rfl rfl rfl rfl (by kernel_rfl) Try.func4 (by kernel_rfl)
    (of_decide_eq_true (by kernel_rfl)) (by unfold Func.isWrapper; first | (rw [if_pos (by decide +kernel)]; kernel_rfl) | (rw [if_neg (by decide +kernel)]; exact ⟨rfl, rfl⟩))
    (fun os started H enc _ => lifted os started H enc)

theorem proved : Rows.SealOpensSaid := over
--ENDFRAME
end Go.Proofs.Ytmaiafmpihpleaa.sealOpens
