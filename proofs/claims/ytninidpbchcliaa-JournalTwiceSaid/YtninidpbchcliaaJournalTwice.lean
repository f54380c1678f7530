/- JournalTwice: whatever stands on a disk: opened once more a journal has the same, and nothing more is written. -/
import Derived.Test.YtninidpbchcliaaJrnE
import Derived.Test.YtninidpbchcliaaPlainJrn
namespace Go.Proofs.Ytninidpbchcliaa.journalTwice
open Go.ChangeShapes Go.WideShapes Go.ChangeAt Go.RowKit
set_option linter.unusedVariables false
set_option linter.unusedSimpArgs false
theorem calm_load {many : Nat} {img : List UInt8} {k : Nat} (h0 : 1 ≤ many) (h1 : many ≤ 4096) (h : img.length ≤ many * 128) (hk : k ≤ many) : Calm (loadD many many img k) := ⟨loadD_ok h0 h1 (by omega) (by omega) h hk, rfl, rfl, rfl, rfl, rfl⟩
theorem s_meter {w : World} {base : Nat} {p : DiskP} {D : DiskV} (h : DiskS w base p D) : Calls Try.prog 30 #[.pointer (some ⟨p.d, 0, none⟩)] w fun e w' => e = .returned (.pointer (some ⟨p.gc, 0, none⟩)) ∧ w = w' := by
  obtain ⟨A, c, h⟩ := h; exact meterof_any h
theorem s_waits {w : World} {base : Nat} {p : DiskP} {D : DiskV} (h : DiskS w base p D) : Calls Try.prog 23 #[.pointer (some ⟨p.d, 0, none⟩)] w fun e w' => e = .returned (.int .i64 (D.waits.length : Nat)) ∧ w = w' := by
  obtain ⟨A, c, h⟩ := h; exact waits_any h
theorem walk_big (B : Option Addr) (n d : Nat) (w : World) (hn : 1280 < n) (hm : n ≤ maxLen) :
    Calls Try.prog 10 #[.slice B n d] w fun e w' => e = .returned (.bool true) ∧ Below w.heap.size w w' := by
  unfold maxLen at hm
  go_enter Try.func10, Try.ntmps10
  go_wp2_with (first
    | ((go_at_call 48; (with_reducible refine (awake9 _).mono ?_); rintro e w1 ⟨rfl, hb1⟩); replace hb1 := below_then' (a := w) (B := w.heap.size) (by (repeat' (first | (with_reducible exact Below.refl _ _) | (with_reducible assumption) | (with_reducible refine Below.drew ?_) | (with_reducible refine below_drewN ?_ _) | (with_reducible refine Below.alloc ?_ ?_ _) | (with_reducible refine Below.setCell ?_ ?_ _) | omega | (simp; done) | (simp; omega)))) hb1 (by first | omega | (simp; done) | (simp; omega)); have hb1s := hb1.size)
    | fail "no arm")
  go_ret
  exact ⟨rfl, (by (repeat' (first | (with_reducible exact Below.refl _ _) | (with_reducible assumption) | (with_reducible refine Below.drew ?_) | (with_reducible refine below_drewN ?_ _) | (with_reducible refine Below.alloc ?_ ?_ _) | (with_reducible refine Below.setCell ?_ ?_ _) | omega | (simp; done) | (simp; omega))))⟩
theorem s_count {w : World} {base : Nat} {p : DiskP} {D : DiskV} (h : DiskS w base p D) : Calls Try.prog 36 #[.pointer (some ⟨p.gc, 0, none⟩), .int .i64 2] w fun e w' => e = .returned (.int .i64 (mCnt D.ops 2)) ∧ w = w' := by
  obtain ⟨A, c, h⟩ := h; exact count_any p.gc D.ops 2 w h.mt
theorem cnt_read (o : List Int) : mCnt (mAdd o 1 1) 2 = mCnt o 2 := by
  show mGet (mPut o 1 _) 2 = mGet o 2
  unfold mGet mPut
  simp only [List.getD_eq_getElem?_getD]
  rw [List.getElem?_set_ne (by decide)]
theorem rdK_cnt (D : DiskV) : ∀ k, mCnt (rdK D k).ops 2 = mCnt D.ops 2 := by
  intro k
  induction k with
  | zero => rfl
  | succ k ih => show mCnt (mAdd (rdK D k).ops 1 1) 2 = _; rw [cnt_read, ih]
set_option maxRecDepth 100000 in
set_option maxHeartbeats 8000000 in
theorem walk_main (B : Option Addr) (n d : Nat) (img : List UInt8) (w : World) (hr : RB w B n img) (hnd : n ≤ d) (hn : n ≤ 1280) :
    Calls Try.prog 10 #[.slice B n d] w fun e w' => e = .returned (.bool true) ∧ Below w.heap.size w w' := by
  have hlen := hr.1
  have hu : usedN img ≤ 10 := by unfold usedN; omega
  have hmd : ∀ w1, RB w1 B n img → Calls Try.prog 50 #[.slice B n d, .int .i64 10] w1 (Made9 w1 (loadD 10 10 img (usedN img))) := fun w1 h => made9_ok B n d img 10 w1 h hnd (by omega) (by omega) hn (by omega)
  have hcalm : Calm (loadD 10 10 img (usedN img)) := calm_load (many := 10) (by omega) (by omega) (by omega) hu
  obtain ⟨D1, nx, q1, q2, q3, q4, q5, q6, q7, -, -⟩ := open_calm (f := 1) (m := 8) (kind := 3) hcalm rfl (by omega) (by omega) (by show 9 ≤ 10; omega)
  have hmany : (loadD 10 10 img (usedN img)).many = 10 := rfl
  have hw0 : (loadD 10 10 img (usedN img)).waits.length = 0 := rfl
  rw [hmany] at q5
  generalize loadD 10 10 img (usedN img) = D0 at *
  have q8 := open_again (f := 1) (m := 8) (kind := 3) q3 (by omega) (by omega) q2 q6 q7
  obtain ⟨r1, r2, r3, r4, r5⟩ := rdK_calm q3 8
  have r6 := rdK_cnt D1 8
  rw [q5] at r2
  rw [q4] at r3
  have hG : ∀ o k, k < nx → (jGetV { rdK D1 8 with ops := o } 1 8 3 nx (k : Int)).2 = (openLoad (secOf D1.now ((1 + k : Nat) : Int)), 0) ∧ ∃ o', (jGetV { rdK D1 8 with ops := o } 1 8 3 nx (k : Int)).1 = { rdK D1 8 with ops := o' } := fun o k hk => by
    have hrec : recN ({ rdK D1 8 with ops := o } : DiskV).now 1 3 k := by show recN (rdK D1 8).now 1 3 k; rw [r4]; exact q6 k hk
    rw [get_rec (r1.ops o) (by show 1 + 8 ≤ (rdK D1 8).many; rw [r2]; omega) q2 hk hrec]
    refine ⟨?_, _, rfl⟩
    show (openLoad (secOf (rdK D1 8).now _), (0 : Int)) = _
    rw [r4]
  have c1 : ∀ {w : World} {base ga : Nat} {p : DiskP}, AreaAt w ga p.d 1 8 → DiskS w base p D0 → base ≤ w.heap.size → Calls Try.prog 51 #[.pointer (some ⟨ga, 0, none⟩), .int .i64 3] w fun e w' => ∃ gj, e = .returned (.tuple #[.pointer (some ⟨gj, 0, none⟩), .int .i64 0]) ∧ w.heap.size ≤ gj ∧ JrnAt w' gj ga 3 nx ∧ DiskS w' base p D1 ∧ Step mutD base p w w' :=
    fun ha hd hs => jopen_ok ha (by omega) hd hs (by rw [hmany]; omega) (by rw [hw0]; omega) q1
  have c2 : ∀ {w : World} {base ga : Nat} {p : DiskP}, AreaAt w ga p.d 1 8 → DiskS w base p D1 → base ≤ w.heap.size → Calls Try.prog 51 #[.pointer (some ⟨ga, 0, none⟩), .int .i64 3] w fun e w' => ∃ gj, e = .returned (.tuple #[.pointer (some ⟨gj, 0, none⟩), .int .i64 0]) ∧ w.heap.size ≤ gj ∧ JrnAt w' gj ga 3 nx ∧ DiskS w' base p (rdK D1 8) ∧ Step mutD base p w w' :=
    fun ha hd hs => jopen_ok ha (by omega) hd hs (by rw [q5]; omega) (by rw [q4]; simp) q8
  have c3 : ∀ {w : World} {base ga gj : Nat} {p : DiskP} {o : List Int}, JrnAt w gj ga 3 nx → AreaAt w ga p.d 1 8 → DiskS w base p { rdK D1 8 with ops := o } → base ≤ w.heap.size → Calls Try.prog 54 #[.pointer (some ⟨gj, 0, none⟩)] w fun e w' => ∃ B c, e = .returned (.tuple #[.slice B nx c, .bool true]) ∧ LsOw w' w.heap.size B nx c ((List.range nx).map fun k => openLoad (secOf D1.now ((1 + k : Nat) : Int))) ∧ (∃ o, DiskS w' base p { rdK D1 8 with ops := o }) ∧ Step mutD base p w w' :=
    fun {w base ga gj p o} hj ha hd hs => loads_any hj hd hs ha (by show 1 + 8 ≤ (rdK D1 8).many; rw [r2]; omega) (by omega) _ (fun o' k hk => hG o' k hk)
  have c4 : ∀ {w : World} {base : Nat} {p : DiskP}, DiskS w base p (rdK D1 8) → Calls Try.prog 36 #[.pointer (some ⟨p.gc, 0, none⟩), .int .i64 2] w fun e w' => e = .returned (.int .i64 (mCnt D1.ops 2)) ∧ w = w' := fun h => by have := s_count h; rw [r6] at this; exact this
  have c5 : ∀ {w : World} {base : Nat} {p : DiskP}, DiskS w base p (rdK D1 8) → Calls Try.prog 23 #[.pointer (some ⟨p.d, 0, none⟩)] w fun e w' => e = .returned (.int .i64 0) ∧ w = w' := fun h => by have := s_waits h; rw [r3] at this; exact this
  have c6 : ∀ {w : World} {base : Nat} {p : DiskP}, DiskS w base p (rdK D1 8) → base ≤ w.heap.size → Calls Try.prog 25 #[.pointer (some ⟨p.d, 0, none⟩)] w fun e w' => ∃ B N d, e = .returned (.slice B N d) ∧ OB w' w.heap.size 5 B N d D1.kept ∧ DiskS w' base p (rdK D1 8) ∧ Step mutD base p w w' := fun h hs => by have := s_image h hs; rw [r5] at this; exact this
  have c7 : ∀ {w : World} {base : Nat} {p : DiskP}, DiskS w base p (rdK D1 8) → ∃ o, DiskS w base p { rdK D1 8 with ops := o } := fun h => ⟨_, h⟩
  have hnx : nx ≤ 8 := q2
  generalize (fun k => openLoad (secOf D1.now ((1 + k : Nat) : Int))) = G at *
  generalize rdK D1 8 = D2 at *
  have hbg := fun (w : World) (B C : Option Addr) (c d : Nat) (h1 : LsRd w B nx ((List.range nx).map G)) (h2 : LsRd w C nx ((List.range nx).map G)) => begins_any B C nx nx c d _ _ w h1 h2 (by unfold maxLen; omega) (by unfold maxLen; omega)
  simp only [begB_self] at hbg
  clear q1 q2 q3 q4 q5 q6 q7 q8 r1 r2 r3 r4 r5 r6 hG hcalm hmany hw0 hu
  go_enter Try.func10, Try.ntmps10
  go_wp2_with (first
    | ((go_at_call 48; (with_reducible refine (awake9 _).mono ?_); rintro e w1 ⟨rfl, hb1⟩); have s1 := hb1.size; have hr1 := hr.below hb1 (Nat.le_refl _))
    | ((go_at_call 50; (with_reducible refine (hmd _ hr1).mono ?_); rintro e w2 ⟨p, ga, rfl, h2, a2, b2⟩); have H2 := Lib.hid h2; have A2 := Lib.hid a2; have s2 := b2.size; have B2 := Lib.hid b2; clear h2 a2 b2)
    | ((go_at_call 51; (with_reducible refine (c1 A2.out H2.out s2).mono ?_); rintro e w3 ⟨gj, rfl, g3, j3, h3, st3⟩); have A3 := Lib.hid (H2.out.area A2.out st3.tch (by decide)); have B3 := Lib.hid (B2.out.trans st3.bel); have H3 := Lib.hid h3; have J3 := Lib.hid j3; have s3 := B3.out.size; clear h3 j3 st3 g3)
    | ((go_at_call 25; (with_reducible refine (s_image H3.out s3).mono ?_); rintro e w4 ⟨I4, n4, i4, rfl, o4, h4, st4⟩); have A4 := Lib.hid (H3.out.area A3.out st4.tch (by decide)); have J4 := Lib.hid (show JrnAt w4 gj ga 3 nx from H3.out.blk J3.out st4.tch (by decide)); have B4 := Lib.hid (B3.out.trans st4.bel); have H4 := Lib.hid h4; have O4 := Lib.hid o4; have k4 := o4.cap; have s4 := B4.out.size; clear h4 o4 st4)
    | (go_at_call 30; (with_reducible refine (s_meter H4.out).mono ?_); rintro e w5 ⟨rfl, rfl⟩)
    | (go_at_call 36; (with_reducible refine (s_count H4.out).mono ?_); rintro e w5 ⟨rfl, rfl⟩)
    | ((go_at_call 51; (with_reducible refine (c2 A4.out H4.out s4).mono ?_); rintro e w6 ⟨gk, rfl, g6, j6, h6, st6⟩); have A6 := Lib.hid (H4.out.area A4.out st6.tch (by decide)); have J6 := Lib.hid (show JrnAt w6 gj ga 3 nx from H4.out.blk J4.out st6.tch (by decide)); have O6 := Lib.hid (H4.out.ob O4.out st6.tch (by decide)); have B6 := Lib.hid (B4.out.trans st6.bel); have H6 := Lib.hid h6; have K6 := Lib.hid j6; have s6 := B6.out.size; clear h6 j6 st6 g6)
    | (go_at_call 56; (with_reducible refine (jlen_any J6.out).mono ?_); rintro e w7 ⟨rfl, rfl⟩)
    | (go_at_call 56; (with_reducible refine (jlen_any K6.out).mono ?_); rintro e w7 ⟨rfl, rfl⟩)
    | ((go_at_call 25; (with_reducible refine (c6 H6.out s6).mono ?_); rintro e w8 ⟨I8, n8, i8, rfl, o8, h8, st8⟩); have A8 := Lib.hid (H6.out.area A6.out st8.tch (by decide)); have J8 := Lib.hid (show JrnAt w8 gj ga 3 nx from H6.out.blk J6.out st8.tch (by decide)); have K8 := Lib.hid (show JrnAt w8 gk ga 3 nx from H6.out.blk K6.out st8.tch (by decide)); have O8 := Lib.hid (H6.out.ob O6.out st8.tch (by decide)); have P8 := Lib.hid o8; have B8 := Lib.hid (B6.out.trans st8.bel); have H8 := Lib.hid h8; have s8 := B8.out.size; clear h8 o8 st8)
    | ((go_at_call 24; (with_reducible refine (same_any I4 I8 n4 n8 i4 i8 _ _ w8 O8.out.rd.rb P8.out.rd.rb (by omega)).mono ?_); rintro e w9 ⟨he9, q9, rfl⟩); rw [decide_eq_true rfl] at he9; subst he9; have H9 := Lib.hid (H8.out.below (below_drewN (Below.refl _ _) q9)); have A9 := Lib.hid (show AreaAt (w8.drewN q9) ga p.d 1 8 from Blk.drewN A8.out q9); have J9 := Lib.hid (show JrnAt (w8.drewN q9) gj ga 3 nx from Blk.drewN J8.out q9); have K9 := Lib.hid (show JrnAt (w8.drewN q9) gk ga 3 nx from Blk.drewN K8.out q9); obtain ⟨oo, hh⟩ := c7 H9.out; have D9 := Lib.hid hh; have B9 := Lib.hid (below_drewN B8.out q9); have s9 : w1.heap.size ≤ (w8.drewN q9).heap.size := s8; clear hh)
    | (go_at_call 30; (with_reducible refine (s_meter H9.out).mono ?_); rintro e w10 ⟨rfl, rfl⟩)
    | (go_at_call 36; (with_reducible refine (c4 H9.out).mono ?_); rintro e w10 ⟨rfl, rfl⟩)
    | (go_at_call 23; (with_reducible refine (c5 H9.out).mono ?_); rintro e w10 ⟨rfl, rfl⟩)
    | ((go_at_call 54; (with_reducible refine (c3 J9.out A9.out D9.out s9).mono ?_); rintro e w11 ⟨L11, d11, rfl, l11, ⟨o11, h11⟩, st11⟩); have A11 := Lib.hid (D9.out.area A9.out st11.tch (by decide)); have K11 := Lib.hid (show JrnAt w11 gk ga 3 nx from D9.out.blk K9.out st11.tch (by decide)); have D11 := Lib.hid h11; have L1 := Lib.hid l11; have B11 := Lib.hid (B9.out.trans st11.bel); have s11 := B11.out.size; clear h11 l11 st11)
    | ((go_at_call 54; (with_reducible refine (c3 K11.out A11.out D11.out s11).mono ?_); rintro e w12 ⟨L12, d12, rfl, l12, ⟨o12, h12⟩, st12⟩); have L1b := Lib.hid (L1.out.touch D11.out st12.tch (by decide) (by decide)); have L2 := Lib.hid l12; have B12 := Lib.hid (B11.out.trans st12.bel); have s12 := B12.out.size; clear h12 l12 st12)
    | ((go_at_call 55; (with_reducible refine (hbg w12 L11 L12 d11 d12 L1b.out.rd L2.out.rd).mono ?_); rintro e w13 ⟨rfl, b13⟩); have B13 := Lib.hid (B12.out.trans (b13.mono s12)); have s13 := b13.size; have R1 := Lib.hid (L1b.out.rd.below b13 (Nat.le_refl _)); have R2 := Lib.hid (L2.out.rd.below b13 (Nat.le_refl _)))
    | ((go_at_call 55; (with_reducible refine (hbg w13 L12 L11 d12 d11 R2.out R1.out).mono ?_); rintro e w14 ⟨rfl, b14⟩); have B14 := Lib.hid (B13.out.trans (b14.mono (by omega))))
    | fail "no arm")
  go_ret
  exact ⟨rfl, hb1.trans (B14.out.mono s1)⟩
theorem walk (w : World) (B : Option Addr) (n d : Nat) (img : List UInt8) (hr : RB w B n img) (nc : n ≤ d) (cm : d ≤ maxLen) :
    Calls Try.prog 10 #[.slice B n d] w fun e w' => e = .returned (.bool true) ∧ Below w.heap.size w w' := by
  by_cases h : n ≤ 1280
  · exact walk_main B n d img w hr nc h
  · exact walk_big B n d w (by omega) (by omega)

--FRAME tompionlaw09 JournalTwice journalTwice walk bytes
theorem own : ownKnob Try.prog.godebug = none := by kernel_rfl
theorem laidOut : laidOutB Try.prog = true := by kernel_rfl

set_option maxRecDepth 100000 in
theorem lifted (os : Os) (started : os.Started) (H : Type) (enc : TypeId × Value → H) :
    ReturnsInHanded {} Try.checked os 10 .any (Rows.journalTwiceSpec.pre6 enc Try.prog Try.f10 Rows.journalTwiceRow.domain false) (Rows.journalTwiceSpec.post enc Try.prog Try.f10 false true false false) := by
  refine returnsInHanded_of_change (C := Try.checked) own started (by kernel_rfl) Try.func10
    (ChangeSpec.witness6 (enc := enc) (C := Try.checked) false ⟨#[], #[.slice none 0 0], []⟩ 8 (by kernel_rfl) (by kernel_rfl) (by kernel_rfl) (by kernel_rfl)) ?_
  intro W base args ds gs before hval0 hW hcnd _
  have hval : ∀ (j : Nat) t v, Try.f10.params[j]? = some t → args[j]? = some v → Value.okWide Try.prog W .any base t v := hval0
  have hW' := hW
  obtain ⟨p, q, hA0, hV, rfl, hfz, hnd⟩ := hW
  have hA : DataW.TrodAll enc Try.prog W 0 (fun _ => true) true Try.f10.params.toList args.toList ds p := hA0
  rw [Try.params10] at hA hval
  obtain ⟨v0, vs0, d0, ds0, p0, q0, hargs, rfl, rfl, h0, rr0⟩ := trodAll_cons hA
  obtain ⟨rfl, rfl, rfl⟩ := trodAll_nil rr0
  obtain rfl : args = #[v0] := by cases args; simp_all
  obtain ⟨rfl, rfl⟩ := trodVars_none hV
  have k0 := h0
  have lt0 : ∀ x ∈ p0, x.block < W.heap.size := by obtain ⟨m, hm⟩ := k0; exact DataW.trod_lt m _ _ _ hm
  obtain ⟨A0, n0, c0, l0, rfl, r0, nc0, cm0⟩ := args_bytes Try.underlying23 Try.underlying5 (by kernel_rfl) (hval 0 23 v0 rfl rfl) h0
  clear hA0 hval0
  refine (walk W A0 n0 c0 l0 r0 nc0 cm0).mono fun e W' ⟨he, bel⟩ => ?_
  subst he
  exact ⟨_, rfl, _, _, _, [], _, [], hW', trodAll_mk1 (shut_bool Try.underlying4 _), (trodAll_cons_mk (Below.trod laidOut (by kernel_rfl) (of_decide_eq_true (by kernel_rfl)) k0 bel lt0) trodAll_mk0), rfl, bel.frame _, fun h => by cases h⟩

theorem over : Rows.journalTwiceRow.holds Try.pinned (OpenSpec.ofChange Rows.journalTwiceSpec) :=
  OpenClaim.holds_of_wide 10 Try.f10 rfl rfl rfl rfl rfl rfl rfl ⟨rfl, rfl, rfl, rfl, rfl⟩ rfl rfl rfl rfl rfl (by kernel_rfl) Try.func10 (by kernel_rfl)
    (of_decide_eq_true (by kernel_rfl)) (by unfold Func.isWrapper; first | (rw [if_pos (by decide +kernel)]; kernel_rfl) | (rw [if_neg (by decide +kernel)]; exact ⟨rfl, rfl⟩))
    (fun os started H enc _ => lifted os started H enc)

theorem proved : Rows.JournalTwiceSaid := over
--ENDFRAME
end Go.Proofs.Ytninidpbchcliaa.journalTwice
