/- SlotsDoes: whatever is saved, cut, crashed and opened, each answer, the newest one, and what the disk keeps, are the document's. -/
import Derived.Test.YtninidpbchcliaaOneS
import Derived.Test.YtninidpbchcliaaSlotC
import Derived.IntWalk
namespace Go.Proofs.Ytninidpbchcliaa.slotsDoes
open Go.ChangeShapes Go.WideShapes Go.ChangeAt Go.RowKit
set_option linter.unusedVariables false
set_option linter.unusedSimpArgs false
theorem same_yes (A B : Option Addr) (n m c d : Nat) (l : List UInt8) (w : World) (ha : RB w A n l) (hb : RB w B m l) (hn : n ≤ maxLen) : Calls Try.prog 24 #[.slice A n c, .slice B m d] w fun e w' => e = .returned (.bool true) ∧ ∃ q, w' = w.drewN q := by
  have := same_any A B n m c d l l w ha hb hn
  rw [decide_eq_true rfl] at this
  exact this
set_option maxRecDepth 100000 in
set_option maxHeartbeats 8000000 in
theorem walk_few (A0 C0 : Option Addr) (n m0 c0 d0 : Nat) (v : Int) (l : List DoV) (w : World) (h1 : DosRd w C0 m0 l) (hn : n ≤ maxLen) (hm : m0 ≤ maxLen) (hc : few10B l = false ∨ (few10B l = true ∧ 1536 < n)) :
    Calls Try.prog 14 #[.slice A0 n c0, .int .u8 v, .slice C0 m0 d0] w fun e w' => e = .returned (.bool true) ∧ Below w.heap.size w w' := by
  have hf1 := fun w h => few10_any C0 m0 d0 l w h hm
  unfold maxLen at hn
  rcases hc with q1 | ⟨q1, q2⟩
  all_goals
    rw [q1] at hf1
    clear q1
    go_enter Try.func14, Try.ntmps14
    go_wp2_with (first
      | ((go_at_call 60; (with_reducible refine (awake10 _).mono ?_); rintro e w1 ⟨rfl, hb1⟩); have B1 := Lib.hid (below_then' (a := w) (B := w.heap.size) (by (repeat' (first | (with_reducible exact Below.refl _ _) | (with_reducible assumption) | (with_reducible refine Below.drew ?_) | (with_reducible refine below_drewN ?_ _) | (with_reducible refine Below.alloc ?_ ?_ _) | (with_reducible refine Below.setCell ?_ ?_ _) | omega | (simp; done) | (simp; omega)))) hb1 (by first | omega | (simp; done) | (simp; omega))); have s1 := B1.out.size; clear hb1)
      | (go_at_call 64; (with_reducible refine (load_nil _).mono ?_); rintro e w2 ⟨rfl, rfl⟩)
      | (go_at_call 63; (with_reducible refine (save_nil _ _ _ _).mono ?_); rintro e w2 ⟨rfl, rfl⟩)
      | ((go_at_call 62; (with_reducible refine (sopen_nil _).mono ?_); rintro e w2 ⟨rfl, hb2⟩); have B2 := Lib.hid (B1.out.trans (hb2.mono s1)); have s2 := B2.out.size; clear hb2)
      | ((go_at_call 65; (with_reducible refine (hf1 _ (h1.below (B0 := w.heap.size) B2.out (Nat.le_refl _))).mono ?_); rintro e w3 ⟨rfl, hb3⟩); have B3 := Lib.hid (B2.out.trans (hb3.mono s2)); clear hb3)
      | fail "no arm")
    go_ret
    exact ⟨rfl, B3.out⟩
set_option maxRecDepth 100000 in
set_option maxHeartbeats 8000000 in
theorem walk_no (A0 C0 : Option Addr) (n m0 c0 d0 : Nat) (v : Int) (img : List UInt8) (l : List DoV) (w : World) (h0 : RB w A0 n img) (h1 : DosRd w C0 m0 l) (hn : n ≤ 1536) (hm : m0 ≤ maxLen) (q1 : few10B l = true) (hv0 : 0 ≤ v) (hv1 : v ≤ 255)
    (c2 : ∀ w', RB w' A0 n img → Calls Try.prog 32 #[.slice A0 n c0, .int .i64 12, .int .i64 (v % 13)] w' fun e w'' => e = .returned (.tuple #[.pointer none, .int .i64 52]) ∧ Below w'.heap.size w' w'') :
    Calls Try.prog 14 #[.slice A0 n c0, .int .u8 v, .slice C0 m0 d0] w fun e w' => e = .returned (.bool true) ∧ Below w.heap.size w w' := by
  have hf1 := fun w h => few10_any C0 m0 d0 l w h hm
  rw [q1] at hf1
  have C2 := Lib.hid c2
  have htm : v.tmod 13 = v % 13 := Int.tmod_eq_emod_of_nonneg hv0
  clear q1 c2
  go_enter Try.func14, Try.ntmps14
  go_wp2_with (first
    | ((go_at_call 60; (with_reducible refine (awake10 _).mono ?_); rintro e w1 ⟨rfl, hb1⟩); have B1 := Lib.hid (below_then' (a := w) (B := w.heap.size) (by (repeat' (first | (with_reducible exact Below.refl _ _) | (with_reducible assumption) | (with_reducible refine Below.drew ?_) | (with_reducible refine below_drewN ?_ _) | (with_reducible refine Below.alloc ?_ ?_ _) | (with_reducible refine Below.setCell ?_ ?_ _) | omega | (simp; done) | (simp; omega)))) hb1 (by first | omega | (simp; done) | (simp; omega))); have s1 := B1.out.size; clear hb1)
    | (go_at_call 64; (with_reducible refine (load_nil _).mono ?_); rintro e w2 ⟨rfl, rfl⟩)
    | (go_at_call 63; (with_reducible refine (save_nil _ _ _ _).mono ?_); rintro e w2 ⟨rfl, rfl⟩)
    | ((go_at_call 62; (with_reducible refine (sopen_nil _).mono ?_); rintro e w2 ⟨rfl, hb2⟩); have B2 := Lib.hid (B1.out.trans (hb2.mono s1)); have s2 := B2.out.size; clear hb2)
    | ((go_at_call 65; (with_reducible refine (hf1 _ (h1.below (B0 := w.heap.size) B2.out (Nat.le_refl _))).mono ?_); rintro e w3 ⟨rfl, hb3⟩); have B3 := Lib.hid (B2.out.trans (hb3.mono s2)); have s3 := B3.out.size; clear hb3)
    | ((go_at_call 32; (with_reducible refine (C2.out _ (h0.below B3.out (Nat.le_refl _))).mono ?_); rintro e w4 ⟨rfl, hb4⟩); have B4 := Lib.hid (B3.out.trans (hb4.mono s3)); clear hb4)
    | fail "no arm")
  go_ret
  exact ⟨rfl, B4.out⟩
set_option maxRecDepth 100000 in
set_option maxHeartbeats 20000000 in
theorem walk_main (A0 C0 : Option Addr) (n m0 c0 d0 : Nat) (v : Int) (img : List UInt8) (l : List DoV) (w : World) (h0 : RB w A0 n img) (hnc : n ≤ c0) (h1 : DosRd w C0 m0 l) (hn : n ≤ 1536) (hm : m0 ≤ maxLen) (q1 : few10B l = true) (hv0 : 0 ≤ v) (hv1 : v ≤ 255) (hu : (usedN img : Int) ≤ v % 13) :
    Calls Try.prog 14 #[.slice A0 n c0, .int .u8 v, .slice C0 m0 d0] w fun e w' => e = .returned (.bool true) ∧ Below w.heap.size w w' := by
  have hq := few10B_true q1
  rw [h1.1] at hq
  obtain ⟨hm20, hsm⟩ := hq
  have hf1 := fun w h => few10_any C0 m0 d0 l w h hm
  rw [q1] at hf1
  have Hl1 := Lib.hid h1.1
  have htm : v.tmod 13 = v % 13 := Int.tmod_eq_emod_of_nonneg hv0
  have hr0 : 0 ≤ v % 13 := by omega
  have hr1 : v % 13 ≤ 12 := by omega
  have C1 := Lib.hid (fun (w' : World) (hr : RB w' A0 n img) => made10_ok A0 n c0 img (v % 13) w' hr hnc hr0 hr1 hn hu)
  have C2 := Lib.hid (fun (w' : World) (hr : RB w' A0 n img) => (show Calls Try.prog 32 #[.slice A0 n c0, .int .i64 12, .int .i64 (v % 13)] w' (RLdPost w' (loadD 12 (v % 13) img (usedN img))) from rload_any A0 n c0 12 (v % 13) img w' hr (by omega) (by omega) hr0 hr1 (by omega) (RLdPost w' (loadD 12 (v % 13) img (usedN img))) (fun _ e w'' h => h) (fun h => absurd hu (by omega))))
  have HW0 := Lib.hid (show (loadD 12 (v % 13) img (usedN img)).waits.length = 0 from rfl)
  have HM0 := Lib.hid (show (loadD 12 (v % 13) img (usedN img)).many = 12 from rfl)
  generalize loadD 12 (v % 13) img (usedN img) = D0 at *
  have C3 := Lib.hid (fun (W : World) (base : Nat) (p : DiskP) (h : DiskS W base p D0) (hs : base ≤ W.heap.size) => (show Calls Try.prog 39 #[.pointer (some ⟨p.d, 0, none⟩), .agg #[.int .i64 1, .int .i64 4]] W fun e w' => ∃ ga, e = .returned (.tuple #[.pointer (some ⟨ga, 0, none⟩), .int .i64 0]) ∧ AreaAt w' ga p.d 1 4 ∧ W.heap.size ≤ ga ∧ DiskS w' base p D0 ∧ Step mutD base p W w' from s_anew h hs 1 4 (by omega) (by rw [HM0.out]; omega)))
  clear q1 hsm hu
  go_enter Try.func14, Try.ntmps14
  go_upto_region 24 with (first
    | ((go_at_call 60; (with_reducible refine (awake10 _).mono ?_); rintro e w1 ⟨rfl, hb1⟩); have B1 := Lib.hid (below_then' (a := w) (B := w.heap.size) (by (repeat' (first | (with_reducible exact Below.refl _ _) | (with_reducible assumption) | (with_reducible refine Below.drew ?_) | (with_reducible refine below_drewN ?_ _) | (with_reducible refine Below.alloc ?_ ?_ _) | (with_reducible refine Below.setCell ?_ ?_ _) | omega | (simp; done) | (simp; omega)))) hb1 (by first | omega | (simp; done) | (simp; omega))); have s1 := B1.out.size; clear hb1)
    | (go_at_call 64; (with_reducible refine (load_nil _).mono ?_); rintro e w2 ⟨rfl, rfl⟩)
    | (go_at_call 63; (with_reducible refine (save_nil _ _ _ _).mono ?_); rintro e w2 ⟨rfl, rfl⟩)
    | ((go_at_call 65; (with_reducible refine (hf1 _ (h1.below (B0 := w.heap.size) B1b.out (Nat.le_refl _))).mono ?_); rintro e w2 ⟨rfl, hb2⟩); have B2 := Lib.hid (B1b.out.trans (hb2.mono s1b)); have s2 := B2.out.size; clear hb2)
    | ((go_at_call 32; (with_reducible refine (C2.out _ (h0.below B2.out (Nat.le_refl _))).mono ?_); rintro e w3 ⟨q, rfl, r3, hgi, hb3⟩); have R3 := Lib.hid (r3 w2.heap.size (Nat.le_refl _)); have HB3 := Lib.hid hb3; have B3 := Lib.hid (B2.out.trans (hb3.mono s2)); have s3 := hb3.size; clear r3 hgi hb3)
    | ((go_at_call 61; (with_reducible refine (C1.out _ (h0.below B3.out (Nat.le_refl _))).mono ?_); rintro e w4 ⟨p, ga, gb, rfl, o4⟩); have O4 := Lib.hid o4; have R4 := Lib.hid (R3.out.below o4.bel); have HB4 := Lib.hid (HB3.out.trans (o4.bel.mono s3)); have s4 := HB4.out.size; have z4 := o4.size; clear o4)
    | ((go_at_call 39; (with_reducible refine (C3.out _ _ _ O4.out.sd z4).mono ?_); rintro e w5 ⟨gs, rfl, as5, hgs, d5, st5⟩); have O5 := Lib.hid (O4.out.step st5 d5); have AS := Lib.hid as5; have ST5 := Lib.hid st5; have s5 := st5.size; clear as5 d5 st5)
    | ((go_at_call 62; (with_reducible refine (sopen_arg O5.out.a AS.out (by omega) (by omega) (by omega)).mono ?_); rintro e w6 ⟨rfl, hb6⟩); have O6 := Lib.hid (O5.out.below hb6); have b6 := Lib.hid hb6; have s6 := hb6.size; clear hb6)
    | ((go_at_call 62; (with_reducible refine (sopen_nil _).mono ?_); rintro e w1b ⟨rfl, hb1b⟩); have B1b := Lib.hid (B1.out.trans (hb1b.mono s1)); have s1b := B1b.out.size; clear hb1b)
    | fail "no arm")
  have hn1 : q.gi ≠ p.gi ∧ q.gi ≠ p.gm := by
    obtain ⟨A, c, h⟩ := O4.out.sd
    obtain ⟨_, _, ⟨c2, b2⟩, _⟩ := R3.out.kinds
    have e0 := b2.lt
    have e1 := h.bs p.gi (.inr (.inr (.inr (.inl rfl))))
    have e2 := h.bs p.gm (.inr (.inr (.inr (.inr (.inl rfl)))))
    omega
  obtain ⟨n1, n2⟩ := hn1
  have RD := Lib.hid (h1.below B2.out (Nat.le_refl _))
  have bW : Below w6.heap.size w6 (w6.alloc (.cells #[.pointer (some ⟨p.d, 0, none⟩), .pointer (some ⟨ga, 0, none⟩), .pointer (some ⟨gb, 0, none⟩), .pointer none, .pointer (some ⟨q.d, 0, none⟩), .pointer none] 127)) := (Below.refl _ _).alloc (Nat.le_refl _) _
  have s26 : w2.heap.size ≤ w6.heap.size := by omega
  have R5 := R4.out.step (O4.out.sd.rebase s3) ⟨ST5.out.bel.mono s3, ST5.out.tch⟩ n1 n2 (by decide) (by decide)
  have bel6 : Below w2.heap.size w2 w6 := (HB4.out.trans (ST5.out.bel.mono s3)).trans (b6.out.mono (by omega))
  have SB0 : SB w2 (w6.alloc (.cells #[.pointer (some ⟨p.d, 0, none⟩), .pointer (some ⟨ga, 0, none⟩), .pointer (some ⟨gb, 0, none⟩), .pointer none, .pointer (some ⟨q.d, 0, none⟩), .pointer none] 127)) w2.heap.size p q ga gb w6.heap.size none none D0 D0 :=
    ⟨(O6.out.sd.rebase s3).below bW, (R5.below b6.out).below bW, n1, n2, Blk.below O6.out.a bW (Blk.lt O6.out.a), Blk.below O6.out.b bW (Blk.lt O6.out.b), Blk.top w6 rfl rfl, bel6.trans (bW.mono s26), Nat.le_refl _⟩
  have c3 := bsopen_any SB0 s26 HM0.out
  obtain ⟨fk, fm, fw⟩ := openSV_ok D0 0 6 6 6
  have FK := Lib.hid fk
  have FM := Lib.hid (fm.trans HM0.out)
  have FW := Lib.hid (show (openSV D0 0 6 6 6).1.waits.length = 0 from by rw [fw]; exact HW0.out)
  generalize openSV D0 0 6 6 6 = R at *
  clear hf1 htm R5 bW SB0 bel6 fk fm fw
  go_upto_region 27 with (first
    | ((go_at_call 66; (with_reducible refine (c3).mono ?_); rintro e w7 ⟨rfl, hc7⟩); clear c3)
    | fail "no arm")
  rcases hc7 with ⟨_, hsb, _⟩ | ⟨_, g10, g20, hsb, hsa, hra, hg1, hg2⟩
  · have y5 : w7.cell? ⟨w6.heap.size, 5, none⟩ = some (.pointer none) := hsb.bo.cell 5
    have BE := Lib.hid hsb.bel
    clear hsb
    go_wp2
    go_ret
    exact ⟨rfl, B2.out.trans (BE.out.mono s2)⟩
  · have y5 : w7.cell? ⟨w6.heap.size, 5, none⟩ = some (.pointer (some ⟨g20, 0, none⟩)) := hsb.bo.cell 5
    have HSB := Lib.hid hsb
    have HSA := Lib.hid hsa
    have HRA := Lib.hid hra
    clear hsb hsa hra
    generalize hgk : w6.heap.size = gk at *
    have HGK := Lib.hid hgk
    clear hgk
    go_wp2_with fail
    go_loopw [24, 109] (fun _ i wr => ∃ (k : Nat) (D : DiskV) (g1 g2 : Nat) (s : SlV3), k ≤ m0 ∧ i = .int .i64 (k : Nat) ∧ SB w2 wr w2.heap.size p q ga gb gk (some ⟨g1, 0, none⟩) (some ⟨g2, 0, none⟩) D D ∧ SlotsAt wr w2.heap.size g1 ga gb s ∧ RSlotsAt wr w2.heap.size g2 q 0 6 6 6 s ∧ w2.heap.size ≤ g1 ∧ w2.heap.size ≤ g2 ∧ SOk s ∧ D.many = 12 ∧ D.waits.length ≤ 6 * k) (fun _ i _ => m0 - (intOf i).toNat)
    case atStart => exact ⟨0, R.1, g10, g20, R.2.1, by omega, rfl, HSB.out, HSA.out, HRA.out, hg1, hg2, FK.out, FM.out, by rw [FW.out]; omega⟩
    case round =>
      obtain ⟨k, D, g1, g2, s, hk, rfl, hB, hsa, hra, hg1', hg2', hok, hmany, hwt⟩ := hrel
      have hbs := hB.size
      by_cases hlt : k < m0
      · obtain ⟨x, hx⟩ : ∃ x, l[k]? = some x := ⟨_, List.getElem?_eq_getElem (by rw [Hl1.out]; exact hlt)⟩
        obtain ⟨b, o, B, m, d, hC0, hr, hmd, hdm, hxn, hget⟩ := (show DosRd w2 C0 m0 l from RD.out).get hx
        obtain ⟨hb, e0, e1, e2⟩ := hget wr _ hB.bel (Nat.le_refl _)
        have hlow : 0 < m → ∀ g, B.map (·.block) = some g → g < w2.heap.size := fun h0 g hg => by
          obtain ⟨b9, o9, e9, h9, _⟩ := hr.2 h0
          rw [e9] at hg
          simp only [Option.map_some, Option.some.injEq] at hg
          omega
        have bW : Below wr.heap.size wr (wr.alloc (.cells #[.int .i64 x.kind, .int .i64 x.n, .slice B m d] 122)) := (Below.refl _ _).alloc (Nat.le_refl _) _
        have hBW := hB.below bW
        have c2 := one10_any hBW (hsa.below bW) (hra.below bW) ⟨by have := HGK.out; omega, hg1', hg2'⟩ hmany hok x B m d (hr.below hBW.bel (Nat.le_refl _)) hlow hmd hdm hxn.2 (by omega)
        clear hB hsa hra hr hlow hx hget bW hBW
        subst hC0
        go_upto_region 34 with (first
          | ((go_at_call 67; (with_reducible refine (c2).mono ?_); rintro e w8 ⟨rfl, D', g1', g2', s', hsb8, hsa8, hra8, hg18, hg28, hok8, hm8, hw8⟩); have O8 := Lib.hid hsb8; have SA8 := Lib.hid hsa8; have RA8 := Lib.hid hra8; have z3 : w8.cell? ⟨gk, 3, none⟩ = some (.pointer (some ⟨g1', 0, none⟩)) := hsb8.bo.cell 3; clear hsb8 hsa8 hra8 c2)
          | fail "no arm")
        have cld := load_any SA8.out
        have hnow2 : s'.now ≤ 2 := by obtain ⟨_, _, _, _, _, _, _, h5, _⟩ := SA8.out; exact h5
        obtain ⟨B9, n9, d9, hx9, hnd9, hdm9, hb9, _⟩ := RA8.out
        have HX9 := Lib.hid hx9
        have HB9 := Lib.hid hb9
        have HOK8 := Lib.hid hok8
        have HM8 := Lib.hid (hm8.trans hmany)
        have HW8 := Lib.hid (show D'.waits.length ≤ 6 * (k + 1) from by omega)
        clear hx9 hb9 hok8 hm8 hw8 hmany hwt hok
        have hld : (s'.now = 2 ∧ loadSV s' = (s'.load, s'.number, false)) ∨ (s'.now ≠ 2 ∧ loadSV s' = (s'.load, s'.number, true)) := by
          by_cases h2 : s'.now = 2
          · refine .inl ⟨h2, ?_⟩
            obtain ⟨e1, e2⟩ := HOK8.out.2 h2
            unfold loadSV
            rw [if_pos h2, e1, e2]
          · exact .inr ⟨h2, by unfold loadSV; rw [if_neg h2]⟩
        rcases hld with ⟨h2, hl2⟩ | ⟨h2, hl2⟩
        · have hnl : ((s'.now : Int) < 2) = False := eq_false (by omega)
          rw [hl2] at cld
          simp only at cld
          clear h2 hl2
          go_upto_region 35 with (first
            | ((go_at_call 64; (with_reducible refine (cld).mono ?_); rintro e w9 ⟨B1, nn1, dd1, rfl, ob1, bb1⟩); have O9 := Lib.hid (O8.out.below bb1); have SA9 := Lib.hid (SA8.out.below bb1); have RA9 := Lib.hid (RA8.out.below bb1); have X9 := Lib.hid (HX9.out.below bb1 HX9.out.lt); have z5 : w9.cell? ⟨gk, 5, none⟩ = some (.pointer (some ⟨g2', 0, none⟩)) := O9.out.bo.cell 5; have z6 : w9.cell? ⟨g2', 6, none⟩ = some (.int .i64 (s'.now : Nat)) := X9.out.cell 6; have z7 : w9.cell? ⟨g2', 7, none⟩ = some (.int .i64 s'.number) := X9.out.cell 7; have z8 : w9.cell? ⟨g2', 8, none⟩ = some (.slice B9 n9 d9) := X9.out.cell 8; have hsame := same_yes B1 B9 nn1 n9 dd1 d9 s'.load w9 ob1.rd.rb (HB9.out.below bb1).1 (by have e9 := ob1.cap; omega); clear bb1 ob1)
            | fail "no arm")
          go_wp2_with (first
            | ((go_at_call 24; (with_reducible refine (hsame).mono ?_); rintro e w10 ⟨rfl, q10, rfl⟩); have bq := Lib.hid (below_drewN (Below.refl w9.heap.size w9) q10))
            | fail "no arm")
          go_roundw
          case rel => first
            | exact ⟨k + 1, D', g1', g2', s', by omega, by go_num, O9.out.below bq.out, SA9.out.below bq.out, RA9.out.below bq.out, hg18, hg28, HOK8.out, HM8.out, HW8.out⟩
            | ((repeat apply Exists.intro); exact ⟨⟨k + 1, D', g1', g2', s', by omega, by go_num, O9.out.below bq.out, SA9.out.below bq.out, RA9.out.below bq.out, hg18, hg28, HOK8.out, HM8.out, HW8.out⟩, rfl⟩)
          case measure => simp [intOf]; omega
        · have hnl : ((s'.now : Int) < 2) = True := eq_true (by omega)
          rw [hl2] at cld
          simp only at cld
          clear h2 hl2
          go_upto_region 35 with (first
            | ((go_at_call 64; (with_reducible refine (cld).mono ?_); rintro e w9 ⟨B1, nn1, dd1, rfl, ob1, bb1⟩); have O9 := Lib.hid (O8.out.below bb1); have SA9 := Lib.hid (SA8.out.below bb1); have RA9 := Lib.hid (RA8.out.below bb1); have X9 := Lib.hid (HX9.out.below bb1 HX9.out.lt); have z5 : w9.cell? ⟨gk, 5, none⟩ = some (.pointer (some ⟨g2', 0, none⟩)) := O9.out.bo.cell 5; have z6 : w9.cell? ⟨g2', 6, none⟩ = some (.int .i64 (s'.now : Nat)) := X9.out.cell 6; have z7 : w9.cell? ⟨g2', 7, none⟩ = some (.int .i64 s'.number) := X9.out.cell 7; have z8 : w9.cell? ⟨g2', 8, none⟩ = some (.slice B9 n9 d9) := X9.out.cell 8; have hsame := same_yes B1 B9 nn1 n9 dd1 d9 s'.load w9 ob1.rd.rb (HB9.out.below bb1).1 (by have e9 := ob1.cap; omega); clear bb1 ob1)
            | fail "no arm")
          go_wp2_with (first
            | ((go_at_call 24; (with_reducible refine (hsame).mono ?_); rintro e w10 ⟨rfl, q10, rfl⟩); have bq := Lib.hid (below_drewN (Below.refl w9.heap.size w9) q10))
            | fail "no arm")
          go_roundw
          case rel => first
            | exact ⟨k + 1, D', g1', g2', s', by omega, by go_num, O9.out.below bq.out, SA9.out.below bq.out, RA9.out.below bq.out, hg18, hg28, HOK8.out, HM8.out, HW8.out⟩
            | ((repeat apply Exists.intro); exact ⟨⟨k + 1, D', g1', g2', s', by omega, by go_num, O9.out.below bq.out, SA9.out.below bq.out, RA9.out.below bq.out, hg18, hg28, HOK8.out, HM8.out, HW8.out⟩, rfl⟩)
          case measure => simp [intOf]; omega
      · have cim := s_image hB.sd hbs
        have HBB := Lib.hid hB
        have hkl : D.kept.length ≤ 4096 * 128 := by
          obtain ⟨A9, c9, h9⟩ := hB.sd
          have e1 := h9.ok.kept
          have e2 := h9.ok.many1
          rw [e1]; omega
        clear hB hsa hra hok hmany hwt
        go_wp2_with (first
          | ((go_at_call 25; (with_reducible refine (cim).mono ?_); rintro e w8 ⟨I6, N6, i6, rfl, o6, d6, st6⟩); have r6 := HBB.out.sr.step HBB.out.sd st6 n1 n2 (by decide) (by decide); have s6' : w2.heap.size ≤ w8.heap.size := Nat.le_trans hbs st6.size; have b6' := HBB.out.bel.trans st6.bel; have cim2 := r_image r6 s6'; have OO6 := Lib.hid o6; have BB6 := Lib.hid b6'; clear o6 d6 st6 r6 b6')
          | ((go_at_call 35; (with_reducible refine (cim2).mono ?_); rintro e w9 ⟨I7, N7, i7, rfl, o7, b7⟩); have o67 := OO6.out.below b7 (Nat.le_refl _); have hN6 : N6 ≤ maxLen := (by have e1 := o67.cap; omega); have hsame := same_any I6 I7 N6 N7 i6 i7 D.kept D.kept w9 o67.rd.rb o7.rd.rb hN6; have B7 := Lib.hid (BB6.out.trans (b7.mono s6')); clear o67 o7 b7)
          | (rw [decide_eq_true rfl] at hsame; (go_at_call 24; (with_reducible refine (hsame).mono ?_); rintro e w10 ⟨rfl, q8, rfl⟩))
          | (rw [show decide True = true from rfl] at hsame; (go_at_call 24; (with_reducible refine (hsame).mono ?_); rintro e w10 ⟨rfl, q8, rfl⟩))
          | fail "no arm")
        go_ret
        exact ⟨rfl, B2.out.trans ((below_drewN B7.out q8).mono s2)⟩
theorem walk (w : World) (A0 : Option Addr) (n c0 : Nat) (img : List UInt8) (hr : RB w A0 n img) (nc : n ≤ c0) (cm : c0 ≤ maxLen) (v : Int) (wv : (Lit.int .u8 v).wf = true) (v2 : Value) (x2 : ∃ A n c l, v2 = .slice A n c ∧ DosRd w A n l ∧ n ≤ c ∧ c ≤ maxLen) :
    Calls Try.prog 14 #[.slice A0 n c0, .int .u8 v, v2] w fun e w' => e = .returned (.bool true) ∧ Below w.heap.size w w' := by
  obtain ⟨C0, m0, d0, l, rfl, h1, nc1, cm1⟩ := x2
  have hv := bounds_u8 wv
  have hn : n ≤ maxLen := by omega
  have hm : m0 ≤ maxLen := by omega
  cases q : few10B l with
  | false => exact walk_few A0 C0 n m0 c0 d0 v l w h1 hn hm (.inl q)
  | true =>
    by_cases h3 : 1536 < n
    · exact walk_few A0 C0 n m0 c0 d0 v l w h1 hn hm (.inr ⟨q, h3⟩)
    by_cases hu : (usedN img : Int) ≤ v % 13
    · exact walk_main A0 C0 n m0 c0 d0 v img l w hr nc h1 (by omega) hm q (by omega) (by omega) hu
    · exact walk_no A0 C0 n m0 c0 d0 v img l w hr h1 (by omega) hm q (by omega) (by omega) (fun w' hr' => rload_any A0 n c0 12 (v % 13) img w' hr' (by omega) (by omega) (by omega) (by omega) (by omega) _ (fun h => absurd h hu) (fun _ e w'' h => h))

--FRAME tompionlaw10 SlotsDoes slotsDoes walk bytes u8 raw:[]tompionlaw10.Do:args_dos10:.slice‹_›none‹_›0‹_›0
theorem own : ownKnob Try.prog.godebug = none := by kernel_rfl
theorem laidOut : laidOutB Try.prog = true := by kernel_rfl

set_option maxRecDepth 100000 in
theorem lifted (os : Os) (started : os.Started) (H : Type) (enc : TypeId × Value → H) :
    ReturnsInHanded {} Try.checked os 14 .any (Rows.slotsDoesSpec.pre6 enc Try.prog Try.f14 Rows.slotsDoesRow.domain false) (Rows.slotsDoesSpec.post enc Try.prog Try.f14 false true false false) := by
  refine returnsInHanded_of_change (C := Try.checked) own started (by kernel_rfl) Try.func14
    (ChangeSpec.witness6 (enc := enc) (C := Try.checked) false ⟨#[], #[.slice none 0 0, .int .u8 0, .slice none 0 0], []⟩ 8 (by kernel_rfl) (by kernel_rfl) (by kernel_rfl) (by kernel_rfl)) ?_
  intro W base args ds gs before hval0 hW hcnd _
  have hval : ∀ (j : Nat) t v, Try.f14.params[j]? = some t → args[j]? = some v → Value.okWide Try.prog W .any base t v := hval0
  have hW' := hW
  obtain ⟨p, q, hA0, hV, rfl, hfz, hnd⟩ := hW
  have hA : DataW.TrodAll enc Try.prog W 0 (fun _ => true) true Try.f14.params.toList args.toList ds p := hA0
  rw [Try.params14] at hA hval
  obtain ⟨v0, vs0, d0, ds0, p0, q0, hargs, rfl, rfl, h0, rr0⟩ := trodAll_cons hA
  obtain ⟨v1, vs1, d1, ds1, p1, q1, rfl, rfl, rfl, h1, rr1⟩ := trodAll_cons rr0
  obtain ⟨v2, vs2, d2, ds2, p2, q2, rfl, rfl, rfl, h2, rr2⟩ := trodAll_cons rr1
  obtain ⟨rfl, rfl, rfl⟩ := trodAll_nil rr2
  obtain rfl : args = #[v0, v1, v2] := by cases args; simp_all
  obtain ⟨rfl, rfl⟩ := trodVars_none hV
  have k0 := h0
  have lt0 : ∀ x ∈ p0, x.block < W.heap.size := by obtain ⟨m, hm⟩ := k0; exact DataW.trod_lt m _ _ _ hm
  obtain ⟨A0, n0, c0, l0, rfl, r0, nc0, cm0⟩ := args_bytes Try.underlying23 Try.underlying5 (by kernel_rfl) (hval 0 23 v0 rfl rfl) h0
  have k1 := h1
  have lt1 : ∀ x ∈ p1, x.block < W.heap.size := by obtain ⟨m, hm⟩ := k1; exact DataW.trod_lt m _ _ _ hm
  obtain ⟨a1, rfl, wf1⟩ := args_int Try.underlying5 (hval 1 5 v1 rfl rfl) h1
  have k2 := h2
  have lt2 : ∀ x ∈ p2, x.block < W.heap.size := by obtain ⟨m, hm⟩ := k2; exact DataW.trod_lt m _ _ _ hm
  have x2 := args_dos10 (hval 2 120 v2 rfl rfl) h2
  clear hA0 hval0
  refine (walk W A0 n0 c0 l0 r0 nc0 cm0 a1 wf1 v2 x2).mono fun e W' ⟨he, bel⟩ => ?_
  subst he
  exact ⟨_, rfl, _, _, _, [], _, [], hW', trodAll_mk1 (shut_bool Try.underlying4 _), (trodAll_cons_mk (Below.trod laidOut (by kernel_rfl) (of_decide_eq_true (by kernel_rfl)) k0 bel lt0) (trodAll_cons_mk (Below.trod laidOut (by kernel_rfl) (of_decide_eq_true (by kernel_rfl)) k1 bel lt1) (trodAll_cons_mk (Below.trod laidOut (by kernel_rfl) (of_decide_eq_true (by kernel_rfl)) k2 bel lt2) trodAll_mk0))), rfl, bel.frame _, fun h => by cases h⟩

theorem over : Rows.slotsDoesRow.holds Try.pinned (OpenSpec.ofChange Rows.slotsDoesSpec) :=
  OpenClaim.holds_of_wide 14 Try.f14 rfl rfl rfl rfl rfl rfl rfl ⟨rfl, rfl, rfl, rfl, rfl⟩ rfl rfl rfl rfl rfl (by kernel_rfl) Try.func14 (by kernel_rfl)
    (of_decide_eq_true (by kernel_rfl)) (by unfold Func.isWrapper; first | (rw [if_pos (by decide +kernel)]; kernel_rfl) | (rw [if_neg (by decide +kernel)]; exact ⟨rfl, rfl⟩))
    (fun os started H enc _ => lifted os started H enc)

theorem proved : Rows.SlotsDoesSaid := over
--ENDFRAME
end Go.Proofs.Ytninidpbchcliaa.slotsDoes
