/- JournalDoes: whatever is done to a journal, each answer, and what the disk keeps, are the document's. -/
import Derived.Test.YtninidpbchcliaaOneJ
import Derived.IntWalk
namespace Go.Proofs.Ytninidpbchcliaa.journalDoes
open Go.ChangeShapes Go.WideShapes Go.ChangeAt Go.RowKit
set_option linter.unusedVariables false
set_option linter.unusedSimpArgs false
theorem wpAnyH_more {P : Program} {md : Region.Mode} {ops : Array Oper} {Q : Exit → Act → World → Prop} {S S' : World → Prop} (h : ∀ w, S' w → S w) : ∀ (fuel : Nat) (listed : Array Bool) (a : Act) (w : World), wpAnyH P md ops Q S' fuel listed a w → wpAnyH P md ops Q S fuel listed a w
  | 0, _, _, _, hx => hx
  | fuel + 1, _, _, _, hx => ⟨hx.1, fun i hi => wpOp_mono (fun a' w' h' => ⟨h _ h'.1, wpAnyH_more h fuel _ a' w' h'.2⟩) (hx.2 i hi)⟩
theorem jlen_nil (w : World) : Calls Try.prog 56 #[.pointer none] w fun e w' => e = .returned (.int .i64 0) ∧ w = w' := by
  go_enter Try.func56, Try.ntmps56
  go_wp2_with (first
    | (go_at_call 93; (with_reducible refine (jis_nil _).mono ?_); rintro e w1 ⟨rfl, rfl⟩)
    | fail "no arm")
  go_ret
  exact ⟨rfl, rfl⟩
theorem jroom_nil (w : World) : Calls Try.prog 57 #[.pointer none] w fun e w' => e = .returned (.int .i64 0) ∧ w = w' := by
  go_enter Try.func57, Try.ntmps57
  go_wp2_with (first
    | (go_at_call 93; (with_reducible refine (jis_nil _).mono ?_); rintro e w1 ⟨rfl, rfl⟩)
    | fail "no arm")
  go_ret
  exact ⟨rfl, rfl⟩
theorem jflush_nil (w : World) : Calls Try.prog 53 #[.pointer none] w fun e w' => e = .returned (.int .i64 1) ∧ w = w' := by
  go_enter Try.func53, Try.ntmps53
  go_wp2_with (first
    | (go_at_call 93; (with_reducible refine (jis_nil _).mono ?_); rintro e w1 ⟨rfl, rfl⟩)
    | fail "no arm")
  go_ret
  exact ⟨rfl, rfl⟩
set_option maxRecDepth 100000 in
set_option maxHeartbeats 8000000 in
theorem walk_few (A0 C0 : Option Addr) (n m0 c0 d0 : Nat) (v : Int) (l : List DoV) (w : World) (h1 : DosRd w C0 m0 l) (hn : n ≤ maxLen) (hm : m0 ≤ maxLen) (hc : few9B l = false ∨ (few9B l = true ∧ 1280 < n)) :
    Calls Try.prog 11 #[.slice A0 n c0, .int .u8 v, .slice C0 m0 d0] w fun e w' => e = .returned (.bool true) ∧ Below w.heap.size w w' := by
  have hf1 := fun w h => few9_any C0 m0 d0 l w h hm
  unfold maxLen at hn
  rcases hc with q1 | ⟨q1, q2⟩
  all_goals
    rw [q1] at hf1
    clear q1
    go_enter Try.func11, Try.ntmps11
    go_wp2_with (first
      | ((go_at_call 48; (with_reducible refine (awake9 _).mono ?_); rintro e w1 ⟨rfl, hb1⟩); have B1 := Lib.hid (below_then' (a := w) (B := w.heap.size) (by (repeat' (first | (with_reducible exact Below.refl _ _) | (with_reducible assumption) | (with_reducible refine Below.drew ?_) | (with_reducible refine below_drewN ?_ _) | (with_reducible refine Below.alloc ?_ ?_ _) | (with_reducible refine Below.setCell ?_ ?_ _) | omega | (simp; done) | (simp; omega)))) hb1 (by first | omega | (simp; done) | (simp; omega))); clear hb1)
      | (go_at_call 52; (with_reducible refine (jadd_nil _ _ _ _).mono ?_); rintro e w2 ⟨rfl, rfl⟩)
      | (go_at_call 56; (with_reducible refine (jlen_nil _).mono ?_); rintro e w2 ⟨rfl, rfl⟩)
      | (go_at_call 57; (with_reducible refine (jroom_nil _).mono ?_); rintro e w2 ⟨rfl, rfl⟩)
      | (go_at_call 53; (with_reducible refine (jflush_nil _).mono ?_); rintro e w2 ⟨rfl, rfl⟩)
      | (go_at_call 51; (with_reducible refine (jopen_nil _ _).mono ?_); rintro e w2 ⟨rfl, rfl⟩)
      | ((go_at_call 49; (with_reducible refine (hf1 _ (h1.below (B0 := w.heap.size) B1.out (Nat.le_refl _))).mono ?_); rintro e w2 ⟨rfl, hb2⟩); have B2 := Lib.hid (B1.out.trans (hb2.mono B1.out.size)); clear hb2)
      | fail "no arm")
    go_ret
    exact ⟨rfl, B2.out⟩
set_option maxRecDepth 100000 in
set_option maxHeartbeats 8000000 in
theorem walk_no (A0 C0 : Option Addr) (n m0 c0 d0 : Nat) (v : Int) (img : List UInt8) (l : List DoV) (w : World) (h0 : RB w A0 n img) (h1 : DosRd w C0 m0 l) (hn : n ≤ 1280) (hm : m0 ≤ maxLen) (q1 : few9B l = true) (hv0 : 0 ≤ v) (hv1 : v ≤ 255)
    (c2 : ∀ w', RB w' A0 n img → Calls Try.prog 32 #[.slice A0 n c0, .int .i64 10, .int .i64 (v % 11)] w' fun e w'' => e = .returned (.tuple #[.pointer none, .int .i64 52]) ∧ Below w'.heap.size w' w'') :
    Calls Try.prog 11 #[.slice A0 n c0, .int .u8 v, .slice C0 m0 d0] w fun e w' => e = .returned (.bool true) ∧ Below w.heap.size w w' := by
  have hf1 := fun w h => few9_any C0 m0 d0 l w h hm
  rw [q1] at hf1
  have C2 := Lib.hid c2
  have htm : v.tmod 11 = v % 11 := Int.tmod_eq_emod_of_nonneg hv0
  clear q1 c2
  go_enter Try.func11, Try.ntmps11
  go_wp2_with (first
    | ((go_at_call 48; (with_reducible refine (awake9 _).mono ?_); rintro e w1 ⟨rfl, hb1⟩); have B1 := Lib.hid (below_then' (a := w) (B := w.heap.size) (by (repeat' (first | (with_reducible exact Below.refl _ _) | (with_reducible assumption) | (with_reducible refine Below.drew ?_) | (with_reducible refine below_drewN ?_ _) | (with_reducible refine Below.alloc ?_ ?_ _) | (with_reducible refine Below.setCell ?_ ?_ _) | omega | (simp; done) | (simp; omega)))) hb1 (by first | omega | (simp; done) | (simp; omega))); clear hb1)
    | (go_at_call 52; (with_reducible refine (jadd_nil _ _ _ _).mono ?_); rintro e w2 ⟨rfl, rfl⟩)
    | (go_at_call 56; (with_reducible refine (jlen_nil _).mono ?_); rintro e w2 ⟨rfl, rfl⟩)
    | (go_at_call 57; (with_reducible refine (jroom_nil _).mono ?_); rintro e w2 ⟨rfl, rfl⟩)
    | (go_at_call 53; (with_reducible refine (jflush_nil _).mono ?_); rintro e w2 ⟨rfl, rfl⟩)
    | (go_at_call 51; (with_reducible refine (jopen_nil _ _).mono ?_); rintro e w2 ⟨rfl, rfl⟩)
    | ((go_at_call 49; (with_reducible refine (hf1 _ (h1.below (B0 := w.heap.size) B1.out (Nat.le_refl _))).mono ?_); rintro e w2 ⟨rfl, hb2⟩); have B2 := Lib.hid (B1.out.trans (hb2.mono B1.out.size)); have s2 := B2.out.size; clear hb2)
    | ((go_at_call 32; (with_reducible refine (C2.out _ (h0.below B2.out (Nat.le_refl _))).mono ?_); rintro e w3 ⟨rfl, hb3⟩); have B3 := Lib.hid (B2.out.trans (hb3.mono s2)); clear hb3)
    | fail "no arm")
  go_ret
  exact ⟨rfl, B3.out⟩
set_option maxRecDepth 100000 in
set_option maxHeartbeats 20000000 in
theorem walk_main (A0 C0 : Option Addr) (n m0 c0 d0 : Nat) (v : Int) (img : List UInt8) (l : List DoV) (w : World) (h0 : RB w A0 n img) (hnc : n ≤ c0) (h1 : DosRd w C0 m0 l) (hn : n ≤ 1280) (hm : m0 ≤ maxLen) (q1 : few9B l = true) (hv0 : 0 ≤ v) (hv1 : v ≤ 255) (hu : (usedN img : Int) ≤ v % 11) :
    Calls Try.prog 11 #[.slice A0 n c0, .int .u8 v, .slice C0 m0 d0] w fun e w' => e = .returned (.bool true) ∧ Below w.heap.size w w' := by
  have hq := few9B_true q1
  rw [h1.1] at hq
  obtain ⟨hm40, hsm⟩ := hq
  have hf1 := fun w h => few9_any C0 m0 d0 l w h hm
  rw [q1] at hf1
  have Hl1 := Lib.hid h1.1
  have htm : v.tmod 11 = v % 11 := Int.tmod_eq_emod_of_nonneg hv0
  have hr0 : 0 ≤ v % 11 := by omega
  have hr1 : v % 11 ≤ 10 := by omega
  have C1 := Lib.hid (fun (w' : World) (hr : RB w' A0 n img) => made9_ok A0 n c0 img (v % 11) w' hr hnc hr0 hr1 hn hu)
  have C2 := Lib.hid (fun (w' : World) (hr : RB w' A0 n img) => (show Calls Try.prog 32 #[.slice A0 n c0, .int .i64 10, .int .i64 (v % 11)] w' (RLdPost w' (loadD 10 (v % 11) img (usedN img))) from rload_any A0 n c0 10 (v % 11) img w' hr (by omega) (by omega) hr0 hr1 (by omega) (RLdPost w' (loadD 10 (v % 11) img (usedN img))) (fun _ e w'' h => h) (fun h => absurd hu (by omega))))
  have HW0 := Lib.hid (show (loadD 10 (v % 11) img (usedN img)).waits.length = 0 from rfl)
  have HM0 := Lib.hid (show (loadD 10 (v % 11) img (usedN img)).many = 10 from rfl)
  generalize loadD 10 (v % 11) img (usedN img) = D0 at *
  clear q1 hsm hu
  go_enter Try.func11, Try.ntmps11
  go_upto_region 18 with (first
    | ((go_at_call 48; (with_reducible refine (awake9 _).mono ?_); rintro e w1 ⟨rfl, hb1⟩); have B1 := Lib.hid (below_then' (a := w) (B := w.heap.size) (by (repeat' (first | (with_reducible exact Below.refl _ _) | (with_reducible assumption) | (with_reducible refine Below.drew ?_) | (with_reducible refine below_drewN ?_ _) | (with_reducible refine Below.alloc ?_ ?_ _) | (with_reducible refine Below.setCell ?_ ?_ _) | omega | (simp; done) | (simp; omega)))) hb1 (by first | omega | (simp; done) | (simp; omega))); clear hb1)
    | (go_at_call 52; (with_reducible refine (jadd_nil _ _ _ _).mono ?_); rintro e w2 ⟨rfl, rfl⟩)
    | (go_at_call 56; (with_reducible refine (jlen_nil _).mono ?_); rintro e w2 ⟨rfl, rfl⟩)
    | (go_at_call 57; (with_reducible refine (jroom_nil _).mono ?_); rintro e w2 ⟨rfl, rfl⟩)
    | (go_at_call 53; (with_reducible refine (jflush_nil _).mono ?_); rintro e w2 ⟨rfl, rfl⟩)
    | (go_at_call 51; (with_reducible refine (jopen_nil _ _).mono ?_); rintro e w2 ⟨rfl, rfl⟩)
    | ((go_at_call 49; (with_reducible refine (hf1 _ (h1.below (B0 := w.heap.size) B1.out (Nat.le_refl _))).mono ?_); rintro e w2 ⟨rfl, hb2⟩); have B2 := Lib.hid (B1.out.trans (hb2.mono B1.out.size)); have s2 := B2.out.size; clear hb2)
    | ((go_at_call 32; (with_reducible refine (C2.out _ (h0.below B2.out (Nat.le_refl _))).mono ?_); rintro e w3 ⟨q, rfl, r3, hgi, hb3⟩); have R3 := Lib.hid (r3 w2.heap.size (Nat.le_refl _)); have HB3 := Lib.hid hb3; have B3 := Lib.hid (B2.out.trans (hb3.mono s2)); have s3 := hb3.size; clear r3 hgi hb3)
    | ((go_at_call 50; (with_reducible refine (C1.out _ (h0.below B3.out (Nat.le_refl _))).mono ?_); rintro e w4 ⟨p, ga, rfl, d4, a4, hb4⟩); have D4 := Lib.hid d4; have A4 := Lib.hid a4; have R4 := Lib.hid (R3.out.below hb4); have HB4 := Lib.hid (HB3.out.trans (hb4.mono s3)); have s4 := HB4.out.size; clear d4 a4 hb4)
    | fail "no arm")
  have hn1 : q.gi ≠ p.gi ∧ q.gi ≠ p.gm := by
    obtain ⟨A, c, h⟩ := D4.out
    obtain ⟨_, _, ⟨c2, b2⟩, _⟩ := R3.out.kinds
    have e0 := b2.lt
    have e1 := h.bs p.gi (.inr (.inr (.inr (.inl rfl))))
    have e2 := h.bs p.gm (.inr (.inr (.inr (.inr (.inl rfl)))))
    omega
  obtain ⟨n1, n2⟩ := hn1
  have RD := Lib.hid (h1.below B2.out (Nat.le_refl _))
  have bW : Below w4.heap.size w4 (w4.alloc (.cells #[.pointer (some ⟨p.d, 0, none⟩), .pointer (some ⟨ga, 0, none⟩), .pointer none, .pointer (some ⟨q.d, 0, none⟩), .pointer none] 105)) := (Below.refl _ _).alloc (Nat.le_refl _) _
  have D5 := (D4.out.rebase s3).below bW
  have c3 := bopen_any (P1 := none) (P2 := none) ⟨D5, R4.out.below bW, n1, n2⟩ (Blk.below A4.out bW (Blk.lt A4.out)) (Blk.top (g := w4.heap.size) (t := 105) (cs := bothC p q ga none none) w4 rfl rfl) (by have := bW.size; omega) s4 HM0.out 3 (by have := HW0.out; omega)
  have FEW := Lib.hid (jOpenV_few D0 1 8 3)
  have B5 := Lib.hid (HB4.out.trans (bW.mono s4))
  generalize jOpenV D0 1 8 3 = R at *
  clear hf1 htm D5 bW
  go_upto_region 21 with (first
    | ((go_at_call 58; (with_reducible refine (c3).mono ?_); rintro e w6 ⟨rfl, hb6, ha6, hbel6, hc6⟩); have HB6 := Lib.hid hb6; have HA6 := Lib.hid ha6; have BE6 := Lib.hid (B5.out.trans hbel6); clear hb6 ha6 hbel6 c3)
    | fail "no arm")
  rcases hc6 with ⟨hz6, hbo6, _⟩ | ⟨hz6, gj0, gw0, hbo6, hgj0, hgw0, hj6, hw6⟩
  · have y4 : w6.cell? ⟨w4.heap.size, 4, none⟩ = some (.pointer none) := hbo6.cell 4
    clear hbo6 hz6
    go_wp2
    go_ret
    exact ⟨rfl, B2.out.trans (BE6.out.mono s2)⟩
  · have y4 : w6.cell? ⟨w4.heap.size, 4, none⟩ = some (.pointer (some ⟨gw0, 0, none⟩)) := hbo6.cell 4
    have HBO6 := Lib.hid hbo6
    have HJ6 := Lib.hid hj6
    have HW6 := Lib.hid hw6
    have hgj1 : w2.heap.size ≤ gj0 := by simp at hgj0; omega
    have hgw1 : w2.heap.size ≤ gw0 := by simp at hgw0; omega
    clear hbo6 hz6 hj6 hw6 hgj0 hgw0
    generalize hgb : w4.heap.size = gb at *
    have HGB := Lib.hid hgb
    clear hgb
    go_wp2_with fail
    go_loopw [18, 90] (fun _ i wr => ∃ (k : Nat) (D : DiskV) (gj gw : Nat) (kind : Int) (nx : Nat), k ≤ m0 ∧ i = .int .i64 (k : Nat) ∧ Both wr w2.heap.size p q D ∧ AreaAt wr ga p.d 1 8 ∧ Blk wr gb 105 (bothC p q ga (some ⟨gj, 0, none⟩) (some ⟨gw, 0, none⟩)) ∧ JrnAt wr gj ga kind nx ∧ RJrnAt wr gw q 1 8 kind nx ∧ w2.heap.size ≤ gj ∧ w2.heap.size ≤ gw ∧ Below w2.heap.size w2 wr ∧ D.many = 10 ∧ D.waits.length ≤ 8 + 8 * k ∧ nx ≤ 8) (fun _ i _ => m0 - (intOf i).toNat)
    case atStart => exact ⟨0, R.1, gj0, gw0, 3, R.2.1, by omega, rfl, HB6.out, HA6.out, HBO6.out, HJ6.out, HW6.out, hgj1, hgw1, BE6.out, FEW.out.1.trans HM0.out, by have := FEW.out.2.1; have := HW0.out; omega, FEW.out.2.2⟩
    case round =>
      obtain ⟨k, D, gj, gw, kind, nx, hk, rfl, hB, hA, hbo, hj, hw, hgj, hgw, hbel, hmany, hwt, hnx⟩ := hrel
      have hbs := hbel.size
      by_cases hlt : k < m0
      · obtain ⟨x, hx⟩ : ∃ x, l[k]? = some x := ⟨_, List.getElem?_eq_getElem (by rw [Hl1.out]; exact hlt)⟩
        obtain ⟨b, o, B, m, d, hC0, hr, hmd, hdm, hxn, hget⟩ := (show DosRd w2 C0 m0 l from RD.out).get hx
        obtain ⟨hb, e0, e1, e2⟩ := hget wr _ hbel (Nat.le_refl _)
        have hrlow : ∀ {W : World}, Below w2.heap.size w2 W → RB W B m x.b := fun hb => hr.below hb (Nat.le_refl _)
        have hlow : 0 < m → ∀ g, B.map (·.block) = some g → g < w2.heap.size := fun h0 g hg => by
          obtain ⟨b9, o9, e9, h9, _⟩ := hr.2 h0
          rw [e9] at hg
          simp only [Option.map_some, Option.some.injEq] at hg
          omega
        have bW : Below wr.heap.size wr ((wr.alloc (.cells #[.int .i64 x.kind, .int .i64 x.n, .slice B m d] 94)).drew) := ((Below.refl _ _).alloc (Nat.le_refl _) _).drew
        have hBW : Both ((wr.alloc (.cells #[.int .i64 x.kind, .int .i64 x.n, .slice B m d] 94)).drew) w2.heap.size p q D := ⟨hB.d.below bW, hB.r.below bW, n1, n2⟩
        have c2 := one9_any hBW (Blk.below hA bW (Blk.lt hA)) (hbo.below bW hbo.lt) (Blk.below hj bW (Blk.lt hj)) (Blk.below hw bW (Blk.lt hw)) (by have := bW.size; omega) ⟨by have := HGB.out; omega, hgj, hgw⟩ hmany hnx x B m d (hrlow (hbel.trans (bW.mono hbs))) hlow (by omega) hxn.2 (by omega)
        have BW := Lib.hid (hbel.trans (bW.mono hbs))
        clear hB hA hbo hj hw hbel hr hrlow hlow hx hget bW hBW
        subst hC0
        go_wp2_with fail
        refine wp_region_held_drew (S := fun _ => True) (by kernel_rfl) trivial (fun hHeld => ?_)
        refine wpAnyH_take (i := 0) (v := ?_) rfl (by decide +kernel) (by decide +kernel) (by decide +kernel) (fun _ _ _ h => h) (Or.inl ⟨by rfl, ?_⟩) (by assumption) ?_
        rotate_left 1
        · (intro w hSw; (try dsimp only at hSw); go_simp; try (with_reducible rfl))
        try simp only [List.getElem_toArray, List.getElem_cons_zero, List.getElem_cons_succ, Act.put, List.setIfInBounds_toArray, List.set_cons_zero, List.set_cons_succ]
        refine wpAnyH_ready (rs := [1]) (by decide +kernel) (by simp) ?_
        refine AllReadyH.cons rfl (fun K hK => ?_) AllReadyH.nil
        go_simp
        refine hK.out _ _ (trivial) (fun hHeld => ?_)
        clear hK K
        try simp only [List.getElem_toArray, List.getElem_cons_zero, List.getElem_cons_succ, Act.put, List.setIfInBounds_toArray, List.set_cons_zero, List.set_cons_succ]
        refine wpAnyH_ready (rs := [2]) (by decide +kernel) (by simp) ?_
        refine AllReadyH.cons rfl (fun K hK => ?_) AllReadyH.nil
        go_simp
        (go_at_call 59; (with_reducible refine (c2).mono ?_); rintro e w5 ⟨rfl, D', gj', gw', kind', nx', hb5, ha5, hbo5, hj5, hw5, hgj5, hgw5, bel5, hm5, hwt5, hnx5⟩)
        have y2 : w5.cell? ⟨gb, 2, none⟩ = some (.pointer (some ⟨gj', 0, none⟩)) := hbo5.cell 2
        have y4 : w5.cell? ⟨gb, 4, none⟩ = some (.pointer (some ⟨gw', 0, none⟩)) := hbo5.cell 4
        have yn : w5.cell? ⟨gw', 4, none⟩ = some (.int .i64 (nx' : Int)) := Blk.cell hw5 4
        have cl := jlen_any hj5
        have crm : Calls Try.prog 57 #[.pointer (some ⟨gj', 0, none⟩)] w5 fun e w' => e = .returned (.int .i64 (8 - (nx' : Int))) ∧ ∃ q, w' = w5.drewN q := jroom_any (f := 1) (m := 8) hj5 ha5 (by decide) hnx5
        have H5 := Lib.hid hb5
        have A5 := Lib.hid ha5
        have O5 := Lib.hid hbo5
        have J5 := Lib.hid hj5
        have W5 := Lib.hid hw5
        have B5' := Lib.hid (BW.out.trans bel5)
        have hwr : IntKind.i64.wrap (8 - (nx' : Int)) = 8 - (nx' : Int) := IntWalk.i64_in _ (by omega)
        clear hb5 ha5 hbo5 hj5 hw5 bel5 c2 e0 e1 e2
        refine hK.out _ _ (trivial) (fun hHeld => ?_)
        clear hK K
        try simp only [List.getElem_toArray, List.getElem_cons_zero, List.getElem_cons_succ, Act.put, List.setIfInBounds_toArray, List.set_cons_zero, List.set_cons_succ]
        refine wpAnyH_more (S' := fun w' => w'.cell? ⟨gb, 2, none⟩ = some (.pointer (some ⟨gj', 0, none⟩)) ∧ w'.cell? ⟨gb, 4, none⟩ = some (.pointer (some ⟨gw', 0, none⟩)) ∧ w'.cell? ⟨gw', 4, none⟩ = some (.int .i64 (nx' : Int))) (fun _ _ => trivial) _ _ _ _ ?_
        clear hHeld
        have hHeld := And.intro y2 (And.intro y4 yn)
        refine wpAnyH_take (i := 3) (v := ?_) rfl (by decide +kernel) (by decide +kernel) (by decide +kernel) (fun _ _ _ h => h) (Or.inl ⟨by rfl, ?_⟩) (by assumption) ?_
        rotate_left 1
        · (intro w hSw; (try dsimp only at hSw); go_simp; try (with_reducible rfl))
        try simp only [List.getElem_toArray, List.getElem_cons_zero, List.getElem_cons_succ, Act.put, List.setIfInBounds_toArray, List.set_cons_zero, List.set_cons_succ]
        refine wpAnyH_take (i := 4) (v := ?_) rfl (by decide +kernel) (by decide +kernel) (by decide +kernel) (fun _ _ _ h => h) (Or.inl ⟨by rfl, ?_⟩) (by assumption) ?_
        rotate_left 1
        · (intro w hSw; (try dsimp only at hSw); go_simp; try (with_reducible rfl))
        try simp only [List.getElem_toArray, List.getElem_cons_zero, List.getElem_cons_succ, Act.put, List.setIfInBounds_toArray, List.set_cons_zero, List.set_cons_succ]
        refine wpAnyH_take (i := 5) (v := ?_) rfl (by decide +kernel) (by decide +kernel) (by decide +kernel) (fun _ _ _ h => h) (Or.inl ⟨by rfl, ?_⟩) (by assumption) ?_
        rotate_left 1
        · (intro w hSw; (try dsimp only at hSw); go_simp; try (with_reducible rfl))
        try simp only [List.getElem_toArray, List.getElem_cons_zero, List.getElem_cons_succ, Act.put, List.setIfInBounds_toArray, List.set_cons_zero, List.set_cons_succ]
        refine wpAnyH_take (i := 6) (v := ?_) rfl (by decide +kernel) (by decide +kernel) (by decide +kernel) (fun _ _ _ h => h) (Or.inl ⟨by rfl, ?_⟩) (by assumption) ?_
        rotate_left 1
        · (intro w hSw; (try dsimp only at hSw); go_simp; try (with_reducible rfl))
        try simp only [List.getElem_toArray, List.getElem_cons_zero, List.getElem_cons_succ, Act.put, List.setIfInBounds_toArray, List.set_cons_zero, List.set_cons_succ]
        refine wpAnyH_take (i := 7) (v := ?_) rfl (by decide +kernel) (by decide +kernel) (by decide +kernel) (fun _ _ _ h => h) (Or.inl ⟨by rfl, ?_⟩) (by assumption) ?_
        rotate_left 1
        · (intro w hSw; (try dsimp only at hSw); go_simp; try (with_reducible rfl))
        try simp only [List.getElem_toArray, List.getElem_cons_zero, List.getElem_cons_succ, Act.put, List.setIfInBounds_toArray, List.set_cons_zero, List.set_cons_succ]
        refine wpAnyH_take (i := 8) (v := ?_) rfl (by decide +kernel) (by decide +kernel) (by decide +kernel) (fun _ _ _ h => h) (Or.inl ⟨by rfl, ?_⟩) (by assumption) ?_
        rotate_left 1
        · (intro w hSw; (try dsimp only at hSw); obtain ⟨s1, s2, s3⟩ := hSw; go_simp; rfl)
        try simp only [List.getElem_toArray, List.getElem_cons_zero, List.getElem_cons_succ, Act.put, List.setIfInBounds_toArray, List.set_cons_zero, List.set_cons_succ]
        refine wpAnyH_take (i := 10) (v := ?_) rfl (by decide +kernel) (by decide +kernel) (by decide +kernel) (fun _ _ _ h => h) (Or.inl ⟨by rfl, ?_⟩) (by assumption) ?_
        rotate_left 1
        · (intro w hSw; (try dsimp only at hSw); go_simp; try (with_reducible rfl))
        try simp only [List.getElem_toArray, List.getElem_cons_zero, List.getElem_cons_succ, Act.put, List.setIfInBounds_toArray, List.set_cons_zero, List.set_cons_succ]
        refine wpAnyH_take (i := 11) (v := ?_) rfl (by decide +kernel) (by decide +kernel) (by decide +kernel) (fun _ _ _ h => h) (Or.inl ⟨by rfl, ?_⟩) (by assumption) ?_
        rotate_left 1
        · (intro w hSw; (try dsimp only at hSw); go_simp; try (with_reducible rfl))
        try simp only [List.getElem_toArray, List.getElem_cons_zero, List.getElem_cons_succ, Act.put, List.setIfInBounds_toArray, List.set_cons_zero, List.set_cons_succ]
        refine wpAnyH_take (i := 12) (v := ?_) rfl (by decide +kernel) (by decide +kernel) (by decide +kernel) (fun _ _ _ h => h) (Or.inl ⟨by rfl, ?_⟩) (by assumption) ?_
        rotate_left 1
        · (intro w hSw; (try dsimp only at hSw); go_simp; try (with_reducible rfl))
        try simp only [List.getElem_toArray, List.getElem_cons_zero, List.getElem_cons_succ, Act.put, List.setIfInBounds_toArray, List.set_cons_zero, List.set_cons_succ]
        refine wpAnyH_take (i := 13) (v := ?_) rfl (by decide +kernel) (by decide +kernel) (by decide +kernel) (fun _ _ _ h => h) (Or.inl ⟨by rfl, ?_⟩) (by assumption) ?_
        rotate_left 1
        · (intro w hSw; (try dsimp only at hSw); obtain ⟨s1, s2, s3⟩ := hSw; go_simp; rfl)
        try simp only [List.getElem_toArray, List.getElem_cons_zero, List.getElem_cons_succ, Act.put, List.setIfInBounds_toArray, List.set_cons_zero, List.set_cons_succ]
        refine wpAnyH_take (i := 14) (v := ?_) rfl (by decide +kernel) (by decide +kernel) (by decide +kernel) (fun _ _ _ h => h) (Or.inl ⟨by rfl, ?_⟩) (by assumption) ?_
        rotate_left 1
        · (intro w hSw; (try dsimp only at hSw); go_simp; try (with_reducible rfl))
        try simp only [List.getElem_toArray, List.getElem_cons_zero, List.getElem_cons_succ, Act.put, List.setIfInBounds_toArray, List.set_cons_zero, List.set_cons_succ]
        refine wpAnyH_take (i := 15) (v := ?_) rfl (by decide +kernel) (by decide +kernel) (by decide +kernel) (fun _ _ _ h => h) (Or.inl ⟨by rfl, ?_⟩) (by assumption) ?_
        rotate_left 1
        · (intro w hSw; (try dsimp only at hSw); go_simp; try (with_reducible rfl))
        try simp only [List.getElem_toArray, List.getElem_cons_zero, List.getElem_cons_succ, Act.put, List.setIfInBounds_toArray, List.set_cons_zero, List.set_cons_succ]
        refine wpAnyH_take (i := 16) (v := ?_) rfl (by decide +kernel) (by decide +kernel) (by decide +kernel) (fun _ _ _ h => h) (Or.inl ⟨by rfl, ?_⟩) (by assumption) ?_
        rotate_left 1
        · (intro w hSw; (try dsimp only at hSw); obtain ⟨s1, s2, s3⟩ := hSw; go_simp; rfl)
        try simp only [List.getElem_toArray, List.getElem_cons_zero, List.getElem_cons_succ, Act.put, List.setIfInBounds_toArray, List.set_cons_zero, List.set_cons_succ]
        refine wpAnyH_ready (rs := [9]) (by decide +kernel) (by simp) ?_
        refine AllReadyH.cons rfl (fun K hK => ?_) AllReadyH.nil
        go_simp
        (go_at_call 56; (with_reducible refine (cl).mono ?_); rintro e w6' ⟨rfl, rfl⟩)
        refine hK.out _ _ (⟨y2, y4, yn⟩) (fun hHeld => ?_)
        clear hK K
        try simp only [List.getElem_toArray, List.getElem_cons_zero, List.getElem_cons_succ, Act.put, List.setIfInBounds_toArray, List.set_cons_zero, List.set_cons_succ]
        refine wpAnyH_take (i := 17) (v := ?_) rfl (by decide +kernel) (by decide +kernel) (by decide +kernel) (fun _ _ _ h => h) (Or.inl ⟨by rfl, ?_⟩) (by assumption) ?_
        rotate_left 1
        · (intro w hSw; (try dsimp only at hSw); go_simp; try (with_reducible rfl))
        try simp only [List.getElem_toArray, List.getElem_cons_zero, List.getElem_cons_succ, Act.put, List.setIfInBounds_toArray, List.set_cons_zero, List.set_cons_succ]
        refine wpAnyH_take (i := 18) (v := ?_) rfl (by decide +kernel) (by decide +kernel) (by decide +kernel) (fun _ _ _ h => h) (Or.inl ⟨by rfl, ?_⟩) (by assumption) ?_
        rotate_left 1
        · (intro w hSw; (try dsimp only at hSw); go_simp; try (with_reducible rfl))
        try simp only [List.getElem_toArray, List.getElem_cons_zero, List.getElem_cons_succ, Act.put, List.setIfInBounds_toArray, List.set_cons_zero, List.set_cons_succ]
        refine wpAnyH_take (i := 19) (v := ?_) rfl (by decide +kernel) (by decide +kernel) (by decide +kernel) (fun _ _ _ h => h) (Or.inl ⟨by rfl, ?_⟩) (by assumption) ?_
        rotate_left 1
        · (intro w hSw; (try dsimp only at hSw); go_simp; try (with_reducible rfl))
        try simp only [List.getElem_toArray, List.getElem_cons_zero, List.getElem_cons_succ, Act.put, List.setIfInBounds_toArray, List.set_cons_zero, List.set_cons_succ]
        refine wpAnyH_take (i := 20) (v := ?_) rfl (by decide +kernel) (by decide +kernel) (by decide +kernel) (fun _ _ _ h => h) (Or.inl ⟨by rfl, ?_⟩) (by assumption) ?_
        rotate_left 1
        · (intro w hSw; (try dsimp only at hSw); go_simp; try (with_reducible rfl))
        try simp only [List.getElem_toArray, List.getElem_cons_zero, List.getElem_cons_succ, Act.put, List.setIfInBounds_toArray, List.set_cons_zero, List.set_cons_succ]
        refine wpAnyH_take (i := 21) (v := ?_) rfl (by decide +kernel) (by decide +kernel) (by decide +kernel) (fun _ _ _ h => h) (Or.inl ⟨by rfl, ?_⟩) (by assumption) ?_
        rotate_left 1
        · (intro w hSw; (try dsimp only at hSw); go_simp; try (with_reducible rfl))
        try simp only [List.getElem_toArray, List.getElem_cons_zero, List.getElem_cons_succ, Act.put, List.setIfInBounds_toArray, List.set_cons_zero, List.set_cons_succ]
        refine wpAnyH_take (i := 22) (v := ?_) rfl (by decide +kernel) (by decide +kernel) (by decide +kernel) (fun _ _ _ h => h) (Or.inl ⟨by rfl, ?_⟩) (by assumption) ?_
        rotate_left 1
        · (intro w hSw; (try dsimp only at hSw); go_simp; try (with_reducible rfl))
        try simp only [List.getElem_toArray, List.getElem_cons_zero, List.getElem_cons_succ, Act.put, List.setIfInBounds_toArray, List.set_cons_zero, List.set_cons_succ]
        refine wpAnyH_take (i := 23) (v := ?_) rfl (by decide +kernel) (by decide +kernel) (by decide +kernel) (fun _ _ _ h => h) (Or.inl ⟨by rfl, ?_⟩) (by assumption) ?_
        rotate_left 1
        · (intro w hSw; (try dsimp only at hSw); obtain ⟨s1, s2, s3⟩ := hSw; go_simp; rfl)
        try simp only [List.getElem_toArray, List.getElem_cons_zero, List.getElem_cons_succ, Act.put, List.setIfInBounds_toArray, List.set_cons_zero, List.set_cons_succ]
        refine wpAnyH_take (i := 25) (v := ?_) rfl (by decide +kernel) (by decide +kernel) (by decide +kernel) (fun _ _ _ h => h) (Or.inl ⟨by rfl, ?_⟩) (by assumption) ?_
        rotate_left 1
        · (intro w hSw; (try dsimp only at hSw); go_simp; try (with_reducible rfl))
        try simp only [List.getElem_toArray, List.getElem_cons_zero, List.getElem_cons_succ, Act.put, List.setIfInBounds_toArray, List.set_cons_zero, List.set_cons_succ]
        refine wpAnyH_take (i := 26) (v := ?_) rfl (by decide +kernel) (by decide +kernel) (by decide +kernel) (fun _ _ _ h => h) (Or.inl ⟨by rfl, ?_⟩) (by assumption) ?_
        rotate_left 1
        · (intro w hSw; (try dsimp only at hSw); go_simp; try (with_reducible rfl))
        try simp only [List.getElem_toArray, List.getElem_cons_zero, List.getElem_cons_succ, Act.put, List.setIfInBounds_toArray, List.set_cons_zero, List.set_cons_succ]
        refine wpAnyH_take (i := 27) (v := ?_) rfl (by decide +kernel) (by decide +kernel) (by decide +kernel) (fun _ _ _ h => h) (Or.inl ⟨by rfl, ?_⟩) (by assumption) ?_
        rotate_left 1
        · (intro w hSw; (try dsimp only at hSw); go_simp; try (with_reducible rfl))
        try simp only [List.getElem_toArray, List.getElem_cons_zero, List.getElem_cons_succ, Act.put, List.setIfInBounds_toArray, List.set_cons_zero, List.set_cons_succ]
        refine wpAnyH_take (i := 28) (v := ?_) rfl (by decide +kernel) (by decide +kernel) (by decide +kernel) (fun _ _ _ h => h) (Or.inl ⟨by rfl, ?_⟩) (by assumption) ?_
        rotate_left 1
        · (intro w hSw; (try dsimp only at hSw); obtain ⟨s1, s2, s3⟩ := hSw; go_simp; rfl)
        try simp only [List.getElem_toArray, List.getElem_cons_zero, List.getElem_cons_succ, Act.put, List.setIfInBounds_toArray, List.set_cons_zero, List.set_cons_succ]
        refine wpAnyH_take (i := 29) (v := ?_) rfl (by decide +kernel) (by decide +kernel) (by decide +kernel) (fun _ _ _ h => h) (Or.inl ⟨by rfl, ?_⟩) (by assumption) ?_
        rotate_left 1
        · (intro w hSw; (try dsimp only at hSw); go_simp; try (with_reducible rfl))
        try simp only [List.getElem_toArray, List.getElem_cons_zero, List.getElem_cons_succ, Act.put, List.setIfInBounds_toArray, List.set_cons_zero, List.set_cons_succ]
        refine wpAnyH_take (i := 30) (v := ?_) rfl (by decide +kernel) (by decide +kernel) (by decide +kernel) (fun _ _ _ h => h) (Or.inl ⟨by rfl, ?_⟩) (by assumption) ?_
        rotate_left 1
        · (intro w hSw; (try dsimp only at hSw); go_simp; try (with_reducible rfl))
        try simp only [List.getElem_toArray, List.getElem_cons_zero, List.getElem_cons_succ, Act.put, List.setIfInBounds_toArray, List.set_cons_zero, List.set_cons_succ]
        refine wpAnyH_take (i := 31) (v := ?_) rfl (by decide +kernel) (by decide +kernel) (by decide +kernel) (fun _ _ _ h => h) (Or.inl ⟨by rfl, ?_⟩) (by assumption) ?_
        rotate_left 1
        · (intro w hSw; (try dsimp only at hSw); obtain ⟨s1, s2, s3⟩ := hSw; go_simp; rfl)
        try simp only [List.getElem_toArray, List.getElem_cons_zero, List.getElem_cons_succ, Act.put, List.setIfInBounds_toArray, List.set_cons_zero, List.set_cons_succ]
        refine wpAnyH_take (i := 32) (v := ?_) rfl (by decide +kernel) (by decide +kernel) (by decide +kernel) (fun _ _ _ h => h) (Or.inl ⟨by rfl, ?_⟩) (by assumption) ?_
        rotate_left 1
        · (intro w hSw; (try dsimp only at hSw); go_simp; try (with_reducible rfl))
        try simp only [List.getElem_toArray, List.getElem_cons_zero, List.getElem_cons_succ, Act.put, List.setIfInBounds_toArray, List.set_cons_zero, List.set_cons_succ]
        refine wpAnyH_ready (rs := [24]) (by decide +kernel) (by simp) ?_
        refine AllReadyH.cons rfl (fun K hK => ?_) AllReadyH.nil
        go_simp
        (go_at_call 57; (with_reducible refine (crm).mono ?_); rintro e w6' ⟨rfl, q6, rfl⟩)
        refine hK.out _ _ (⟨y2, y4, yn⟩) (fun hHeld => ?_)
        clear hK K
        try simp only [List.getElem_toArray, List.getElem_cons_zero, List.getElem_cons_succ, Act.put, List.setIfInBounds_toArray, List.set_cons_zero, List.set_cons_succ]
        refine wpAnyH_take (i := 33) (v := ?_) rfl (by decide +kernel) (by decide +kernel) (by decide +kernel) (fun _ _ _ h => h) (Or.inl ⟨by rfl, ?_⟩) (by assumption) ?_
        rotate_left 1
        · (intro w hSw; (try dsimp only at hSw); go_simp; try (with_reducible rfl))
        try simp only [List.getElem_toArray, List.getElem_cons_zero, List.getElem_cons_succ, Act.put, List.setIfInBounds_toArray, List.set_cons_zero, List.set_cons_succ]
        refine wpAnyH_take (i := 34) (v := ?_) rfl (by decide +kernel) (by decide +kernel) (by decide +kernel) (fun _ _ _ h => h) (Or.inl ⟨by rfl, ?_⟩) (by assumption) ?_
        rotate_left 1
        · (intro w hSw; (try dsimp only at hSw); go_simp; try (with_reducible rfl))
        try simp only [List.getElem_toArray, List.getElem_cons_zero, List.getElem_cons_succ, Act.put, List.setIfInBounds_toArray, List.set_cons_zero, List.set_cons_succ]
        refine wpAnyH_done (by decide +kernel) ?_ _
        clear hHeld y2 y4 yn cl crm hwr
        go_wp2
        go_roundw
        case rel =>
          have bq : Below w5.heap.size w5 (w5.drewN q6) := below_drewN (Below.refl _ _) q6
          have s5 : w2.heap.size ≤ w5.heap.size := B5'.out.size
          first
            | exact ⟨k + 1, D', gj', gw', kind', nx', by omega, by go_num, ⟨H5.out.d.below bq, H5.out.r.below bq, n1, n2⟩, Blk.below A5.out bq (Blk.lt A5.out), O5.out.below bq O5.out.lt, Blk.below J5.out bq (Blk.lt J5.out), Blk.below W5.out bq (Blk.lt W5.out), hgj5, hgw5, B5'.out.trans (bq.mono s5), hm5.trans hmany, by omega, hnx5⟩
            | ((repeat apply Exists.intro); exact ⟨⟨k + 1, D', gj', gw', kind', nx', by omega, by go_num, ⟨H5.out.d.below bq, H5.out.r.below bq, n1, n2⟩, Blk.below A5.out bq (Blk.lt A5.out), O5.out.below bq O5.out.lt, Blk.below J5.out bq (Blk.lt J5.out), Blk.below W5.out bq (Blk.lt W5.out), hgj5, hgw5, B5'.out.trans (bq.mono s5), hm5.trans hmany, by omega, hnx5⟩, rfl⟩)
        case measure => simp [intOf]; omega
      · have cim := s_image hB.d hbs
        have HBB := Lib.hid hB
        have HBEL := Lib.hid hbel
        clear hB hA hbo hj hw hbel
        go_wp2_with (first
          | ((go_at_call 25; (with_reducible refine (cim).mono ?_); rintro e w7 ⟨I6, N6, i6, rfl, o6, d6, st6⟩); have r6 := HBB.out.r.step HBB.out.d st6 n1 n2 (by decide) (by decide); have s6' : w2.heap.size ≤ w7.heap.size := Nat.le_trans hbs st6.size; have b6 := HBEL.out.trans st6.bel; have cim2 := r_image r6 s6'; have OO6 := Lib.hid o6; have BB6 := Lib.hid b6; clear o6 d6 st6 r6 b6)
          | ((go_at_call 35; (with_reducible refine (cim2).mono ?_); rintro e w8 ⟨I7, N7, i7, rfl, o7, b7⟩); have o67 := OO6.out.below b7 (Nat.le_refl _); have hN6 : N6 ≤ maxLen := (by have e1 := o67.cap; omega); have hsame := same_any I6 I7 N6 N7 i6 i7 D.kept D.kept w8 o67.rd.rb o7.rd.rb hN6; have B7 := Lib.hid (BB6.out.trans (b7.mono s6')); clear o67 o7 b7)
          | (rw [decide_eq_true rfl] at hsame; (go_at_call 24; (with_reducible refine (hsame).mono ?_); rintro e w9 ⟨rfl, q8, rfl⟩))
          | (rw [show decide True = true from rfl] at hsame; (go_at_call 24; (with_reducible refine (hsame).mono ?_); rintro e w9 ⟨rfl, q8, rfl⟩))
          | fail "no arm")
        go_ret
        exact ⟨rfl, B2.out.trans ((below_drewN B7.out q8).mono s2)⟩
theorem walk (w : World) (A0 : Option Addr) (n c0 : Nat) (img : List UInt8) (hr : RB w A0 n img) (nc : n ≤ c0) (cm : c0 ≤ maxLen) (v : Int) (wv : (Lit.int .u8 v).wf = true) (v2 : Value) (x2 : ∃ A n c l, v2 = .slice A n c ∧ DosRd w A n l ∧ n ≤ c ∧ c ≤ maxLen) :
    Calls Try.prog 11 #[.slice A0 n c0, .int .u8 v, v2] w fun e w' => e = .returned (.bool true) ∧ Below w.heap.size w w' := by
  obtain ⟨C0, m0, d0, l, rfl, h1, nc1, cm1⟩ := x2
  have hv := bounds_u8 wv
  have hn : n ≤ maxLen := by omega
  have hm : m0 ≤ maxLen := by omega
  cases q : few9B l with
  | false => exact walk_few A0 C0 n m0 c0 d0 v l w h1 hn hm (.inl q)
  | true =>
    by_cases h3 : 1280 < n
    · exact walk_few A0 C0 n m0 c0 d0 v l w h1 hn hm (.inr ⟨q, h3⟩)
    by_cases hu : (usedN img : Int) ≤ v % 11
    · exact walk_main A0 C0 n m0 c0 d0 v img l w hr nc h1 (by omega) hm q (by omega) (by omega) hu
    · exact walk_no A0 C0 n m0 c0 d0 v img l w hr h1 (by omega) hm q (by omega) (by omega) (fun w' hr' => rload_any A0 n c0 10 (v % 11) img w' hr' (by omega) (by omega) (by omega) (by omega) (by omega) _ (fun h => absurd h hu) (fun _ e w'' h => h))

--FRAME tompionlaw09 JournalDoes journalDoes walk bytes u8 raw:[]tompionlaw09.Do:args_dos9:.slice‹_›none‹_›0‹_›0
theorem own : ownKnob Try.prog.godebug = none := by kernel_rfl
theorem laidOut : laidOutB Try.prog = true := by kernel_rfl

set_option maxRecDepth 100000 in
theorem lifted (os : Os) (started : os.Started) (H : Type) (enc : TypeId × Value → H) :
    ReturnsInHanded {} Try.checked os 11 .any (Rows.journalDoesSpec.pre6 enc Try.prog Try.f11 Rows.journalDoesRow.domain false) (Rows.journalDoesSpec.post enc Try.prog Try.f11 false true false false) := by
  refine returnsInHanded_of_change (C := Try.checked) own started (by kernel_rfl) Try.func11
    (ChangeSpec.witness6 (enc := enc) (C := Try.checked) false ⟨#[], #[.slice none 0 0, .int .u8 0, .slice none 0 0], []⟩ 8 (by kernel_rfl) (by kernel_rfl) (by kernel_rfl) (by kernel_rfl)) ?_
  intro W base args ds gs before hval0 hW hcnd _
  have hval : ∀ (j : Nat) t v, Try.f11.params[j]? = some t → args[j]? = some v → Value.okWide Try.prog W .any base t v := hval0
  have hW' := hW
  obtain ⟨p, q, hA0, hV, rfl, hfz, hnd⟩ := hW
  have hA : DataW.TrodAll enc Try.prog W 0 (fun _ => true) true Try.f11.params.toList args.toList ds p := hA0
  rw [Try.params11] at hA hval
  obtain ⟨v0, vs0, d0, ds0, p0, q0, hargs, rfl, rfl, h0, rr0⟩ := trodAll_cons hA
  obtain ⟨v1, vs1, d1, ds1, p1, q1, rfl, rfl, rfl, h1, rr1⟩ := trodAll_cons rr0
  obtain ⟨v2, vs2, d2, ds2, p2, q2, rfl, rfl, rfl, h2, rr2⟩ := trodAll_cons rr1
  obtain ⟨rfl, rfl, rfl⟩ := trodAll_nil rr2
  obtain rfl : args = #[v0, v1, v2] := by cases args; simp_all
  obtain ⟨rfl, rfl⟩ := trodVars_none hV
  have k0 := h0
  have lt0 : ∀ x ∈ p0, x.block < W.heap.size := by obtain ⟨m, hm⟩ := k0; exact DataW.trod_lt m _ _ _ hm
  obtain ⟨A0, n0, c0, l0, rfl, r0, nc0, cm0⟩ := args_bytes Try.underlying23 Try.underlying5 (by kernel_rfl) (hval 0 23 v0 rfl rfl) h0
  have k1 := h1
  have lt1 : ∀ x ∈ p1, x.block < W.heap.size := by obtain ⟨m, hm⟩ := k1; exact DataW.trod_lt m _ _ _ hm
  obtain ⟨a1, rfl, wf1⟩ := args_int Try.underlying5 (hval 1 5 v1 rfl rfl) h1
  have k2 := h2
  have lt2 : ∀ x ∈ p2, x.block < W.heap.size := by obtain ⟨m, hm⟩ := k2; exact DataW.trod_lt m _ _ _ hm
  have x2 := args_dos9 (hval 2 87 v2 rfl rfl) h2
  clear hA0 hval0
  refine (walk W A0 n0 c0 l0 r0 nc0 cm0 a1 wf1 v2 x2).mono fun e W' ⟨he, bel⟩ => ?_
  subst he
  exact ⟨_, rfl, _, _, _, [], _, [], hW', trodAll_mk1 (shut_bool Try.underlying4 _), (trodAll_cons_mk (Below.trod laidOut (by kernel_rfl) (of_decide_eq_true (by kernel_rfl)) k0 bel lt0) (trodAll_cons_mk (Below.trod laidOut (by kernel_rfl) (of_decide_eq_true (by kernel_rfl)) k1 bel lt1) (trodAll_cons_mk (Below.trod laidOut (by kernel_rfl) (of_decide_eq_true (by kernel_rfl)) k2 bel lt2) trodAll_mk0))), rfl, bel.frame _, fun h => by cases h⟩

theorem over : Rows.journalDoesRow.holds Try.pinned (OpenSpec.ofChange Rows.journalDoesSpec) :=
  OpenClaim.holds_of_wide 11 Try.f11 rfl rfl rfl rfl rfl rfl rfl ⟨rfl, rfl, rfl, rfl, rfl⟩ rfl rfl rfl rfl rfl (by kernel_rfl) Try.func11 (by kernel_rfl)
    (of_decide_eq_true (by kernel_rfl)) (by unfold Func.isWrapper; first | (rw [if_pos (by decide +kernel)]; kernel_rfl) | (rw [if_neg (by decide +kernel)]; exact ⟨rfl, rfl⟩))
    (fun os started H enc _ => lifted os started H enc)

theorem proved : Rows.JournalDoesSaid := over
--ENDFRAME
end Go.Proofs.Ytninidpbchcliaa.journalDoes
