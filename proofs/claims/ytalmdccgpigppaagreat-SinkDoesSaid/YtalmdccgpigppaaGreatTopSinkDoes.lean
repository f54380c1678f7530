/- SinkDoes. -/
import Derived.Test.YtalmdccgpigppaaGreatPr50
import Derived.Test.YtalmdccgpigppaaGreatPr53
import Derived.IntWalk
namespace Go.Proofs.YtalmdccgpigppaaGreat.sinkDoes
open Go.ChangeShapes Go.WideShapes Go.ChangeAt Go.RowKit
set_option linter.unusedVariables false
set_option linter.unusedSimpArgs false
theorem wpAnyH_more {P : Program} {md : Region.Mode} {ops : Array Oper} {Q : Exit → Act → World → Prop} {S S' : World → Prop} (h : ∀ w, S' w → S w) : ∀ (fuel : Nat) (listed : Array Bool) (a : Act) (w : World), wpAnyH P md ops Q S' fuel listed a w → wpAnyH P md ops Q S fuel listed a w
  | 0, _, _, _, hx => hx
  | fuel + 1, _, _, _, hx => ⟨hx.1, fun i hi => wpOp_mono (fun a' w' h' => ⟨h _ h'.1, wpAnyH_more h fuel _ a' w' h'.2⟩) (hx.2 i hi)⟩
set_option maxRecDepth 100000 in
theorem sbopen_wrong {w : World} {base ga gb : Nat} {p : DiskP} {q : RDiskP} {D : DiskV} {ts : List Int} (hd : DiskS w base p D) (ha : AreaAt w ga p.d 1 8) (hb : Blk w gb 45 (sbothC p q ga none none)) (hs : base ≤ w.heap.size) (hm : D.many = 10) (hw : D.waits.length < 800000)
    (A : Option Addr) (n c : Nat) (ht : RI w A n ts) (hn : n ≤ maxLen) (hlow : 0 < n → ∀ b, A.map (·.block) = some b → b < base) (hr : rightB ts = false) :
    Calls Tryz.prog 14 #[.pointer (some ⟨gb, 0, none⟩), .slice A n c] w fun e w' => e = .returned (.bool true) ∧ Blk w' gb 45 (sbothC p q ga none none) ∧ Below base w w' := by
  have y1 : w.cell? ⟨gb, 1, none⟩ = some (.pointer (some ⟨ga, 0, none⟩)) := hb.cell 1
  have c1 := skopen_any ha (by omega) hd hs (by rw [hm]; omega) (by omega) A n c ⟨ht, hn, fun h0 g hg => .inl (hlow h0 g hg)⟩
  rw [show fOpenV D 1 8 4 ts = (D, 0, 2) from by unfold fOpenV; rw [if_pos hr]] at c1
  have c2 := fun (W : World) (k : Below base w W) => refright_any A n c ts W (ht.low hlow k) hn
  rw [hr] at c2
  have HD := Lib.hid hd
  have HB := Lib.hid hb
  clear hd ha hb ht hlow hr
  go_enter Tryz.func14, Tryz.ntmps14
  go_wp2_with (first
    | ((go_at_call 10; (with_reducible refine (c1).mono ?_); rintro e w1 ⟨P, rfl, n9, y9, h1, st1⟩); obtain rfl := n9 (by simp); have X1 := Lib.hid (HD.out.blk HB.out st1.tch (by decide)); have S1 := Lib.hid st1; clear n9 y9 h1 st1)
    | (go_at_call 54; (with_reducible refine (c2 _ S1.out.bel).mono ?_); rintro e w2 ⟨rfl, rfl⟩)
    | fail "no arm")
  go_ret
  exact ⟨rfl, X1.out, S1.out.bel⟩
set_option maxRecDepth 100000 in
set_option maxHeartbeats 8000000 in
theorem walk_few (A0 B0 C0 : Option Addr) (n t m0 c0 b0 d0 : Nat) (l : List DoW) (w : World) (h1 : DosW w C0 m0 l) (hn : n ≤ maxLen) (ht : t ≤ maxLen) (hm : m0 ≤ maxLen) (hc : fewWB l = false ∨ (fewWB l = true ∧ 1280 < n) ∨ (fewWB l = true ∧ n ≤ 1280 ∧ 20 < t)) :
    Calls Tryz.prog 3 #[.slice A0 n c0, .slice B0 t b0, .slice C0 m0 d0] w fun e w' => e = .returned (.bool true) ∧ Below w.heap.size w w' := by
  have hf1 := fun w h => few36_any C0 m0 d0 l w h hm
  unfold maxLen at hn ht
  rcases hc with q1 | ⟨q1, q2⟩ | ⟨q1, q2, q3⟩
  all_goals
    rw [q1] at hf1
    clear q1
    go_enter Tryz.func3, Tryz.ntmps3
    go_wp2_with (first
      | ((go_at_call 6; (with_reducible refine (awake36 _).mono ?_); rintro e w1 ⟨rfl, hb1⟩); have B1 := Lib.hid (below_then' (a := w) (B := w.heap.size) (by (repeat' (first | (with_reducible exact Below.refl _ _) | (with_reducible assumption) | (with_reducible refine Below.drew ?_) | (with_reducible refine below_drewN ?_ _) | (with_reducible refine Below.alloc ?_ ?_ _) | (with_reducible refine Below.setCell ?_ ?_ _) | omega | (simp; done) | (simp; omega)))) hb1 (by first | omega | (simp; done) | (simp; omega))); clear hb1)
      | (go_at_call 7; (with_reducible refine (skput_nil _ _ _ _ _).mono ?_); rintro e w2 ⟨rfl, rfl⟩)
      | (go_at_call 8; (with_reducible refine (sklen_nil _).mono ?_); rintro e w2 ⟨rfl, rfl⟩)
      | (go_at_call 9; (with_reducible refine (skflush_nil _).mono ?_); rintro e w2 ⟨rfl, rfl⟩)
      | (go_at_call 10; (with_reducible refine (skopen_nil _ _ _ _).mono ?_); rintro e w2 ⟨rfl, rfl⟩)
      | ((go_at_call 11; (with_reducible refine (hf1 _ (h1.below (B0 := w.heap.size) B1.out (Nat.le_refl _))).mono ?_); rintro e w2 ⟨rfl, hb2⟩); have B2 := Lib.hid (B1.out.trans (hb2.mono B1.out.size)); clear hb2)
      | fail "no arm")
    go_ret
    exact ⟨rfl, B2.out⟩
set_option maxRecDepth 100000 in
set_option maxHeartbeats 20000000 in
theorem walk_main (A0 B0 C0 : Option Addr) (n t m0 c0 b0 d0 : Nat) (img : List UInt8) (ts : List Int) (l : List DoW) (w : World) (h0 : RB w A0 n img) (hnc : n ≤ c0) (hts : RI w B0 t ts) (h1 : DosW w C0 m0 l) (hn : n ≤ 1280) (ht : t ≤ 20) (hm : m0 ≤ maxLen) (q1 : fewWB l = true) :
    Calls Tryz.prog 3 #[.slice A0 n c0, .slice B0 t b0, .slice C0 m0 d0] w fun e w' => e = .returned (.bool true) ∧ Below w.heap.size w w' := by
  have hq := fewWB_true q1
  rw [h1.1] at hq
  obtain ⟨hm40, hsm⟩ := hq
  have hf1 := fun w h => few36_any C0 m0 d0 l w h hm
  rw [q1] at hf1
  have Hl1 := Lib.hid h1.1
  have Hsm := Lib.hid hsm
  have hu : (usedN img : Int) ≤ 10 := by
    have := h0.1
    unfold usedN
    omega
  have C1 := Lib.hid (fun (w' : World) (hr : RB w' A0 n img) => made35_ok A0 n c0 img 10 w' hr hnc (by omega) (by omega) hn hu)
  have C2 := Lib.hid (fun (w' : World) (hr : RB w' A0 n img) => (show Calls Tryz.prog 12 #[.slice A0 n c0, .int .i64 10, .int .i64 10] w' (RLdPost w' (loadD 10 10 img (usedN img))) from rload_any A0 n c0 10 10 img w' hr (by omega) (by omega) (by omega) (by omega) (by omega) (RLdPost w' (loadD 10 10 img (usedN img))) (fun _ e w'' h => h) (fun h => absurd hu (by omega))))
  have HW0 := Lib.hid (show (loadD 10 10 img (usedN img)).waits.length = 0 from rfl)
  have HM0 := Lib.hid (show (loadD 10 10 img (usedN img)).many = 10 from rfl)
  generalize loadD 10 10 img (usedN img) = D0 at *
  clear q1 hsm hu
  go_enter Tryz.func3, Tryz.ntmps3
  go_upto_region 17 with (first
    | ((go_at_call 6; (with_reducible refine (awake36 _).mono ?_); rintro e w1 ⟨rfl, hb1⟩); have B1 := Lib.hid (below_then' (a := w) (B := w.heap.size) (by (repeat' (first | (with_reducible exact Below.refl _ _) | (with_reducible assumption) | (with_reducible refine Below.drew ?_) | (with_reducible refine below_drewN ?_ _) | (with_reducible refine Below.alloc ?_ ?_ _) | (with_reducible refine Below.setCell ?_ ?_ _) | omega | (simp; done) | (simp; omega)))) hb1 (by first | omega | (simp; done) | (simp; omega))); clear hb1)
    | (go_at_call 7; (with_reducible refine (skput_nil _ _ _ _ _).mono ?_); rintro e w2 ⟨rfl, rfl⟩)
    | (go_at_call 8; (with_reducible refine (sklen_nil _).mono ?_); rintro e w2 ⟨rfl, rfl⟩)
    | (go_at_call 9; (with_reducible refine (skflush_nil _).mono ?_); rintro e w2 ⟨rfl, rfl⟩)
    | (go_at_call 10; (with_reducible refine (skopen_nil _ _ _ _).mono ?_); rintro e w2 ⟨rfl, rfl⟩)
    | ((go_at_call 11; (with_reducible refine (hf1 _ (h1.below (B0 := w.heap.size) B1.out (Nat.le_refl _))).mono ?_); rintro e w2 ⟨rfl, hb2⟩); have B2 := Lib.hid (B1.out.trans (hb2.mono B1.out.size)); have s2 := B2.out.size; clear hb2)
    | ((go_at_call 12; (with_reducible refine (C2.out _ (h0.below B2.out (Nat.le_refl _))).mono ?_); rintro e w3 ⟨q, rfl, r3, hgi, hb3⟩); have R3 := Lib.hid (r3 w2.heap.size (Nat.le_refl _)); have HB3 := Lib.hid hb3; have B3 := Lib.hid (B2.out.trans (hb3.mono s2)); have s3 := hb3.size; clear r3 hgi hb3)
    | ((go_at_call 13; (with_reducible refine (C1.out _ (h0.below B3.out (Nat.le_refl _))).mono ?_); rintro e w4 ⟨p, ga, rfl, d4, a4, hb4⟩); have D4 := Lib.hid d4; have A4 := Lib.hid a4; have R4 := Lib.hid (R3.out.below hb4); have HB4 := Lib.hid (HB3.out.trans (hb4.mono s3)); have s4 := HB4.out.size; clear d4 a4 hb4)
    | fail "no arm")
  have hn1 : q.gi ≠ p.gi ∧ q.gi ≠ p.gm := by
    obtain ⟨A, c, h⟩ := D4.out
    obtain ⟨_, _, ⟨c2, b2⟩, _⟩ := R3.out.kinds
    have e0 := b2.lt
    have e1 := h.bs p.gi (.inr (.inr (.inr (.inl rfl))))
    have e2 := h.bs p.gm (.inr (.inr (.inr (.inr (.inl rfl)))))
    omega
  obtain ⟨n1, n2⟩ := hn1
  have RD := Lib.hid (h1.below B2.out (Nat.le_refl _))
  have RT := Lib.hid (hts.below B2.out (Nat.le_refl _))
  have bW : Below w4.heap.size w4 (w4.alloc (.cells #[.pointer (some ⟨p.d, 0, none⟩), .pointer (some ⟨ga, 0, none⟩), .pointer none, .pointer (some ⟨q.d, 0, none⟩), .pointer none] 45)) := (Below.refl _ _).alloc (Nat.le_refl _) _
  have D5 := (D4.out.rebase s3).below bW
  have hlowT : 0 < t → ∀ b, B0.map (·.block) = some b → b < w2.heap.size := fun h0 g hg => by
    obtain ⟨b9, o9, e9, h9, _⟩ := RT.out.2 h0
    rw [e9] at hg
    simp only [Option.map_some, Option.some.injEq] at hg
    omega
  have bel5 : Below w2.heap.size w2 (w4.alloc (.cells #[.pointer (some ⟨p.d, 0, none⟩), .pointer (some ⟨ga, 0, none⟩), .pointer none, .pointer (some ⟨q.d, 0, none⟩), .pointer none] 45)) := HB4.out.trans (bW.mono s4)
  have hbb := (Blk.top (g := w4.heap.size) (t := 45) (cs := sbothC p q ga none none) w4 rfl rfl)
  have B5 := Lib.hid bel5
  cases hr : rightB ts with
  | false =>
    have c3 := sbopen_wrong (ga := ga) (q := q) D5 (Blk.below A4.out bW (Blk.lt A4.out)) hbb (by have := bW.size; omega) HM0.out (by have := HW0.out; omega) B0 t b0 (RT.out.below bel5 (Nat.le_refl _)) (by unfold maxLen; omega) hlowT hr
    clear hf1 D5 bW hr bel5 hbb
    go_upto_region 19 with (first
      | ((go_at_call 14; (with_reducible refine (c3).mono ?_); rintro e w6 ⟨rfl, hbo6, bel6⟩); have y4 : w6.cell? ⟨w4.heap.size, 4, none⟩ = some (.pointer none) := hbo6.cell 4; have BE6 := Lib.hid (B5.out.trans bel6); clear hbo6 bel6)
      | fail "no arm")
    go_wp2
    go_ret
    exact ⟨rfl, B2.out.trans (BE6.out.mono s2)⟩
  | true =>
    have c3 := sbopen_any (P1 := none) (P2 := none) D5 (R4.out.below bW) n1 n2 (Blk.below A4.out bW (Blk.lt A4.out)) hbb (by have := bW.size; omega) s4 HM0.out (by have := HW0.out; omega) B0 t b0 (RT.out.below bel5 (Nat.le_refl _)) (by unfold maxLen; omega) hlowT hr
    have FEW := Lib.hid (fOpenV_few D0 1 8 4 ts)
    have HRT := Lib.hid hr
    generalize fOpenV D0 1 8 4 ts = R at *
    clear hf1 D5 bW bel5 hbb hlowT
    go_upto_region 19 with (first
      | ((go_at_call 14; (with_reducible refine (c3).mono ?_); rintro e w6 ⟨rfl, hc6⟩); clear c3)
      | fail "no arm")
    rcases hc6 with ⟨hz6, hbo6, w61, s61, d61, k61, r61⟩ | ⟨hz6, gs0, gw0, so6⟩
    · have y4 : w6.cell? ⟨w4.heap.size, 4, none⟩ = some (.pointer none) := hbo6.cell 4
      have BE6 := Lib.hid ((B5.out.trans s61.bel).trans k61.bel)
      clear hbo6 hz6 s61 d61 k61 r61
      go_wp2
      go_ret
      exact ⟨rfl, B2.out.trans (BE6.out.mono s2)⟩
    · have y4 : w6.cell? ⟨w4.heap.size, 4, none⟩ = some (.pointer (some ⟨gw0, 0, none⟩)) := so6.bo.cell 4
      have BE6 := Lib.hid (B5.out.trans so6.bel)
      have SO6 := Lib.hid so6
      have s6 := BE6.out.size
      clear hz6 so6
      generalize hgb : w4.heap.size = gb at *
      have HGB := Lib.hid hgb
      clear hgb
      go_wp2_with fail
      go_loopw [18, 90] (fun _ i wr => ∃ (k : Nat) (D : DiskV) (gs gw : Nat) (nx : Nat), k ≤ m0 ∧ i = .int .i64 (k : Nat) ∧ SO w2 wr w2.heap.size p q ga gb gs gw D D ts nx nx (sbothC p q ga (some ⟨gs, 0, none⟩) (some ⟨gw, 0, none⟩)) ∧ D.many = 10 ∧ D.waits.length ≤ 8 + 8 * k ∧ nx ≤ 8) (fun _ i _ => m0 - (intOf i).toNat)
      case atStart => exact ⟨0, R.1, gs0, gw0, R.2.1, by omega, rfl, ⟨SO6.out.sd, SO6.out.sr, n1, n2, SO6.out.a, SO6.out.bo, SO6.out.ss, SO6.out.rw_, BE6.out, Nat.le_refl _, SO6.out.gb_⟩, FEW.out.1.trans HM0.out, by have := FEW.out.2.1; have := HW0.out; omega, FEW.out.2.2⟩
      case round =>
        obtain ⟨k, D, gs, gw, nx, hk, rfl, hso, hmany, hwt, hnx⟩ := hrel
        have hbel := hso.bel
        have hbs := hbel.size
        by_cases hlt : k < m0
        · obtain ⟨x, hx⟩ : ∃ x, l[k]? = some x := ⟨_, List.getElem?_eq_getElem (by rw [Hl1.out]; exact hlt)⟩
          obtain ⟨b, o, C, qn, e, Bx, m, d, hA0, hrC, hqe, hem, hrB, hmd, hdm, hxn, hio, hget⟩ := RD.out.get hx
          obtain ⟨hb, e0, e1, e2, e3⟩ := hget wr _ hbel (Nat.le_refl _)
          have hlowC : 0 < qn → ∀ g, C.map (·.block) = some g → g < w2.heap.size := fun h0 g hg => by
            obtain ⟨b9, o9, e9, h9, _⟩ := hrC.2 h0
            rw [e9] at hg
            simp only [Option.map_some, Option.some.injEq] at hg
            omega
          have hlowB : 0 < m → ∀ g, Bx.map (·.block) = some g → g < w2.heap.size := fun h0 g hg => by
            obtain ⟨b9, o9, e9, h9, _⟩ := hrB.2 h0
            rw [e9] at hg
            simp only [Option.map_some, Option.some.injEq] at hg
            omega
          have bW : Below wr.heap.size wr ((wr.alloc (.cells #[.int .i64 x.kind, .int .i64 x.n, .slice C qn e, .slice Bx m d] 48)).drew) := ((Below.refl _ _).alloc (Nat.le_refl _) _).drew
          have hso2 := hso.below bW
          have hso3 : SO _ _ w2.heap.size p q ga gb gs gw D D ts nx nx (sbothC p q ga (some ⟨gs, 0, none⟩) (some ⟨gw, 0, none⟩)) := ⟨hso2.sd, hso2.sr, n1, n2, hso2.a, hso2.bo, hso2.ss, hso2.rw_, Below.refl _ ((wr.alloc (.cells #[.int .i64 x.kind, .int .i64 x.n, .slice C qn e, .slice Bx m d] 48)).drew), Nat.le_trans hbs bW.size, hso2.gb_⟩
          have c2 := sone_any hso3 hmany hnx HRT.out x C qn e Bx m d (hrC.below (hbel.trans (bW.mono hbs)) (Nat.le_refl _)) hlowC (by omega) hio (hrB.below (hbel.trans (bW.mono hbs)) (Nat.le_refl _)) hlowB (by omega) hxn.2 (by omega)
          have BW := Lib.hid (hbel.trans (bW.mono hbs))
          clear hso hso2 hso3 hbel hrC hrB hlowC hlowB hx hget bW
          subst hA0
          go_wp2_with fail
          refine wp_region_held_drew (S := fun _ => True) (by kernel_rfl) trivial (fun hHeld => ?_)
          refine wpAnyH_take (i := 0) (v := ?_) rfl (by decide +kernel) (by decide +kernel) (by decide +kernel) (fun _ _ _ h => h) (Or.inl ⟨by rfl, ?_⟩) (by assumption) ?_
          rotate_left 1
          · (intro w hSw; (try dsimp only at hSw); go_simp; try (with_reducible rfl))
          try simp only [List.getElem_toArray, List.getElem_cons_zero, List.getElem_cons_succ, Act.put, List.setIfInBounds_toArray, List.set_cons_zero, List.set_cons_succ]
          refine wpAnyH_ready (rs := [1]) (by decide +kernel) (by simp) ?_
          refine AllReadyH.cons rfl (fun K hK => ?_) AllReadyH.nil
          go_simp
          refine hK.out _ _ (trivial) (fun hHeld => ?_)
          clear hK K
          try simp only [List.getElem_toArray, List.getElem_cons_zero, List.getElem_cons_succ, Act.put, List.setIfInBounds_toArray, List.set_cons_zero, List.set_cons_succ]
          refine wpAnyH_ready (rs := [2]) (by decide +kernel) (by simp) ?_
          refine AllReadyH.cons rfl (fun K hK => ?_) AllReadyH.nil
          go_simp
          (go_at_call 15; (with_reducible refine (c2).mono ?_); rintro e w5 ⟨rfl, D', gs', gw', nx', so5, hm5, hwt5, hnx5⟩)
          have y2 : w5.cell? ⟨gb, 2, none⟩ = some (.pointer (some ⟨gs', 0, none⟩)) := so5.bo.cell 2
          have y4' : w5.cell? ⟨gb, 4, none⟩ = some (.pointer (some ⟨gw', 0, none⟩)) := so5.bo.cell 4
          obtain ⟨gj9, A9, n9, c9, b9, _, j9, _⟩ := so5.rw_
          have y0 : w5.cell? ⟨gw', 0, none⟩ = some (.pointer (some ⟨gj9, 0, none⟩)) := b9.cell 0
          have yn : w5.cell? ⟨gj9, 4, none⟩ = some (.int .i64 (nx' : Int)) := Blk.cell j9 4
          have cl := sklen_any so5.ss.at_
          have SO5 := Lib.hid so5
          have B5' := Lib.hid (BW.out.trans so5.bel)
          clear so5 c2 e0 e1 e2 e3 b9 j9
          refine hK.out _ _ (trivial) (fun hHeld => ?_)
          clear hK K
          try simp only [List.getElem_toArray, List.getElem_cons_zero, List.getElem_cons_succ, Act.put, List.setIfInBounds_toArray, List.set_cons_zero, List.set_cons_succ]
          refine wpAnyH_more (S' := fun w' => w'.cell? ⟨gb, 2, none⟩ = some (.pointer (some ⟨gs', 0, none⟩)) ∧ w'.cell? ⟨gb, 4, none⟩ = some (.pointer (some ⟨gw', 0, none⟩)) ∧ w'.cell? ⟨gw', 0, none⟩ = some (.pointer (some ⟨gj9, 0, none⟩)) ∧ w'.cell? ⟨gj9, 4, none⟩ = some (.int .i64 (nx' : Int))) (fun _ _ => trivial) _ _ _ _ ?_
          clear hHeld
          have hHeld := And.intro y2 (And.intro y4' (And.intro y0 yn))
          refine wpAnyH_take (i := 3) (v := ?_) rfl (by decide +kernel) (by decide +kernel) (by decide +kernel) (fun _ _ _ h => h) (Or.inl ⟨by rfl, ?_⟩) (by assumption) ?_
          rotate_left 1
          · (intro w hSw; (try dsimp only at hSw); go_simp; try (with_reducible rfl))
          try simp only [List.getElem_toArray, List.getElem_cons_zero, List.getElem_cons_succ, Act.put, List.setIfInBounds_toArray, List.set_cons_zero, List.set_cons_succ]
          refine wpAnyH_take (i := 4) (v := ?_) rfl (by decide +kernel) (by decide +kernel) (by decide +kernel) (fun _ _ _ h => h) (Or.inl ⟨by rfl, ?_⟩) (by assumption) ?_
          rotate_left 1
          · (intro w hSw; (try dsimp only at hSw); go_simp; try (with_reducible rfl))
          try simp only [List.getElem_toArray, List.getElem_cons_zero, List.getElem_cons_succ, Act.put, List.setIfInBounds_toArray, List.set_cons_zero, List.set_cons_succ]
          refine wpAnyH_take (i := 5) (v := ?_) rfl (by decide +kernel) (by decide +kernel) (by decide +kernel) (fun _ _ _ h => h) (Or.inl ⟨by rfl, ?_⟩) (by assumption) ?_
          rotate_left 1
          · (intro w hSw; (try dsimp only at hSw); go_simp; try (with_reducible rfl))
          try simp only [List.getElem_toArray, List.getElem_cons_zero, List.getElem_cons_succ, Act.put, List.setIfInBounds_toArray, List.set_cons_zero, List.set_cons_succ]
          refine wpAnyH_take (i := 6) (v := ?_) rfl (by decide +kernel) (by decide +kernel) (by decide +kernel) (fun _ _ _ h => h) (Or.inl ⟨by rfl, ?_⟩) (by assumption) ?_
          rotate_left 1
          · (intro w hSw; (try dsimp only at hSw); go_simp; try (with_reducible rfl))
          try simp only [List.getElem_toArray, List.getElem_cons_zero, List.getElem_cons_succ, Act.put, List.setIfInBounds_toArray, List.set_cons_zero, List.set_cons_succ]
          refine wpAnyH_take (i := 7) (v := ?_) rfl (by decide +kernel) (by decide +kernel) (by decide +kernel) (fun _ _ _ h => h) (Or.inl ⟨by rfl, ?_⟩) (by assumption) ?_
          rotate_left 1
          · (intro w hSw; (try dsimp only at hSw); go_simp; try (with_reducible rfl))
          try simp only [List.getElem_toArray, List.getElem_cons_zero, List.getElem_cons_succ, Act.put, List.setIfInBounds_toArray, List.set_cons_zero, List.set_cons_succ]
          refine wpAnyH_take (i := 8) (v := ?_) rfl (by decide +kernel) (by decide +kernel) (by decide +kernel) (fun _ _ _ h => h) (Or.inl ⟨by rfl, ?_⟩) (by assumption) ?_
          rotate_left 1
          · (intro w hSw; (try dsimp only at hSw); obtain ⟨s1, s2, s3, s4⟩ := hSw; go_simp; rfl)
          try simp only [List.getElem_toArray, List.getElem_cons_zero, List.getElem_cons_succ, Act.put, List.setIfInBounds_toArray, List.set_cons_zero, List.set_cons_succ]
          refine wpAnyH_take (i := 10) (v := ?_) rfl (by decide +kernel) (by decide +kernel) (by decide +kernel) (fun _ _ _ h => h) (Or.inl ⟨by rfl, ?_⟩) (by assumption) ?_
          rotate_left 1
          · (intro w hSw; (try dsimp only at hSw); go_simp; try (with_reducible rfl))
          try simp only [List.getElem_toArray, List.getElem_cons_zero, List.getElem_cons_succ, Act.put, List.setIfInBounds_toArray, List.set_cons_zero, List.set_cons_succ]
          refine wpAnyH_take (i := 11) (v := ?_) rfl (by decide +kernel) (by decide +kernel) (by decide +kernel) (fun _ _ _ h => h) (Or.inl ⟨by rfl, ?_⟩) (by assumption) ?_
          rotate_left 1
          · (intro w hSw; (try dsimp only at hSw); go_simp; try (with_reducible rfl))
          try simp only [List.getElem_toArray, List.getElem_cons_zero, List.getElem_cons_succ, Act.put, List.setIfInBounds_toArray, List.set_cons_zero, List.set_cons_succ]
          refine wpAnyH_take (i := 12) (v := ?_) rfl (by decide +kernel) (by decide +kernel) (by decide +kernel) (fun _ _ _ h => h) (Or.inl ⟨by rfl, ?_⟩) (by assumption) ?_
          rotate_left 1
          · (intro w hSw; (try dsimp only at hSw); go_simp; try (with_reducible rfl))
          try simp only [List.getElem_toArray, List.getElem_cons_zero, List.getElem_cons_succ, Act.put, List.setIfInBounds_toArray, List.set_cons_zero, List.set_cons_succ]
          refine wpAnyH_take (i := 13) (v := ?_) rfl (by decide +kernel) (by decide +kernel) (by decide +kernel) (fun _ _ _ h => h) (Or.inl ⟨by rfl, ?_⟩) (by assumption) ?_
          rotate_left 1
          · (intro w hSw; (try dsimp only at hSw); obtain ⟨s1, s2, s3, s4⟩ := hSw; go_simp; rfl)
          try simp only [List.getElem_toArray, List.getElem_cons_zero, List.getElem_cons_succ, Act.put, List.setIfInBounds_toArray, List.set_cons_zero, List.set_cons_succ]
          refine wpAnyH_take (i := 14) (v := ?_) rfl (by decide +kernel) (by decide +kernel) (by decide +kernel) (fun _ _ _ h => h) (Or.inl ⟨by rfl, ?_⟩) (by assumption) ?_
          rotate_left 1
          · (intro w hSw; (try dsimp only at hSw); go_simp; try (with_reducible rfl))
          try simp only [List.getElem_toArray, List.getElem_cons_zero, List.getElem_cons_succ, Act.put, List.setIfInBounds_toArray, List.set_cons_zero, List.set_cons_succ]
          refine wpAnyH_take (i := 15) (v := ?_) rfl (by decide +kernel) (by decide +kernel) (by decide +kernel) (fun _ _ _ h => h) (Or.inl ⟨by rfl, ?_⟩) (by assumption) ?_
          rotate_left 1
          · (intro w hSw; (try dsimp only at hSw); go_simp; try (with_reducible rfl))
          try simp only [List.getElem_toArray, List.getElem_cons_zero, List.getElem_cons_succ, Act.put, List.setIfInBounds_toArray, List.set_cons_zero, List.set_cons_succ]
          refine wpAnyH_take (i := 16) (v := ?_) rfl (by decide +kernel) (by decide +kernel) (by decide +kernel) (fun _ _ _ h => h) (Or.inl ⟨by rfl, ?_⟩) (by assumption) ?_
          rotate_left 1
          · (intro w hSw; (try dsimp only at hSw); obtain ⟨s1, s2, s3, s4⟩ := hSw; go_simp; rfl)
          try simp only [List.getElem_toArray, List.getElem_cons_zero, List.getElem_cons_succ, Act.put, List.setIfInBounds_toArray, List.set_cons_zero, List.set_cons_succ]
          refine wpAnyH_take (i := 17) (v := ?_) rfl (by decide +kernel) (by decide +kernel) (by decide +kernel) (fun _ _ _ h => h) (Or.inl ⟨by rfl, ?_⟩) (by assumption) ?_
          rotate_left 1
          · (intro w hSw; (try dsimp only at hSw); go_simp; try (with_reducible rfl))
          try simp only [List.getElem_toArray, List.getElem_cons_zero, List.getElem_cons_succ, Act.put, List.setIfInBounds_toArray, List.set_cons_zero, List.set_cons_succ]
          refine wpAnyH_take (i := 18) (v := ?_) rfl (by decide +kernel) (by decide +kernel) (by decide +kernel) (fun _ _ _ h => h) (Or.inl ⟨by rfl, ?_⟩) (by assumption) ?_
          rotate_left 1
          · (intro w hSw; (try dsimp only at hSw); go_simp; try (with_reducible rfl))
          try simp only [List.getElem_toArray, List.getElem_cons_zero, List.getElem_cons_succ, Act.put, List.setIfInBounds_toArray, List.set_cons_zero, List.set_cons_succ]
          refine wpAnyH_take (i := 19) (v := ?_) rfl (by decide +kernel) (by decide +kernel) (by decide +kernel) (fun _ _ _ h => h) (Or.inl ⟨by rfl, ?_⟩) (by assumption) ?_
          rotate_left 1
          · (intro w hSw; (try dsimp only at hSw); obtain ⟨s1, s2, s3, s4⟩ := hSw; go_simp; rfl)
          try simp only [List.getElem_toArray, List.getElem_cons_zero, List.getElem_cons_succ, Act.put, List.setIfInBounds_toArray, List.set_cons_zero, List.set_cons_succ]
          refine wpAnyH_ready (rs := [9]) (by decide +kernel) (by simp) ?_
          refine AllReadyH.cons rfl (fun K hK => ?_) AllReadyH.nil
          go_simp
          (go_at_call 8; (with_reducible refine (cl).mono ?_); rintro e w6' ⟨rfl, rfl⟩)
          refine hK.out _ _ (⟨y2, y4', y0, yn⟩) (fun hHeld => ?_)
          clear hK K
          try simp only [List.getElem_toArray, List.getElem_cons_zero, List.getElem_cons_succ, Act.put, List.setIfInBounds_toArray, List.set_cons_zero, List.set_cons_succ]
          refine wpAnyH_take (i := 20) (v := ?_) rfl (by decide +kernel) (by decide +kernel) (by decide +kernel) (fun _ _ _ h => h) (Or.inl ⟨by rfl, ?_⟩) (by assumption) ?_
          rotate_left 1
          · (intro w hSw; (try dsimp only at hSw); go_simp; try (with_reducible rfl))
          try simp only [List.getElem_toArray, List.getElem_cons_zero, List.getElem_cons_succ, Act.put, List.setIfInBounds_toArray, List.set_cons_zero, List.set_cons_succ]
          refine wpAnyH_take (i := 21) (v := ?_) rfl (by decide +kernel) (by decide +kernel) (by decide +kernel) (fun _ _ _ h => h) (Or.inl ⟨by rfl, ?_⟩) (by assumption) ?_
          rotate_left 1
          · (intro w hSw; (try dsimp only at hSw); go_simp; try (with_reducible rfl))
          try simp only [List.getElem_toArray, List.getElem_cons_zero, List.getElem_cons_succ, Act.put, List.setIfInBounds_toArray, List.set_cons_zero, List.set_cons_succ]
          refine wpAnyH_done (by decide +kernel) ?_ _
          clear hHeld y2 y4' yn y0 cl
          go_wp2
          go_roundw
          case rel => first
            | exact ⟨k + 1, D', gs', gw', nx', by omega, by go_num, ⟨SO5.out.sd, SO5.out.sr, n1, n2, SO5.out.a, SO5.out.bo, SO5.out.ss, SO5.out.rw_, B5'.out, Nat.le_refl _, SO5.out.gb_⟩, hm5.trans hmany, by omega, hnx5⟩
            | ((repeat apply Exists.intro); exact ⟨⟨k + 1, D', gs', gw', nx', by omega, by go_num, ⟨SO5.out.sd, SO5.out.sr, n1, n2, SO5.out.a, SO5.out.bo, SO5.out.ss, SO5.out.rw_, B5'.out, Nat.le_refl _, SO5.out.gb_⟩, hm5.trans hmany, by omega, hnx5⟩, rfl⟩)
          case measure => simp [intOf]; omega
        · have cim := s_image hso.sd hbs
          have HSO := Lib.hid hso
          clear hso hbel
          go_wp2_with (first
            | ((go_at_call 17; (with_reducible refine (cim).mono ?_); rintro e w7 ⟨I6, N6, i6, rfl, o6, d6, st6⟩); have r6 := HSO.out.sr.step HSO.out.sd st6 n1 n2 (by decide) (by decide); have s6' : w2.heap.size ≤ w7.heap.size := Nat.le_trans hbs st6.size; have b6 := HSO.out.bel.trans st6.bel; have cim2 := r_image r6 s6'; have OO6 := Lib.hid o6; have BB6 := Lib.hid b6; clear o6 d6 st6 r6 b6)
            | ((go_at_call 18; (with_reducible refine (cim2).mono ?_); rintro e w8 ⟨I7, N7, i7, rfl, o7, b7⟩); have o67 := OO6.out.below b7 (Nat.le_refl _); have hN6 : N6 ≤ maxLen := (by have e1 := o67.cap; omega); have hsame := same_any I6 I7 N6 N7 i6 i7 D.kept D.kept w8 o67.rd.rb o7.rd.rb hN6; have B7 := Lib.hid (BB6.out.trans (b7.mono s6')); clear o67 o7 b7)
            | (rw [decide_eq_true rfl] at hsame; (go_at_call 16; (with_reducible refine (hsame).mono ?_); rintro e w9 ⟨rfl, q8, rfl⟩))
            | (rw [show decide True = true from rfl] at hsame; (go_at_call 16; (with_reducible refine (hsame).mono ?_); rintro e w9 ⟨rfl, q8, rfl⟩))
            | fail "no arm")
          go_ret
          exact ⟨rfl, B2.out.trans ((below_drewN B7.out q8).mono s2)⟩
theorem walk (w : World) (A0 : Option Addr) (n c0 : Nat) (img : List UInt8) (h0 : RB w A0 n img) (nc : n ≤ c0) (cm : c0 ≤ maxLen)
    (B0 : Option Addr) (t b0 : Nat) (ts : List Int) (h2 : RI w B0 t ts) (nb : t ≤ b0) (bm : b0 ≤ maxLen) (wf : ∀ z ∈ ts, -9223372036854775808 ≤ z ∧ z ≤ 9223372036854775807) (v2 : Value) (x2 : ∃ A n c l, v2 = .slice A n c ∧ DosW w A n l ∧ n ≤ c ∧ c ≤ maxLen) :
    Calls Tryz.prog 3 #[.slice A0 n c0, .slice B0 t b0, v2] w fun e w' => e = .returned (.bool true) ∧ Below w.heap.size w w' := by
  obtain ⟨C0, m0, d0, l, rfl, h1, nc1, cm1⟩ := x2
  have hn : n ≤ maxLen := by omega
  have hm : m0 ≤ maxLen := by omega
  have ht : t ≤ maxLen := by omega
  cases q : fewWB l with
  | false => exact walk_few A0 B0 C0 n t m0 c0 b0 d0 l w h1 hn ht hm (.inl q)
  | true =>
    by_cases h3 : 1280 < n
    · exact walk_few A0 B0 C0 n t m0 c0 b0 d0 l w h1 hn ht hm (.inr (.inl ⟨q, h3⟩))
    by_cases h4 : 20 < t
    · exact walk_few A0 B0 C0 n t m0 c0 b0 d0 l w h1 hn ht hm (.inr (.inr ⟨q, by omega, h4⟩))
    · exact walk_main A0 B0 C0 n t m0 c0 b0 d0 img ts l w h0 nc h2 h1 (by omega) (by omega) hm q

--FRAME tompionlaw36 SinkDoes sinkDoes walk bytes ints raw:[]tompionlaw36.Do:args_dos36:.slice‹_›none‹_›0‹_›0
theorem own : ownKnob Tryz.prog.godebug = none := by kernel_rfl
theorem laidOut : laidOutB Tryz.prog = true := by kernel_rfl

set_option maxRecDepth 100000 in
theorem lifted (os : Os) (started : os.Started) (H : Type) (enc : TypeId × Value → H) :
    ReturnsInHanded {} Tryz.checked os 3 .any (Rows.sinkDoesSpec.pre6 enc Tryz.prog Tryz.f3 Rows.sinkDoesRow.domain false) (Rows.sinkDoesSpec.post enc Tryz.prog Tryz.f3 false true false false) := by
  refine returnsInHanded_of_change (C := Tryz.checked) own started (by kernel_rfl) Tryz.func3
    (ChangeSpec.witness6 (enc := enc) (C := Tryz.checked) false ⟨#[], #[.slice none 0 0, .slice none 0 0, .slice none 0 0], []⟩ 8 (by kernel_rfl) (by kernel_rfl) (by kernel_rfl) (by kernel_rfl)) ?_
  intro W base args ds gs before hval0 hW hcnd _
  have hval : ∀ (j : Nat) t v, Tryz.f3.params[j]? = some t → args[j]? = some v → Value.okWide Tryz.prog W .any base t v := hval0
  have hW' := hW
  obtain ⟨p, q, hA0, hV, rfl, hfz, hnd⟩ := hW
  have hA : DataW.TrodAll enc Tryz.prog W 0 (fun _ => true) true Tryz.f3.params.toList args.toList ds p := hA0
  rw [Tryz.params3] at hA hval
  obtain ⟨v0, vs0, d0, ds0, p0, q0, hargs, rfl, rfl, h0, rr0⟩ := trodAll_cons hA
  obtain ⟨v1, vs1, d1, ds1, p1, q1, rfl, rfl, rfl, h1, rr1⟩ := trodAll_cons rr0
  obtain ⟨v2, vs2, d2, ds2, p2, q2, rfl, rfl, rfl, h2, rr2⟩ := trodAll_cons rr1
  obtain ⟨rfl, rfl, rfl⟩ := trodAll_nil rr2
  obtain rfl : args = #[v0, v1, v2] := by cases args; simp_all
  obtain ⟨rfl, rfl⟩ := trodVars_none hV
  have k0 := h0
  have lt0 : ∀ x ∈ p0, x.block < W.heap.size := by obtain ⟨m, hm⟩ := k0; exact DataW.trod_lt m _ _ _ hm
  obtain ⟨A0, n0, c0, l0, rfl, r0, nc0, cm0⟩ := args_bytes Tryz.underlying22 Tryz.underlying5 (by kernel_rfl) (hval 0 22 v0 rfl rfl) h0
  have k1 := h1
  have lt1 : ∀ x ∈ p1, x.block < W.heap.size := by obtain ⟨m, hm⟩ := k1; exact DataW.trod_lt m _ _ _ hm
  obtain ⟨A1, n1, c1, l1, rfl, r1, nc1, cm1, wf1⟩ := args_ints Tryz.underlying23 Tryz.underlying3 (by kernel_rfl) (hval 1 23 v1 rfl rfl) h1
  have k2 := h2
  have lt2 : ∀ x ∈ p2, x.block < W.heap.size := by obtain ⟨m, hm⟩ := k2; exact DataW.trod_lt m _ _ _ hm
  have x2 := args_dos36 (hval 2 24 v2 rfl rfl) h2
  clear hA0 hval0
  refine (walk W A0 n0 c0 l0 r0 nc0 cm0 A1 n1 c1 l1 r1 nc1 cm1 wf1 v2 x2).mono fun e W' ⟨he, bel⟩ => ?_
  subst he
  exact ⟨_, rfl, _, _, _, [], _, [], hW', trodAll_mk1 (shut_bool Tryz.underlying4 _), (trodAll_cons_mk (Below.trod laidOut (by kernel_rfl) (of_decide_eq_true (by kernel_rfl)) k0 bel lt0) (trodAll_cons_mk (Below.trod laidOut (by kernel_rfl) (of_decide_eq_true (by kernel_rfl)) k1 bel lt1) (trodAll_cons_mk (Below.trod laidOut (by kernel_rfl) (of_decide_eq_true (by kernel_rfl)) k2 bel lt2) trodAll_mk0))), rfl, bel.frame _, fun h => by cases h⟩

theorem over : Rows.sinkDoesRow.holds Tryz.pinned (OpenSpec.ofChange Rows.sinkDoesSpec) :=
  OpenClaim.holds_of_wide 3 Tryz.f3 rfl rfl rfl rfl rfl rfl rfl ⟨rfl, rfl, rfl, rfl, rfl⟩ rfl rfl rfl rfl rfl (by kernel_rfl) Tryz.func3 (by kernel_rfl)
    (of_decide_eq_true (by kernel_rfl)) (by unfold Func.isWrapper; first | (rw [if_pos (by decide +kernel)]; kernel_rfl) | (rw [if_neg (by decide +kernel)]; exact ⟨rfl, rfl⟩))
    (fun os started H enc _ => lifted os started H enc)

theorem proved : Rows.SinkDoesSaid := over
--ENDFRAME
end Go.Proofs.YtalmdccgpigppaaGreat.sinkDoes
