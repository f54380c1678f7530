/- DiskWhole: a crash by which all that waits is kept whole is a flush; one by which nothing is kept leaves what was kept before. -/
import Derived.Test.YtninidpbchcliaaDiskM
namespace Go.Proofs.Ytninidpbchcliaa.diskWhole
open Go.ChangeShapes Go.WideShapes Go.ChangeAt Go.RowKit
set_option linter.unusedVariables false
set_option linter.unusedSimpArgs false

theorem walk_big (A B : Option Addr) (n m c d : Nat) (l1 l2 : List DoV) (w : World) (h1 : DosRd w A n l1) (h2 : DosRd w B m l2) (hn : n ≤ maxLen) (hm : m ≤ maxLen) (h : ¬ (few6B l1 = true ∧ few6B l2 = true)) :
    Calls Try.prog 4 #[.slice A n c, .slice B m d] w fun e w' => e = .returned (.bool true) ∧ Below w.heap.size w w' := by
  have hf1 := fun w h => few6_any A n c l1 w h hn
  have hf2 := fun w h => few6_any B m d l2 w h hm
  cases q1 : few6B l1 with
  | false =>
    rw [q1] at hf1
    clear h q1 hf2
    go_enter Try.func4, Try.ntmps4
    go_wp2_with (first
      | ((go_at_call 15; (with_reducible refine (awake6 _).mono ?_); rintro e w1 ⟨rfl, hb1⟩); replace hb1 := below_then' (a := w) (B := w.heap.size) (by (repeat' (first | (with_reducible exact Below.refl _ _) | (with_reducible assumption) | (with_reducible refine Below.drew ?_) | (with_reducible refine below_drewN ?_ _) | (with_reducible refine Below.alloc ?_ ?_ _) | (with_reducible refine Below.setCell ?_ ?_ _) | omega | (simp; done) | (simp; omega)))) hb1 (by first | omega | (simp; done) | (simp; omega)); have hb1s := hb1.size)
      | ((go_at_call 16; (with_reducible refine (hf1 _ (h1.below (B0 := w.heap.size) (by (repeat' (first | (with_reducible exact Below.refl _ _) | (with_reducible assumption) | (with_reducible refine Below.drew ?_) | (with_reducible refine below_drewN ?_ _) | (with_reducible refine Below.alloc ?_ ?_ _) | (with_reducible refine Below.setCell ?_ ?_ _) | omega | (simp; done) | (simp; omega)))) (Nat.le_refl _))).mono ?_); rintro e w2 ⟨rfl, hb2⟩); replace hb2 := below_then' (a := w) (B := w.heap.size) (by (repeat' (first | (with_reducible exact Below.refl _ _) | (with_reducible assumption) | (with_reducible refine Below.drew ?_) | (with_reducible refine below_drewN ?_ _) | (with_reducible refine Below.alloc ?_ ?_ _) | (with_reducible refine Below.setCell ?_ ?_ _) | omega | (simp; done) | (simp; omega)))) hb2 (by first | omega | (simp; done) | (simp; omega)); have hb2s := hb2.size)
      | fail "no arm")
    go_ret
    exact ⟨rfl, (by (repeat' (first | (with_reducible exact Below.refl _ _) | (with_reducible assumption) | (with_reducible refine Below.drew ?_) | (with_reducible refine below_drewN ?_ _) | (with_reducible refine Below.alloc ?_ ?_ _) | (with_reducible refine Below.setCell ?_ ?_ _) | omega | (simp; done) | (simp; omega))))⟩
  | true =>
    rw [q1] at hf1
    have q2 : few6B l2 = false := by
      cases q : few6B l2 with
      | false => rfl
      | true => exact absurd ⟨q1, q⟩ h
    rw [q2] at hf2
    clear h q1 q2
    go_enter Try.func4, Try.ntmps4
    go_wp2_with (first
      | ((go_at_call 15; (with_reducible refine (awake6 _).mono ?_); rintro e w1 ⟨rfl, hb1⟩); replace hb1 := below_then' (a := w) (B := w.heap.size) (by (repeat' (first | (with_reducible exact Below.refl _ _) | (with_reducible assumption) | (with_reducible refine Below.drew ?_) | (with_reducible refine below_drewN ?_ _) | (with_reducible refine Below.alloc ?_ ?_ _) | (with_reducible refine Below.setCell ?_ ?_ _) | omega | (simp; done) | (simp; omega)))) hb1 (by first | omega | (simp; done) | (simp; omega)); have hb1s := hb1.size)
      | ((go_at_call 16; (with_reducible refine (hf1 _ (h1.below (B0 := w.heap.size) (by (repeat' (first | (with_reducible exact Below.refl _ _) | (with_reducible assumption) | (with_reducible refine Below.drew ?_) | (with_reducible refine below_drewN ?_ _) | (with_reducible refine Below.alloc ?_ ?_ _) | (with_reducible refine Below.setCell ?_ ?_ _) | omega | (simp; done) | (simp; omega)))) (Nat.le_refl _))).mono ?_); rintro e w2 ⟨rfl, hb2⟩); replace hb2 := below_then' (a := w) (B := w.heap.size) (by (repeat' (first | (with_reducible exact Below.refl _ _) | (with_reducible assumption) | (with_reducible refine Below.drew ?_) | (with_reducible refine below_drewN ?_ _) | (with_reducible refine Below.alloc ?_ ?_ _) | (with_reducible refine Below.setCell ?_ ?_ _) | omega | (simp; done) | (simp; omega)))) hb2 (by first | omega | (simp; done) | (simp; omega)); have hb2s := hb2.size)
      | ((go_at_call 16; (with_reducible refine (hf2 _ (h2.below (B0 := w.heap.size) (by (repeat' (first | (with_reducible exact Below.refl _ _) | (with_reducible assumption) | (with_reducible refine Below.drew ?_) | (with_reducible refine below_drewN ?_ _) | (with_reducible refine Below.alloc ?_ ?_ _) | (with_reducible refine Below.setCell ?_ ?_ _) | omega | (simp; done) | (simp; omega)))) (Nat.le_refl _))).mono ?_); rintro e w3 ⟨rfl, hb3⟩); replace hb3 := below_then' (a := w) (B := w.heap.size) (by (repeat' (first | (with_reducible exact Below.refl _ _) | (with_reducible assumption) | (with_reducible refine Below.drew ?_) | (with_reducible refine below_drewN ?_ _) | (with_reducible refine Below.alloc ?_ ?_ _) | (with_reducible refine Below.setCell ?_ ?_ _) | omega | (simp; done) | (simp; omega)))) hb3 (by first | omega | (simp; done) | (simp; omega)); have hb3s := hb3.size)
      | fail "no arm")
    go_ret
    exact ⟨rfl, (by (repeat' (first | (with_reducible exact Below.refl _ _) | (with_reducible assumption) | (with_reducible refine Below.drew ?_) | (with_reducible refine below_drewN ?_ _) | (with_reducible refine Below.alloc ?_ ?_ _) | (with_reducible refine Below.setCell ?_ ?_ _) | omega | (simp; done) | (simp; omega))))⟩
def D80 : DiskV := newV 8 8
theorem d80_calm : Calm D80 := calm_new (many := 8) (by omega) (by omega)
theorem d80_waits : D80.waits.length = 0 := rfl
set_option maxRecDepth 100000 in
set_option maxHeartbeats 8000000 in
theorem walk_main (A0 B0 : Option Addr) (n m0 c0 d0 : Nat) (l1 l2 : List DoV) (w : World) (h1 : DosRd w A0 n l1) (h2 : DosRd w B0 m0 l2) (hn : n ≤ maxLen) (hm : m0 ≤ maxLen) (q1 : few6B l1 = true) (q2 : few6B l2 = true) :
    Calls Try.prog 4 #[.slice A0 n c0, .slice B0 m0 d0] w fun e w' => e = .returned (.bool true) ∧ Below w.heap.size w w' := by
  have hf1 := fun w h => few6_any A0 n c0 l1 w h hn
  have hf2 := fun w h => few6_any B0 m0 d0 l2 w h hm
  rw [q1] at hf1
  rw [q2] at hf2
  have hn40 := (few6B_true q1).1
  have hm40 := (few6B_true q2).1
  rw [h1.1] at hn40
  rw [h2.1] at hm40
  have Hc1 := Lib.hid (fun j (hj : j ≤ 40) => wrK_calm d80_calm l1 j (by rw [d80_waits]; omega))
  have hnew : ∀ w, Calls Try.prog 17 #[.int .i64 8, .int .i64 8] w (NwPost w D80) := fun w => new_ok 8 8 w (by omega) (by omega) (by omega) (by omega)
  clear q1 q2 hn hm
  go_enter Try.func4, Try.ntmps4
  go_wp2_with (first
    | ((go_at_call 15; (with_reducible refine (awake6 _).mono ?_); rintro e w1 ⟨rfl, hb1⟩); replace hb1 := below_then' (a := w) (B := w.heap.size) (by (repeat' (first | (with_reducible exact Below.refl _ _) | (with_reducible assumption) | (with_reducible refine Below.drew ?_) | (with_reducible refine below_drewN ?_ _) | (with_reducible refine Below.alloc ?_ ?_ _) | (with_reducible refine Below.setCell ?_ ?_ _) | omega | (simp; done) | (simp; omega)))) hb1 (by first | omega | (simp; done) | (simp; omega)); have hb1s := hb1.size)
    | ((go_at_call 16; (with_reducible refine (hf1 _ (h1.below (B0 := w.heap.size) (by (repeat' (first | (with_reducible exact Below.refl _ _) | (with_reducible assumption) | (with_reducible refine Below.drew ?_) | (with_reducible refine below_drewN ?_ _) | (with_reducible refine Below.alloc ?_ ?_ _) | (with_reducible refine Below.setCell ?_ ?_ _) | omega | (simp; done) | (simp; omega)))) (Nat.le_refl _))).mono ?_); rintro e w2 ⟨rfl, hb2⟩); replace hb2 := below_then' (a := w) (B := w.heap.size) (by (repeat' (first | (with_reducible exact Below.refl _ _) | (with_reducible assumption) | (with_reducible refine Below.drew ?_) | (with_reducible refine below_drewN ?_ _) | (with_reducible refine Below.alloc ?_ ?_ _) | (with_reducible refine Below.setCell ?_ ?_ _) | omega | (simp; done) | (simp; omega)))) hb2 (by first | omega | (simp; done) | (simp; omega)); have hb2s := hb2.size)
    | ((go_at_call 16; (with_reducible refine (hf2 _ (h2.below (B0 := w.heap.size) (by (repeat' (first | (with_reducible exact Below.refl _ _) | (with_reducible assumption) | (with_reducible refine Below.drew ?_) | (with_reducible refine below_drewN ?_ _) | (with_reducible refine Below.alloc ?_ ?_ _) | (with_reducible refine Below.setCell ?_ ?_ _) | omega | (simp; done) | (simp; omega)))) (Nat.le_refl _))).mono ?_); rintro e w3 ⟨rfl, hb3⟩); replace hb3 := below_then' (a := w) (B := w.heap.size) (by (repeat' (first | (with_reducible exact Below.refl _ _) | (with_reducible assumption) | (with_reducible refine Below.drew ?_) | (with_reducible refine below_drewN ?_ _) | (with_reducible refine Below.alloc ?_ ?_ _) | (with_reducible refine Below.setCell ?_ ?_ _) | omega | (simp; done) | (simp; omega)))) hb3 (by first | omega | (simp; done) | (simp; omega)); have hb3s := hb3.size)
    | ((go_at_call 17; (with_reducible refine (hnew _).mono ?_); rintro e w5 ⟨r, rfl, hd5, hb5⟩); have h45 : TwoAt w5 w.heap.size p r D80 D80 := ⟨none, 0, none, 0, H4.out.below hb5, hd5.rebase (by omega), fun g hg hr => by have := H4.out.lt g hg; have := hd5.bs g hr; omega⟩; have HT := Lib.hid h45; clear hd5 h45; replace hb5 := below_then' (a := w) (B := w.heap.size) (by (repeat' (first | (with_reducible exact Below.refl _ _) | (with_reducible assumption) | (with_reducible refine Below.drew ?_) | (with_reducible refine below_drewN ?_ _) | (with_reducible refine Below.alloc ?_ ?_ _) | (with_reducible refine Below.setCell ?_ ?_ _) | omega | (simp; done) | (simp; omega)))) hb5 (by first | omega | (simp; done) | (simp; omega)); have hb5s := hb5.size)
    | ((go_at_call 17; (with_reducible refine (hnew _).mono ?_); rintro e w4 ⟨p, rfl, hd4, hb4⟩); have H4 := Lib.hid (hd4.rebase (base' := w.heap.size) (by first | omega | (simp; done) | (simp; omega))); clear hd4; replace hb4 := below_then' (a := w) (B := w.heap.size) (by (repeat' (first | (with_reducible exact Below.refl _ _) | (with_reducible assumption) | (with_reducible refine Below.drew ?_) | (with_reducible refine below_drewN ?_ _) | (with_reducible refine Below.alloc ?_ ?_ _) | (with_reducible refine Below.setCell ?_ ?_ _) | omega | (simp; done) | (simp; omega)))) hb4 (by first | omega | (simp; done) | (simp; omega)); have hb4s := hb4.size)
    | fail "no arm")
  clear hf1 hf2 hnew
  generalize hbase : w.heap.size = base at *
  go_loopw [10, 42] (fun _ i wr => ∃ j : Nat, j ≤ n ∧ i = .int .i64 (j : Nat) ∧ TwoAt wr base p r (wrK D80 l1 j) (wrK D80 l1 j) ∧ Below base w wr) (fun _ i _ => n - (intOf i).toNat)
  case atStart => exact ⟨0, by omega, rfl, HT.out, (by (repeat' (first | (with_reducible exact Below.refl _ _) | (with_reducible assumption) | (with_reducible refine Below.drew ?_) | (with_reducible refine below_drewN ?_ _) | (with_reducible refine Below.alloc ?_ ?_ _) | (with_reducible refine Below.setCell ?_ ?_ _) | omega | (simp; done) | (simp; omega))))⟩
  case round =>
    obtain ⟨j, hj, rfl, ⟨A, c, E, c5, hdp, hdq, hap⟩, hbel⟩ := hrel
    have hbs := hbel.size
    by_cases hlt : j < n
    · obtain ⟨x, hx⟩ : ∃ x, l1[j]? = some x := ⟨_, List.getElem?_eq_getElem (by rw [h1.1]; exact hlt)⟩
      obtain ⟨b, o, B, m, d, rfl, hr0, hmd, hdm, _, hget⟩ := h1.get hx
      obtain ⟨hb, e0, e1, e2⟩ := hget wr base hbel (by omega)
      have hmm : m ≤ maxLen := by omega
      clear hget
      by_cases hkind : x.kind = 1
      · have hnx := Lib.hid (wrK_yes (D := D80) hx hkind)
        have hkB : (x.kind == 1) = true := by rw [hkind]; rfl
        have hwl : (wrK D80 l1 j).waits.length < 1000000 := by have := (Hc1.out j (by omega)).2.2; rw [d80_waits] at this; omega
        have hr := hr0.below hbel (by omega)
        have HP := Lib.hid hdp
        have HQ := Lib.hid hdq
        have HX := Lib.hid hx
        clear hkind hx hdp hdq
        go_wp2
        go_region_held3 (fun w' => w'.cell? ⟨wr.heap.size, 1, none⟩ = some (.int .i64 x.n) ∧ w'.cell? ⟨wr.heap.size, 2, none⟩ = some (.slice B m d)) (first | go_keep | (refine ⟨?_, ?_⟩ <;> assumption)) (first
          | ((go_at_call 19; (with_reducible refine (full_any B m d x.b _ (hr.below (B := wr.heap.size) (by (repeat' (first | (with_reducible exact Below.refl _ _) | (with_reducible assumption) | (with_reducible refine Below.drew ?_) | (with_reducible refine below_drewN ?_ _) | (with_reducible refine Below.alloc ?_ ?_ _) | (with_reducible refine Below.setCell ?_ ?_ _) | omega | (simp; done) | (simp; omega)))) (Nat.le_refl _)) hmm).mono ?_); rintro e w2 ⟨rfl, hbw2⟩); have hxw2 := Blk.below (w' := w2) (g := wr.heap.size) (t := 31) (cs := [.int .i64 x.kind, .int .i64 x.n, .slice B m d]) (by (repeat' (first | (with_reducible assumption) | (with_reducible refine Blk.top _ (by first | rfl | omega | (simp; done) | (simp; omega)) rfl) | (with_reducible refine Blk.alloc ?_ _) | (with_reducible refine Blk.drew ?_) | (with_reducible refine Blk.drewN ?_ _) | (with_reducible refine Blk.far ?_ (by first | omega | (simp; done) | (simp; omega)) _)))) hbw2 (by first | omega | (simp; done) | (simp; omega)); have y1w2 : w2.cell? ⟨wr.heap.size, 1, none⟩ = some (.int .i64 x.n) := hxw2.cell 1; have y2w2 : w2.cell? ⟨wr.heap.size, 2, none⟩ = some (.slice B m d) := hxw2.cell 2; have hqw2 : Below wr.heap.size wr w2 := below_then' (by (repeat' (first | (with_reducible exact Below.refl _ _) | (with_reducible assumption) | (with_reducible refine Below.drew ?_) | (with_reducible refine below_drewN ?_ _) | (with_reducible refine Below.alloc ?_ ?_ _) | (with_reducible refine Below.setCell ?_ ?_ _) | omega | (simp; done) | (simp; omega)))) hbw2 (by first | omega | (simp; done) | (simp; omega)); have Hw2 := Lib.hid (HP.out.below hqw2); have sw2 := hqw2.size; have lxw2 := hxw2.lt)
          | ((go_at_call 18; (with_reducible refine (write_any Hw2.out x.n (fullL x.b) (fullL_len _) hwl (by omega)).mono ?_); rintro e w3 ⟨rfl, Aw3, cw3, hw3, kw3, nw3⟩); have hxw3 := Hw2.out.spares hxw2 kw3 (by decide) (by decide) (by decide) (by decide) (by decide); have y1w3 : w3.cell? ⟨wr.heap.size, 1, none⟩ = some (.int .i64 x.n) := hxw3.cell 1; have y2w3 : w3.cell? ⟨wr.heap.size, 2, none⟩ = some (.slice B m d) := hxw3.cell 2; have Hw3 := Lib.hid hw3; have qw3 : Below base wr w3 := (hqw2.mono (by omega)).trans (Hw2.out.belowK kw3 (by omega)); have sw3 := qw3.size; have lxw3 := hxw3.lt; clear hw3)
          | fail "no arm")
        obtain ⟨A5, a5, B5, b5, hp5, hq5, hap5⟩ := two_first (HQ.out.below hqw2) hap ⟨Aw3, cw3, Hw3.out, kw3, nw3⟩
        have hr3 : RB w3 B m x.b := hr0.below (hbel.trans qw3) (by omega)
        have HQ5 := Lib.hid hq5
        have HP5 := Lib.hid hp5
        clear hp5 hq5
        go_wp2
        go_region_held3 (fun w' => w'.cell? ⟨wr.heap.size, 1, none⟩ = some (.int .i64 x.n) ∧ w'.cell? ⟨wr.heap.size, 2, none⟩ = some (.slice B m d)) (first | go_keep | (refine ⟨?_, ?_⟩ <;> assumption)) (first
          | ((go_at_call 19; (with_reducible refine (full_any B m d x.b _ (hr3.below (B := w3.heap.size) (by (repeat' (first | (with_reducible exact Below.refl _ _) | (with_reducible assumption) | (with_reducible refine Below.drew ?_) | (with_reducible refine below_drewN ?_ _) | (with_reducible refine Below.alloc ?_ ?_ _) | (with_reducible refine Below.setCell ?_ ?_ _) | omega | (simp; done) | (simp; omega)))) (Nat.le_refl _)) hmm).mono ?_); rintro e w6 ⟨rfl, hbw6⟩); have hxw6 := Blk.below (w' := w6) (g := wr.heap.size) (t := 31) (cs := [.int .i64 x.kind, .int .i64 x.n, .slice B m d]) (by (repeat' (first | (with_reducible assumption) | (with_reducible refine Blk.top _ (by first | rfl | omega | (simp; done) | (simp; omega)) rfl) | (with_reducible refine Blk.alloc ?_ _) | (with_reducible refine Blk.drew ?_) | (with_reducible refine Blk.drewN ?_ _) | (with_reducible refine Blk.far ?_ (by first | omega | (simp; done) | (simp; omega)) _)))) hbw6 (by first | omega | (simp; done) | (simp; omega)); have y1w6 : w6.cell? ⟨wr.heap.size, 1, none⟩ = some (.int .i64 x.n) := hxw6.cell 1; have y2w6 : w6.cell? ⟨wr.heap.size, 2, none⟩ = some (.slice B m d) := hxw6.cell 2; have hqw6 : Below w3.heap.size w3 w6 := below_then' (by (repeat' (first | (with_reducible exact Below.refl _ _) | (with_reducible assumption) | (with_reducible refine Below.drew ?_) | (with_reducible refine below_drewN ?_ _) | (with_reducible refine Below.alloc ?_ ?_ _) | (with_reducible refine Below.setCell ?_ ?_ _) | omega | (simp; done) | (simp; omega)))) hbw6 (by first | omega | (simp; done) | (simp; omega)); have Hw6 := Lib.hid (HQ5.out.below hqw6); have sw6 := hqw6.size; have lxw6 := hxw6.lt)
          | ((go_at_call 18; (with_reducible refine (write_any Hw6.out x.n (fullL x.b) (fullL_len _) hwl (by omega)).mono ?_); rintro e w7 ⟨rfl, Aw7, cw7, hw7, kw7, nw7⟩); have hxw7 := Hw6.out.spares hxw6 kw7 (by decide) (by decide) (by decide) (by decide) (by decide); have y1w7 : w7.cell? ⟨wr.heap.size, 1, none⟩ = some (.int .i64 x.n) := hxw7.cell 1; have y2w7 : w7.cell? ⟨wr.heap.size, 2, none⟩ = some (.slice B m d) := hxw7.cell 2; have Hw7 := Lib.hid hw7; have qw7 : Below base w3 w7 := (hqw6.mono (by omega)).trans (Hw6.out.belowK kw7 (by omega)); have sw7 := qw7.size; have lxw7 := hxw7.lt; clear hw7)
          | fail "no arm")
        have hfin := two_second (HP5.out.below hqw6) hap5 ⟨Aw7, cw7, Hw7.out, kw7, nw7⟩
        rw [← hnx.out] at hfin
        go_wp2
        go_roundw
        case rel => first
          | exact ⟨j + 1, by omega, by go_num, hfin, hbel.trans (qw3.trans qw7)⟩
          | ((repeat apply Exists.intro); exact ⟨⟨j + 1, by omega, by go_num, hfin, hbel.trans (qw3.trans qw7)⟩, rfl⟩)
        case measure => simp [intOf]; omega
      · have hnx := Lib.hid (wrK_no (D := D80) hx hkind)
        have hkB : (x.kind == 1) = false := by rw [beq_eq_false_iff_ne]; exact hkind
        have hfin := Lib.hid (TwoAt.below (p := p) (q := r) ⟨A, c, E, c5, hdp, hdq, hap⟩ ((Below.refl wr.heap.size wr).alloc (Nat.le_refl _) (.cells #[.int .i64 x.kind, .int .i64 x.n, .slice B m d] 31)))
        rw [← hnx.out] at hfin
        clear hkind hdp hdq
        go_wp2
        go_roundw
        case rel => first
          | exact ⟨j + 1, by omega, by go_num, hfin.out, (by (repeat' (first | (with_reducible exact Below.refl _ _) | (with_reducible assumption) | (with_reducible refine Below.drew ?_) | (with_reducible refine below_drewN ?_ _) | (with_reducible refine Below.alloc ?_ ?_ _) | (with_reducible refine Below.setCell ?_ ?_ _) | omega | (simp; done) | (simp; omega))))⟩
          | ((repeat apply Exists.intro); exact ⟨⟨j + 1, by omega, by go_num, hfin.out, (by (repeat' (first | (with_reducible exact Below.refl _ _) | (with_reducible assumption) | (with_reducible refine Below.drew ?_) | (with_reducible refine below_drewN ?_ _) | (with_reducible refine Below.alloc ?_ ?_ _) | (with_reducible refine Below.setCell ?_ ?_ _) | omega | (simp; done) | (simp; omega))))⟩, rfl⟩)
        case measure => simp [intOf]; omega
    · have hj9 : j = n := by omega
      subst hj9
      obtain ⟨k1, k2, k3⟩ := Hc1.out j hn40
      rw [d80_waits] at k3
      clear Hc1
      generalize wrK D80 l1 j = D1 at *
      have hN : D1.waits.length ≤ 40 := by omega
      have hwt := waits_any hdp
      obtain ⟨fl, -⟩ := k1.flush
      obtain ⟨s1, s2⟩ := whole_same k1
      have HP := Lib.hid hdp
      have HQ := Lib.hid hdq
      have S1 := Lib.hid s1
      have S2 := Lib.hid s2
      have FL := Lib.hid fl
      have C2 := Lib.hid (k1.crash (List.replicate D1.waits.length 128))
      clear hdp hdq s1 s2 k3 fl k2
      go_wp2_with (first
        | (go_at_call 23; (with_reducible refine (hwt).mono ?_); rintro e w6 ⟨rfl, rfl⟩)
        | fail "no arm")
      clear hwt
      generalize hNN : D1.waits.length = N at *
      obtain ⟨ws, hws⟩ : ∃ ws, ws = wr := ⟨_, rfl⟩
      rw [← hws] at HP HQ hbel hbs ⊢
      go_loopw [11, 66] (fun v i wr => ∃ (k : Nat) (B : Option Addr) (d : Nat), k ≤ N ∧ i = .int .i64 (k : Nat) ∧ v = .slice B k d ∧ OB wr ws.heap.size 5 B k d (List.replicate k 128) ∧ Below ws.heap.size ws wr) (fun _ i _ => N - (intOf i).toNat)
      case atStart => exact ⟨0, none, 0, by omega, rfl, rfl, Ow.nil _ _ _ _, Below.refl _ _⟩
      case round =>
        obtain ⟨k, B, d, hk, rfl, rfl, hown, hb2⟩ := hrel
        have hb2s := hb2.size
        by_cases hlt2 : k < N
        · have hL : Hid (List.replicate k (128 : UInt8) ++ [128] = List.replicate (k + 1) 128) := List.replicate_succ'.symm
          go_wp2_with (first
            | (at_builtin; refine wpList_app rfl rfl elemU8 bv_one (s := .tmp 68) (N := k + 1) (L := List.replicate (k + 1) 128) rfl (hown.below (b := wr.heap.size) (by (repeat' (first | (with_reducible exact Below.refl _ _) | (with_reducible assumption) | (with_reducible refine Below.drew ?_) | (with_reducible refine below_drewN ?_ _) | (with_reducible refine Below.alloc ?_ ?_ _) | (with_reducible refine Below.setCell ?_ ?_ _) | omega | (simp; done) | (simp; omega)))) (by first | omega | (simp; done) | (simp; omega))) rfl (k := [(128 : UInt8)]) (Rd.of_block (l := [(128 : UInt8)]) (heap_top _ _ (by simp)) rfl) rfl (hL.out) (by unfold maxLen; omega) (by omega) (by first | omega | (simp; done) | (simp; omega)) ?_; intro A5 c5 w5 hown5 hg5 hat5 hb5)
            | fail "no arm")
          have hb25 : Below ws.heap.size ws w5 := (hb2.alloc hb2s _).trans hb5
          go_roundw
          case rel => first
            | exact ⟨k + 1, A5, c5, by omega, by go_num, rfl, hown5, hb25⟩
            | ((repeat apply Exists.intro); exact ⟨⟨k + 1, A5, c5, by omega, by go_num, rfl, hown5, hb25⟩, rfl⟩)
          case measure => simp [intOf]; omega
        · have hk9 : k = N := by omega
          subst hk9
          have hcr := crash_any (HP.out.below hb2) B k d (List.replicate k 128) hown.rd.rb (fun _ g hg e => by have := HP.out.lt g hg; have := hown.lt g e; omega) (by unfold maxLen; omega)
          have hfl : ∀ {w : World} {B : Option Addr} {b : Nat}, DiskAt w base r B b D1 → Calls Try.prog 20 #[.pointer (some ⟨r.d, 0, none⟩)] w fun e w' => e = .returned (.int .i64 0) ∧ DiskNext w base r B (flushD (goesV D1 3)) w' := fun h => by have := flush_any h; rw [FL.out] at this; exact this
          have hroom : (crashV D1 (List.replicate k 128)).room = (flushD (goesV D1 3)).room := rfl
          have hc0 : (crashV D1 (List.replicate k 128)).inuse = (crashV D1 (List.replicate k 128)).might := rfl
          have hw0 : (crashV D1 (List.replicate k 128)).waits = [] := rfl
          have hm0 : (crashV D1 (List.replicate k 128)).many = D1.many := rfl
          have hHP := HP.out.below hb2
          have hHQ := HQ.out.below hb2
          generalize crashV D1 (List.replicate k 128) = D2 at *
          generalize flushD (goesV D1 3) = E2 at *
          have hlP : ∀ {w : World} {B : Option Addr} {b : Nat}, DiskAt w base p B b D2 → Calls Try.prog 26 #[.pointer (some ⟨p.d, 0, none⟩)] w fun e w' => e = .returned (.int .i64 (D2.room - (trues D2.might : Nat))) ∧ w = w' := fun h => left_any h
          have hlQ : ∀ {w : World} {B : Option Addr} {b : Nat}, DiskAt w base r B b E2 → Calls Try.prog 26 #[.pointer (some ⟨r.d, 0, none⟩)] w fun e w' => e = .returned (.int .i64 (D2.room - (trues D2.might : Nat))) ∧ w = w' := fun h => by have := left_any h; rw [← hroom, ← S2.out] at this; exact this
          have Hlv := Lib.hid hroom
          obtain ⟨lv, hlv⟩ : ∃ lv, lv = D2.room - (trues D2.might : Nat) := ⟨_, rfl⟩
          rw [← hlv] at hlP hlQ
          have HLV := Lib.hid hlv
          have HC0 := Lib.hid hc0
          have HW0 := Lib.hid hw0
          have XP := Lib.hid hHP
          have XQ := Lib.hid hHQ
          have hwsl : ws.heap.size ≤ wr.heap.size := hb2s
          have hbel2 : Below base w wr := hbel.trans (hb2.mono (by omega))
          clear hroom hc0 hw0 hm0 hHP hHQ hlv
          go_wp2_with (first
            | ((go_at_call 22; (with_reducible refine (hcr).mono ?_); rintro e w10 ⟨rfl, hN10⟩); have k10 := (show Keep (foot p A) wr w10 from (by obtain ⟨_, _, _, k, _⟩ := hN10; exact k)); have b10 : Below base wr w10 := XP.out.belowK k10 (by omega); have s10 := b10.size; obtain ⟨A1, a1, B1, b1, hp1, hq1, hap1⟩ := two_first XQ.out hap hN10; have P10 := Lib.hid hp1; have Q10 := Lib.hid hq1; clear hp1 hq1 hN10)
            | ((go_at_call 20; (with_reducible refine (hfl Q10.out).mono ?_); rintro e w11 ⟨rfl, hN11⟩); have k11 := (show Keep (foot r B1) w10 w11 from (by obtain ⟨_, _, _, k, _⟩ := hN11; exact k)); have b11 : Below base wr w11 := b10.trans (Q10.out.belowK k11 (by omega)); have s11 := b11.size; obtain ⟨A2, a2, B2, b2, hp2, hq2, hap2⟩ := two_second P10.out hap1 hN11; have P11 := Lib.hid hp2; have Q11 := Lib.hid hq2; clear hp2 hq2 hN11)
            | ((go_at_call 25; (with_reducible refine (image_any P11.out).mono ?_); rintro e w12 ⟨I1, n1, i1, rfl, o12, b12⟩); have P12 := Lib.hid (P11.out.below b12); have Q12 := Lib.hid (Q11.out.below b12); have s12 := b12.size)
            | ((go_at_call 25; (with_reducible refine (image_any Q12.out).mono ?_); rintro e w13 ⟨I2, n2, i2, rfl, o13, b13⟩); have P13 := Lib.hid (P12.out.below b13); have Q13 := Lib.hid (Q12.out.below b13); have s13 := b13.size; have o12' := o12.below b13 (Nat.le_refl _); have c12 := o12'.cap)
            | ((go_at_call 24; (with_reducible refine (same_any I1 I2 n1 n2 i1 i2 _ _ w13 o12'.rd.rb o13.rd.rb (by omega)).mono ?_); rintro e w14 ⟨he14, q14, rfl⟩); rw [decide_eq_true S1.out] at he14; subst he14; have P14 := Lib.hid (P13.out.drewN q14); have Q14 := Lib.hid (Q13.out.drewN q14))
            | (go_at_call 26; (with_reducible refine (hlP P14.out).mono ?_); rintro e w15 ⟨rfl, rfl⟩)
            | (go_at_call 26; (with_reducible refine (hlQ Q14.out).mono ?_); rintro e w15 ⟨rfl, rfl⟩)
            | ((go_at_call 25; (with_reducible refine (image_any P14.out).mono ?_); rintro e w16 ⟨I3, n3, i3, rfl, o16, b16⟩); have P16 := Lib.hid (P14.out.below b16); have s16 := b16.size; have c16 := o16.cap; have b16' : Below base wr w16 := ((b11.trans (b12.mono (by omega))).trans (b13.mono (by omega))).trans ((below_drewN (Below.refl _ _) q14).trans (b16.mono (by simp; omega))))
            | (go_at_call 26; (with_reducible refine (hlP P16.out).mono ?_); rintro e w17 ⟨rfl, rfl⟩)
            | fail "no arm")
          have hbel3 : Below base w w16 := hbel2.trans b16'
          have hcalm3 := fun j (hj : j ≤ 40) => wrK_calm C2.out l2 j (by rw [HW0.out]; simp; omega)
          have HC3 := Lib.hid hcalm3
          have O16 := Lib.hid o16
          clear hcr hfl hlQ XP XQ P10 Q10 P11 Q11 P12 Q12 P13 Q13 P14 Q14 o12 o13 o12' o16 hown HP HQ hcalm3
          go_loopw [15, 99] (fun _ i wr => ∃ j : Nat, j ≤ m0 ∧ i = .int .i64 (j : Nat) ∧ DiskS wr base p (wrK D2 l2 j) ∧ OB wr (w13.drewN q14).heap.size 5 I3 n3 i3 D2.kept ∧ Below base w wr) (fun _ i _ => m0 - (intOf i).toNat)
          case atStart => exact ⟨0, by omega, rfl, P16.out.s, O16.out, hbel3⟩
          case round =>
            obtain ⟨j2, hj2, rfl, ⟨A, c, hd⟩, hio, hbel⟩ := hrel
            have hbs := hbel.size
            by_cases hlt : j2 < m0
            · obtain ⟨x, hx⟩ : ∃ x, l2[j2]? = some x := ⟨_, List.getElem?_eq_getElem (by rw [h2.1]; exact hlt)⟩
              obtain ⟨b, o, B, m, d, rfl, hr0, hmd, hdm, _, hget⟩ := h2.get hx
              obtain ⟨hb, e0, e1, e2⟩ := hget wr base hbel (by omega)
              have hmm : m ≤ maxLen := by omega
              have hr := hr0.below hbel (by omega)
              clear hget
              by_cases hkind : x.kind = 1
              · have hnx := Lib.hid (wrK_yes (D := D2) hx hkind)
                have hkB : (x.kind == 1) = true := by rw [hkind]; rfl
                have hwl : (wrK D2 l2 j2).waits.length < 1000000 := by have := (HC3.out j2 (by omega)).2.2; rw [HW0.out] at this; simp at this; omega
                have HD := Lib.hid hd
                have HIO := Lib.hid hio
                clear hd hkind hio hx
                go_wp2
                go_region_held3 (fun w' => w'.cell? ⟨wr.heap.size, 1, none⟩ = some (.int .i64 x.n) ∧ w'.cell? ⟨wr.heap.size, 2, none⟩ = some (.slice B m d)) (first | go_keep | (refine ⟨?_, ?_⟩ <;> assumption)) (first
                  | ((go_at_call 19; (with_reducible refine (full_any B m d x.b _ (hr.below (B := wr.heap.size) (by (repeat' (first | (with_reducible exact Below.refl _ _) | (with_reducible assumption) | (with_reducible refine Below.drew ?_) | (with_reducible refine below_drewN ?_ _) | (with_reducible refine Below.alloc ?_ ?_ _) | (with_reducible refine Below.setCell ?_ ?_ _) | omega | (simp; done) | (simp; omega)))) (Nat.le_refl _)) hmm).mono ?_); rintro e w2 ⟨rfl, hbw2⟩); have hxw2 := Blk.below (w' := w2) (g := wr.heap.size) (t := 31) (cs := [.int .i64 x.kind, .int .i64 x.n, .slice B m d]) (by (repeat' (first | (with_reducible assumption) | (with_reducible refine Blk.top _ (by first | rfl | omega | (simp; done) | (simp; omega)) rfl) | (with_reducible refine Blk.alloc ?_ _) | (with_reducible refine Blk.drew ?_) | (with_reducible refine Blk.drewN ?_ _) | (with_reducible refine Blk.far ?_ (by first | omega | (simp; done) | (simp; omega)) _)))) hbw2 (by first | omega | (simp; done) | (simp; omega)); have y1w2 : w2.cell? ⟨wr.heap.size, 1, none⟩ = some (.int .i64 x.n) := hxw2.cell 1; have y2w2 : w2.cell? ⟨wr.heap.size, 2, none⟩ = some (.slice B m d) := hxw2.cell 2; have hqw2 : Below wr.heap.size wr w2 := below_then' (by (repeat' (first | (with_reducible exact Below.refl _ _) | (with_reducible assumption) | (with_reducible refine Below.drew ?_) | (with_reducible refine below_drewN ?_ _) | (with_reducible refine Below.alloc ?_ ?_ _) | (with_reducible refine Below.setCell ?_ ?_ _) | omega | (simp; done) | (simp; omega)))) hbw2 (by first | omega | (simp; done) | (simp; omega)); have Hw2 := Lib.hid (HD.out.below hqw2); have sw2 := hqw2.size; have lxw2 := hxw2.lt)
                  | ((go_at_call 18; (with_reducible refine (write_any Hw2.out x.n (fullL x.b) (fullL_len _) hwl (by omega)).mono ?_); rintro e w3 ⟨rfl, Aw3, cw3, hw3, kw3, nw3⟩); have hxw3 := Hw2.out.spares hxw2 kw3 (by decide) (by decide) (by decide) (by decide) (by decide); have y1w3 : w3.cell? ⟨wr.heap.size, 1, none⟩ = some (.int .i64 x.n) := hxw3.cell 1; have y2w3 : w3.cell? ⟨wr.heap.size, 2, none⟩ = some (.slice B m d) := hxw3.cell 2; have Hw3 := Lib.hid hw3; have qw3 : Below base wr w3 := (hqw2.mono (by omega)).trans (Hw2.out.belowK kw3 (by omega)); have sw3 := qw3.size; have lxw3 := hxw3.lt; clear hw3)
                  | fail "no arm")
                have hio3 := Hw2.out.sparesOw (HIO.out.below hqw2 (Nat.le_refl _)) kw3 (by decide) (by decide) (by decide) (by decide) (by decide)
                have hfin : DiskS w3 base p (wrK D2 l2 (j2 + 1)) := by rw [hnx.out]; exact Hw3.out.s
                go_wp2
                go_roundw
                case rel => first
                  | exact ⟨j2 + 1, by omega, by go_num, hfin, hio3, hbel.trans qw3⟩
                  | ((repeat apply Exists.intro); exact ⟨⟨j2 + 1, by omega, by go_num, hfin, hio3, hbel.trans qw3⟩, rfl⟩)
                case measure => simp [intOf]; omega
              · have hnx := Lib.hid (wrK_no (D := D2) hx hkind)
                have hkB : (x.kind == 1) = false := by rw [beq_eq_false_iff_ne]; exact hkind
                have HD := Lib.hid hd
                have HIO := Lib.hid hio
                clear hd hkind hio hx
                have hbA : Below wr.heap.size wr (wr.alloc (.cells #[.int .i64 x.kind, .int .i64 x.n, .slice B m d] 31)) := (Below.refl _ _).alloc (Nat.le_refl _) _
                have hfin : Hid (DiskS (wr.alloc (.cells #[.int .i64 x.kind, .int .i64 x.n, .slice B m d] 31)) base p (wrK D2 l2 (j2 + 1))) := by show DiskS _ _ _ _; rw [hnx.out]; exact (HD.out.alloc _).s
                have hio3 := Lib.hid (HIO.out.below hbA (Nat.le_refl _))
                clear hbA
                go_wp2
                go_roundw
                case rel => first
                  | exact ⟨j2 + 1, by omega, by go_num, hfin.out, hio3.out, (by (repeat' (first | (with_reducible exact Below.refl _ _) | (with_reducible assumption) | (with_reducible refine Below.drew ?_) | (with_reducible refine below_drewN ?_ _) | (with_reducible refine Below.alloc ?_ ?_ _) | (with_reducible refine Below.setCell ?_ ?_ _) | omega | (simp; done) | (simp; omega))))⟩
                  | ((repeat apply Exists.intro); exact ⟨⟨j2 + 1, by omega, by go_num, hfin.out, hio3.out, (by (repeat' (first | (with_reducible exact Below.refl _ _) | (with_reducible assumption) | (with_reducible refine Below.drew ?_) | (with_reducible refine below_drewN ?_ _) | (with_reducible refine Below.alloc ?_ ?_ _) | (with_reducible refine Below.setCell ?_ ?_ _) | omega | (simp; done) | (simp; omega))))⟩, rfl⟩)
                case measure => simp [intOf]; omega
            · have hj9 : j2 = m0 := by omega
              subst hj9
              have hcr := crash_any hd none 0 0 [] ⟨rfl, Row.nil _ _ _⟩ (fun h0 => absurd h0 (by omega)) (by unfold maxLen; omega)
              obtain ⟨d1, d2, d3, d4⟩ := crash_none (wrK D2 l2 j2)
              rw [wrK_kept] at d1
              rw [(wrK_inuse D2 l2 j2).1] at d2
              rw [(wrK_inuse D2 l2 j2).2] at d4
              have HD := Lib.hid hd
              have HIO := Lib.hid hio
              generalize crashV (wrK D2 l2 j2) [] = D4 at *
              have hl4 : ∀ {w : World} {B : Option Addr} {b : Nat}, DiskAt w base p B b D4 → Calls Try.prog 26 #[.pointer (some ⟨p.d, 0, none⟩)] w fun e w' => e = .returned (.int .i64 lv) ∧ w = w' := fun h => by have := left_any h; rw [d2, d4, HC0.out, ← HLV.out] at this; exact this
              have hw4 : ∀ {w : World} {B : Option Addr} {b : Nat}, DiskAt w base p B b D4 → Calls Try.prog 23 #[.pointer (some ⟨p.d, 0, none⟩)] w fun e w' => e = .returned (.int .i64 0) ∧ w = w' := fun h => by have := waits_any h; rw [d3] at this; exact this
              have D1 := Lib.hid d1
              clear hd hio d1 d2 d3 d4 hlP
              go_wp2_with (first
                | ((go_at_call 22; (with_reducible refine (hcr).mono ?_); rintro e w20 ⟨rfl, A20, a20, h20, k20, n20⟩); have P20 := Lib.hid h20; have b20 : Below base wr w20 := HD.out.belowK k20 (by omega); have s20 := b20.size; have io20 := HD.out.sparesOw HIO.out k20 (by decide) (by decide) (by decide) (by decide) (by decide); clear h20)
                | ((go_at_call 25; (with_reducible refine (image_any P20.out).mono ?_); rintro e w21 ⟨I5, n5, i5, rfl, o21, b21⟩); have P21 := Lib.hid (P20.out.below b21); have s21 := b21.size; have io21 := io20.below b21 (Nat.le_refl _); have c21 := o21.cap)
                | ((go_at_call 24; (with_reducible refine (same_any I5 I3 n5 n3 i5 i3 _ _ w21 o21.rd.rb io21.rd.rb (by omega)).mono ?_); rintro e w22 ⟨he22, q22, rfl⟩); rw [decide_eq_true D1.out] at he22; subst he22; have P22 := Lib.hid (P21.out.drewN q22); have b22 : Below base w (w21.drewN q22) := below_drewN ((hbel.trans b20).trans (b21.mono (by omega))) q22)
                | (go_at_call 26; (with_reducible refine (hl4 P22.out).mono ?_); rintro e w23 ⟨rfl, rfl⟩)
                | (go_at_call 23; (with_reducible refine (hw4 P22.out).mono ?_); rintro e w23 ⟨rfl, rfl⟩)
                | fail "no arm")
              go_ret
              exact ⟨rfl, by rw [hbase]; exact b22⟩
theorem walk (w : World) (v0 : Value) (h0 : ∃ A n c l, v0 = .slice A n c ∧ DosRd w A n l ∧ n ≤ c ∧ c ≤ maxLen) (v1 : Value) (h1 : ∃ A n c l, v1 = .slice A n c ∧ DosRd w A n l ∧ n ≤ c ∧ c ≤ maxLen) :
    Calls Try.prog 4 #[v0, v1] w fun e w' => e = .returned (.bool true) ∧ Below w.heap.size w w' := by
  obtain ⟨A, n, c, l1, rfl, r1, nc1, cm1⟩ := h0
  obtain ⟨B, m, d, l2, rfl, r2, nc2, cm2⟩ := h1
  by_cases h : few6B l1 = true ∧ few6B l2 = true
  · exact walk_main A B n m c d l1 l2 w r1 r2 (by omega) (by omega) h.1 h.2
  · exact walk_big A B n m c d l1 l2 w r1 r2 (by omega) (by omega) h

--FRAME tompionlaw06 DiskWhole diskWhole walk raw:[]tompionlaw06.Do:args_dos:.slice‹_›none‹_›0‹_›0 raw:[]tompionlaw06.Do:args_dos:.slice‹_›none‹_›0‹_›0
theorem own : ownKnob Try.prog.godebug = none := by kernel_rfl
theorem laidOut : laidOutB Try.prog = true := by kernel_rfl

set_option maxRecDepth 100000 in
theorem lifted (os : Os) (started : os.Started) (H : Type) (enc : TypeId × Value → H) :
    ReturnsInHanded {} Try.checked os 4 .any (Rows.diskWholeSpec.pre6 enc Try.prog Try.f4 Rows.diskWholeRow.domain false) (Rows.diskWholeSpec.post enc Try.prog Try.f4 false true false false) := by
  refine returnsInHanded_of_change (C := Try.checked) own started (by kernel_rfl) Try.func4
    (ChangeSpec.witness6 (enc := enc) (C := Try.checked) false ⟨#[], #[.slice none 0 0, .slice none 0 0], []⟩ 8 (by kernel_rfl) (by kernel_rfl) (by kernel_rfl) (by kernel_rfl)) ?_
  intro W base args ds gs before hval0 hW hcnd _
  have hval : ∀ (j : Nat) t v, Try.f4.params[j]? = some t → args[j]? = some v → Value.okWide Try.prog W .any base t v := hval0
  have hW' := hW
  obtain ⟨p, q, hA0, hV, rfl, hfz, hnd⟩ := hW
  have hA : DataW.TrodAll enc Try.prog W 0 (fun _ => true) true Try.f4.params.toList args.toList ds p := hA0
  rw [Try.params4] at hA hval
  obtain ⟨v0, vs0, d0, ds0, p0, q0, hargs, rfl, rfl, h0, rr0⟩ := trodAll_cons hA
  obtain ⟨v1, vs1, d1, ds1, p1, q1, rfl, rfl, rfl, h1, rr1⟩ := trodAll_cons rr0
  obtain ⟨rfl, rfl, rfl⟩ := trodAll_nil rr1
  obtain rfl : args = #[v0, v1] := by cases args; simp_all
  obtain ⟨rfl, rfl⟩ := trodVars_none hV
  have k0 := h0
  have lt0 : ∀ x ∈ p0, x.block < W.heap.size := by obtain ⟨m, hm⟩ := k0; exact DataW.trod_lt m _ _ _ hm
  have x0 := args_dos (hval 0 22 v0 rfl rfl) h0
  have k1 := h1
  have lt1 : ∀ x ∈ p1, x.block < W.heap.size := by obtain ⟨m, hm⟩ := k1; exact DataW.trod_lt m _ _ _ hm
  have x1 := args_dos (hval 1 22 v1 rfl rfl) h1
  clear hA0 hval0
  refine (walk W v0 x0 v1 x1).mono fun e W' ⟨he, bel⟩ => ?_
  subst he
  exact ⟨_, rfl, _, _, _, [], _, [], hW', trodAll_mk1 (shut_bool Try.underlying4 _), (trodAll_cons_mk (Below.trod laidOut (by kernel_rfl) (of_decide_eq_true (by kernel_rfl)) k0 bel lt0) (trodAll_cons_mk (Below.trod laidOut (by kernel_rfl) (of_decide_eq_true (by kernel_rfl)) k1 bel lt1) trodAll_mk0)), rfl, bel.frame _, fun h => by cases h⟩

theorem over : Rows.diskWholeRow.holds Try.pinned (OpenSpec.ofChange Rows.diskWholeSpec) :=
  OpenClaim.holds_of_wide 4 Try.f4 rfl rfl rfl rfl rfl rfl rfl ⟨rfl, rfl, rfl, rfl, rfl⟩ rfl rfl rfl rfl rfl (by kernel_rfl) Try.func4 (by kernel_rfl)
    (of_decide_eq_true (by kernel_rfl)) (by unfold Func.isWrapper; first | (rw [if_pos (by decide +kernel)]; kernel_rfl) | (rw [if_neg (by decide +kernel)]; exact ⟨rfl, rfl⟩))
    (fun os started H enc _ => lifted os started H enc)

theorem proved : Rows.DiskWholeSaid := over
--ENDFRAME
end Go.Proofs.Ytninidpbchcliaa.diskWhole
