/- Contracts of package state and of its reference: which snapshots fit; are two one? -/
import Derived.Test.YthplicnidknphaaStateA
namespace Go.Proofs.Ythplicnidknphaa
open Go.RowKit

def snapB (s s' : SV) : Bool := (s.tick == s'.tick) && ((s.hash == s'.hash) && decide (s.cells = s'.cells))
theorem snapB_true {s s' : SV} : snapB s s' = true ↔ s = s' := by
  cases s; cases s'; simp [snapB]

theorem statesame_any (t h t' h' : Int) (A B : Option Addr) (n m c d : Nat) (l k : List Int) (w : World) (ha : RI w A n l) (hb : RI w B m k) (hn : n ≤ maxLen) :
    Calls Try.prog 34 #[.agg #[.int .i64 t, .int .i64 h, .slice A n c], .agg #[.int .i64 t', .int .i64 h', .slice B m d]] w fun e w' => e = .returned (.bool (snapB ⟨t, h, l⟩ ⟨t', h', k⟩)) ∧ Below w.heap.size w w' := by
  have hh := fun w a b => eqints_any A B n m c d l k w a b hn
  unfold snapB
  simp only
  generalize decide (l = k) = z at *
  have hbel : Below w.heap.size w ((w.alloc (.cells #[.int .i64 t, .int .i64 h, .slice A n c] 44)).alloc (.cells #[.int .i64 t', .int .i64 h', .slice B m d] 44)) := (by (repeat' (first | (with_reducible exact Below.refl _ _) | (with_reducible assumption) | (with_reducible refine Below.drew ?_) | (with_reducible refine below_drewN ?_ _) | (with_reducible refine Below.alloc ?_ ?_ _) | (with_reducible refine Below.setCell ?_ ?_ _) | omega | (simp; done) | (simp; omega))))
  have R := ha.below hbel (Nat.le_refl _)
  have S := hb.below hbel (Nat.le_refl _)
  clear ha hb hbel hn
  cases h1 : t == t' with
  | false =>
    go_enter Try.func34, Try.ntmps34
    go_wp2
    go_ret
    exact ⟨rfl, (by (repeat' (first | (with_reducible exact Below.refl _ _) | (with_reducible assumption) | (with_reducible refine Below.drew ?_) | (with_reducible refine below_drewN ?_ _) | (with_reducible refine Below.alloc ?_ ?_ _) | (with_reducible refine Below.setCell ?_ ?_ _) | omega | (simp; done) | (simp; omega))))⟩
  | true =>
    cases h2 : h == h' with
    | false =>
      go_enter Try.func34, Try.ntmps34
      go_wp2
      go_ret
      exact ⟨rfl, (by (repeat' (first | (with_reducible exact Below.refl _ _) | (with_reducible assumption) | (with_reducible refine Below.drew ?_) | (with_reducible refine below_drewN ?_ _) | (with_reducible refine Below.alloc ?_ ?_ _) | (with_reducible refine Below.setCell ?_ ?_ _) | omega | (simp; done) | (simp; omega))))⟩
    | true =>
      cases z
      all_goals
        go_enter Try.func34, Try.ntmps34
        go_wp2_with (go_at_call 73; (with_reducible refine (hh _ R S).mono ?_); rintro e w1 ⟨rfl, q1, rfl⟩)
        go_ret
        exact ⟨rfl, (by (repeat' (first | (with_reducible exact Below.refl _ _) | (with_reducible assumption) | (with_reducible refine Below.drew ?_) | (with_reducible refine below_drewN ?_ _) | (with_reducible refine Below.alloc ?_ ?_ _) | (with_reducible refine Below.setCell ?_ ?_ _) | omega | (simp; done) | (simp; omega))))⟩

theorem refstatesame_any (t h t' h' : Int) (A B : Option Addr) (n m c d : Nat) (l k : List Int) (w : World) (ha : RI w A n l) (hb : RI w B m k) (hn : n ≤ maxLen) :
    Calls Try.prog 35 #[.agg #[.int .i64 t, .int .i64 h, .slice A n c], .agg #[.int .i64 t', .int .i64 h', .slice B m d]] w fun e w' => e = .returned (.bool (snapB ⟨t, h, l⟩ ⟨t', h', k⟩)) ∧ Below w.heap.size w w' := by
  have hh := fun w a b => ints_any A B n m c d l k w a b hn
  unfold snapB
  simp only
  generalize decide (l = k) = z at *
  have hbel : Below w.heap.size w ((w.alloc (.cells #[.int .i64 t, .int .i64 h, .slice A n c] 44)).alloc (.cells #[.int .i64 t', .int .i64 h', .slice B m d] 44)) := (by (repeat' (first | (with_reducible exact Below.refl _ _) | (with_reducible assumption) | (with_reducible refine Below.drew ?_) | (with_reducible refine below_drewN ?_ _) | (with_reducible refine Below.alloc ?_ ?_ _) | (with_reducible refine Below.setCell ?_ ?_ _) | omega | (simp; done) | (simp; omega))))
  have R := ha.below hbel (Nat.le_refl _)
  have S := hb.below hbel (Nat.le_refl _)
  clear ha hb hbel hn
  cases h1 : t == t' with
  | false =>
    go_enter Try.func35, Try.ntmps35
    go_wp2
    go_ret
    exact ⟨rfl, (by (repeat' (first | (with_reducible exact Below.refl _ _) | (with_reducible assumption) | (with_reducible refine Below.drew ?_) | (with_reducible refine below_drewN ?_ _) | (with_reducible refine Below.alloc ?_ ?_ _) | (with_reducible refine Below.setCell ?_ ?_ _) | omega | (simp; done) | (simp; omega))))⟩
  | true =>
    cases h2 : h == h' with
    | false =>
      go_enter Try.func35, Try.ntmps35
      go_wp2
      go_ret
      exact ⟨rfl, (by (repeat' (first | (with_reducible exact Below.refl _ _) | (with_reducible assumption) | (with_reducible refine Below.drew ?_) | (with_reducible refine below_drewN ?_ _) | (with_reducible refine Below.alloc ?_ ?_ _) | (with_reducible refine Below.setCell ?_ ?_ _) | omega | (simp; done) | (simp; omega))))⟩
    | true =>
      cases z
      all_goals
        go_enter Try.func35, Try.ntmps35
        go_wp2_with (go_at_call 28; (with_reducible refine (hh _ R S).mono ?_); rintro e w1 ⟨rfl, q1, rfl⟩)
        go_ret
        exact ⟨rfl, (by (repeat' (first | (with_reducible exact Below.refl _ _) | (with_reducible assumption) | (with_reducible refine Below.drew ?_) | (with_reducible refine below_drewN ?_ _) | (with_reducible refine Below.alloc ?_ ?_ _) | (with_reducible refine Below.setCell ?_ ?_ _) | omega | (simp; done) | (simp; omega))))⟩

theorem valueB_okAt {t f v : Int} (h : valueB t f = true) : valueB t v = okAt t v := by
  unfold valueB at h ⊢
  unfold okAt
  simp only [Bool.or_eq_true, Bool.and_eq_true, beq_iff_eq] at h
  rcases h with rfl | ⟨rfl, _⟩
  · simp
  · simp

set_option maxRecDepth 100000 in
set_option maxHeartbeats 4000000 in
theorem ref29fits_any (x : PA) (p : PV) (B : Option Addr) (m d : Nat) (l : List Int) (w : World) (h : ProgRd w x p) (hl : RI w B m l) (hm : m ≤ maxLen) :
    Calls Try.prog 72 #[.agg #[.slice x.A1 x.n1 x.c1, .slice x.A2 x.n2 x.c2, .int .i64 p.regs, .slice x.A3 x.n3 x.c3, .slice x.A4 x.n4 x.c4], .slice B m d] w
      fun e w' => e = .returned (.bool (decide (l.length = p.cells.length) && allK p.cells.length (fun i => valueB (cellAt p.cells i).1 (intAt l i)))) ∧ Below w.heap.size w w' := by
  obtain ⟨r1, r2, r3, r4, k1, k2, k3, k4⟩ := h
  obtain ⟨A1, n1, c1, A2, n2, c2, A3, n3, c3, A4, n4, c4⟩ := x
  obtain ⟨ins, outs, regs, cells, code⟩ := p
  simp only at r1 r2 r3 r4 k1 k2 k3 k4 ⊢
  have hI : (decide (l.length = cells.length) && allK cells.length (fun i => valueB (cellAt cells i).1 (intAt l i))) = true ↔ m = n3 ∧ ∀ i, i < n3 → valueB (cellAt cells i).1 (intAt l i) = true := by
    simp only [Bool.and_eq_true, allK_true, decide_eq_true_eq]
    rw [r3.1, hl.1]
  generalize (decide (l.length = cells.length) && allK cells.length (fun i => valueB (cellAt cells i).1 (intAt l i))) = z at *
  have HI := Lib.hid hI
  clear hI
  have M3 : n3 ≤ 9223372036854775807 := by have := k3.1; have := k3.2; unfold maxLen at this; omega
  have M4 : m ≤ 9223372036854775807 := by unfold maxLen at hm; omega
  clear k1 k2 k3 k4 r1 r2 r4 hm
  by_cases hmn : m = n3
  · subst hmn
    have f3 : (((m : Nat) : Int) != (m : Int)) = false := by simp
    have HZ : Hid (z = true ↔ ∀ i, i < m → valueB (cellAt cells i).1 (intAt l i) = true) := by
      have h9 := HI.out
      show _ ↔ _
      constructor
      · intro h; exact (h9.1 h).2
      · intro h; exact h9.2 ⟨rfl, h⟩
    clear HI
    go_enter Try.func72, Try.ntmps72
    go_wp2
    go_loopw [5] (fun i wr => ∃ k : Nat, k ≤ m ∧ i = .int .i64 (k : Nat) ∧ Hid (∀ i, i < k → valueB (cellAt cells i).1 (intAt l i) = true) ∧ Below w.heap.size w wr ∧ w.heap.size < wr.heap.size ∧
        Blk wr w.heap.size 42 [.slice A1 n1 c1, .slice A2 n2 c2, .int .i64 regs, .slice A3 m c3, .slice A4 n4 c4]) (fun i _ => m - (intOf i).toNat)
    case atStart => exact ⟨0, by omega, rfl, fun i hi => absurd hi (by omega), (by (repeat' (first | (with_reducible exact Below.refl _ _) | (with_reducible assumption) | (with_reducible refine Below.drew ?_) | (with_reducible refine below_drewN ?_ _) | (with_reducible refine Below.alloc ?_ ?_ _) | (with_reducible refine Below.setCell ?_ ?_ _) | omega | (simp; done) | (simp; omega)))), by simp, (by (repeat' (first | (with_reducible assumption) | (with_reducible refine Blk.top _ (by first | rfl | omega | (simp; done) | (simp; omega)) rfl) | (with_reducible refine Blk.alloc ?_ _) | (with_reducible refine Blk.drew ?_) | (with_reducible refine Blk.drewN ?_ _) | (with_reducible refine Blk.far ?_ (by first | omega | (simp; done) | (simp; omega)) _))))⟩
    case round =>
      obtain ⟨k, hk, rfl, hall, hbel, hsz, hblk⟩ := hrel
      obtain ⟨g0, g1, g2, g3, g4⟩ := blk5 hblk
      by_cases hlt : k < m
      · have hi0 : (0 : Int) ≤ (k : Int) := by omega
        have hi1 : (k : Int) < (m : Int) := by omega
        obtain ⟨b, o, x, rfl, hb, hx, hc⟩ := (r3.below hbel (Nat.le_refl _)).at_ cellE_len (by omega) hlt
        have e0 : wr.cell? ⟨b, o + k * 2, none⟩ = some (.int .i64 x.1) := hc 0 (by omega)
        obtain ⟨b2, o2, rfl, hb2, hc2⟩ := (hl.below hbel (Nat.le_refl _)).at_ hlt
        have hxk := Lib.hid (cellAt_get hx)
        clear hc hx
        obtain ⟨t, f⟩ := x
        simp only at e0
        have hv := fun w => refvalue_any t (intAt l k) w
        cases hvb : valueB t (intAt l k) with
        | true =>
          have hall' : Hid (∀ i, i < k + 1 → valueB (cellAt cells i).1 (intAt l i) = true) := fun i hi => by
            rcases Nat.lt_or_ge i k with h | h
            · exact hall.out i h
            · rw [show i = k from by omega, hxk.out]; exact hvb
          rw [hvb] at hv
          clear hvb hall
          go_wp2
          go_quiet ((go_at_call 74; exact Calls.quiet_of_same ((hv _).mono fun e w' ⟨h1, h2⟩ => ⟨h1, h2.symm⟩)))
          go_wp2
          go_roundw
          case rel => exact ⟨k + 1, by omega, by go_num, hall', (by (repeat' (first | (with_reducible exact Below.refl _ _) | (with_reducible assumption) | (with_reducible refine Below.drew ?_) | (with_reducible refine below_drewN ?_ _) | (with_reducible refine Below.alloc ?_ ?_ _) | (with_reducible refine Below.setCell ?_ ?_ _) | omega | (simp; done) | (simp; omega)))), hsz, hblk⟩
          case measure => simp [intOf]; omega
        | false =>
          have hz : Hid (z = false) := by
            show z = false
            rw [Bool.eq_false_iff]
            intro hc
            have h9 := HZ.out.1 hc k hlt
            rw [hxk.out, hvb] at h9
            cases h9
          rw [hvb] at hv
          clear hvb hall
          go_wp2
          go_quiet ((go_at_call 74; exact Calls.quiet_of_same ((hv _).mono fun e w' ⟨h1, h2⟩ => ⟨h1, h2.symm⟩)))
          go_wp2
          go_ret
          exact ⟨ret_bool hz.out.symm, (by (repeat' (first | (with_reducible exact Below.refl _ _) | (with_reducible assumption) | (with_reducible refine Below.drew ?_) | (with_reducible refine below_drewN ?_ _) | (with_reducible refine Below.alloc ?_ ?_ _) | (with_reducible refine Below.setCell ?_ ?_ _) | omega | (simp; done) | (simp; omega))))⟩
      · have hkn : k = m := by omega
        subst hkn
        have hge : (k : Int) ≤ (k : Int) := by omega
        have hz : Hid (z = true) := HZ.out.2 hall.out
        clear HZ hall
        go_wp2
        go_ret
        exact ⟨ret_bool hz.out.symm, hbel⟩
  · have f3 : (((m : Nat) : Int) != (n3 : Int)) = true := by rw [bne_iff_ne]; omega
    have hz : Hid (z = false) := by
      show z = false
      rw [Bool.eq_false_iff]
      exact fun hc => hmn (HI.out.1 hc).1
    clear HI hmn
    go_enter Try.func72, Try.ntmps72
    go_wp2
    go_ret
    exact ⟨ret_bool hz.out.symm, (by (repeat' (first | (with_reducible exact Below.refl _ _) | (with_reducible assumption) | (with_reducible refine Below.drew ?_) | (with_reducible refine below_drewN ?_ _) | (with_reducible refine Below.alloc ?_ ?_ _) | (with_reducible refine Below.setCell ?_ ?_ _) | omega | (simp; done) | (simp; omega))))⟩

set_option maxHeartbeats 1000000 in
theorem refstatefits_any (x : PA) (p : PV) (tick hash : Int) (B : Option Addr) (m d : Nat) (l : List Int) (w : World) (h : ProgRd w x p) (hl : RI w B m l) (hm : m ≤ maxLen) :
    Calls Try.prog 33 #[.agg #[.slice x.A1 x.n1 x.c1, .slice x.A2 x.n2 x.c2, .int .i64 p.regs, .slice x.A3 x.n3 x.c3, .slice x.A4 x.n4 x.c4], .agg #[.int .i64 tick, .int .i64 hash, .slice B m d]] w
      fun e w' => e = .returned (.bool (stFits p ⟨tick, hash, l⟩)) ∧ Below w.heap.size w w' := by
  have hmay := fun w h => refmay_any x p w h
  have h29 := fun w h h' => ref29fits_any x p B m d l w h h' hm
  unfold stFits
  simp only
  have hp0 : Blk ((w.alloc (.cells #[.slice x.A1 x.n1 x.c1, .slice x.A2 x.n2 x.c2, .int .i64 p.regs, .slice x.A3 x.n3 x.c3, .slice x.A4 x.n4 x.c4] 42)).alloc (.cells #[.int .i64 tick, .int .i64 hash, .slice B m d] 44)) w.heap.size 42 [.slice x.A1 x.n1 x.c1, .slice x.A2 x.n2 x.c2, .int .i64 p.regs, .slice x.A3 x.n3 x.c3, .slice x.A4 x.n4 x.c4] := (by (repeat' (first | (with_reducible assumption) | (with_reducible refine Blk.top _ (by first | rfl | omega | (simp; done) | (simp; omega)) rfl) | (with_reducible refine Blk.alloc ?_ _) | (with_reducible refine Blk.drew ?_) | (with_reducible refine Blk.drewN ?_ _) | (with_reducible refine Blk.far ?_ (by first | omega | (simp; done) | (simp; omega)) _))))
  have hs0 : Blk ((w.alloc (.cells #[.slice x.A1 x.n1 x.c1, .slice x.A2 x.n2 x.c2, .int .i64 p.regs, .slice x.A3 x.n3 x.c3, .slice x.A4 x.n4 x.c4] 42)).alloc (.cells #[.int .i64 tick, .int .i64 hash, .slice B m d] 44)) (w.heap.size + 1) 44 [.int .i64 tick, .int .i64 hash, .slice B m d] := (by (repeat' (first | (with_reducible assumption) | (with_reducible refine Blk.top _ (by first | rfl | omega | (simp; done) | (simp; omega)) rfl) | (with_reducible refine Blk.alloc ?_ _) | (with_reducible refine Blk.drew ?_) | (with_reducible refine Blk.drewN ?_ _) | (with_reducible refine Blk.far ?_ (by first | omega | (simp; done) | (simp; omega)) _))))
  cases hmb : mayB p with
  | false =>
    rw [hmb] at hmay
    clear hmb hp0 hs0
    go_enter Try.func33, Try.ntmps33
    go_wp2_with ((go_at_call 36; (with_reducible refine (hmay _ (h.below (b := w.heap.size) (by (repeat' (first | (with_reducible exact Below.refl _ _) | (with_reducible assumption) | (with_reducible refine Below.drew ?_) | (with_reducible refine below_drewN ?_ _) | (with_reducible refine Below.alloc ?_ ?_ _) | (with_reducible refine Below.setCell ?_ ?_ _) | omega | (simp; done) | (simp; omega)))) (Nat.le_refl _))).mono ?_); rintro e w1 ⟨rfl, hb1⟩); replace hb1 := below_then' (a := w) (B := w.heap.size) (by (repeat' (first | (with_reducible exact Below.refl _ _) | (with_reducible assumption) | (with_reducible refine Below.drew ?_) | (with_reducible refine below_drewN ?_ _) | (with_reducible refine Below.alloc ?_ ?_ _) | (with_reducible refine Below.setCell ?_ ?_ _) | omega | (simp; done) | (simp; omega)))) hb1 (by first | omega | (simp; done) | (simp; omega)); have hb1s := hb1.size)
    go_ret
    exact ⟨rfl, (by (repeat' (first | (with_reducible exact Below.refl _ _) | (with_reducible assumption) | (with_reducible refine Below.drew ?_) | (with_reducible refine below_drewN ?_ _) | (with_reducible refine Below.alloc ?_ ?_ _) | (with_reducible refine Below.setCell ?_ ?_ _) | omega | (simp; done) | (simp; omega))))⟩
  | true =>
    have hok : allK p.cells.length (fun i => valueB (cellAt p.cells i).1 (intAt l i)) = allK p.cells.length (fun i => okAt (cellAt p.cells i).1 (intAt l i)) := by
      rw [Bool.eq_iff_iff, allK_true, allK_true]
      have h7 := (mayB_true.1 hmb).2.2.2.2.2.2.1
      constructor
      · intro h9 i hi; rw [← valueB_okAt (h7 i hi)]; exact h9 i hi
      · intro h9 i hi; rw [valueB_okAt (h7 i hi)]; exact h9 i hi
    rw [hok] at h29
    rw [hmb] at hmay
    generalize (decide (l.length = p.cells.length) && allK p.cells.length (fun i => okAt (cellAt p.cells i).1 (intAt l i))) = z at *
    clear hok hmb
    rcases (show tick < 0 ∨ (0 ≤ tick ∧ hash < 0) ∨ (0 ≤ tick ∧ 0 ≤ hash) by omega) with g1 | ⟨g1, g2⟩ | ⟨g1, g2⟩
    · have e1 : decide (0 ≤ tick) = false := by simp; omega
      rw [e1]
      clear e1
      go_enter Try.func33, Try.ntmps33
      go_wp2_with ((go_at_call 36; (with_reducible refine (hmay _ (h.below (b := w.heap.size) (by (repeat' (first | (with_reducible exact Below.refl _ _) | (with_reducible assumption) | (with_reducible refine Below.drew ?_) | (with_reducible refine below_drewN ?_ _) | (with_reducible refine Below.alloc ?_ ?_ _) | (with_reducible refine Below.setCell ?_ ?_ _) | omega | (simp; done) | (simp; omega)))) (Nat.le_refl _))).mono ?_); rintro e w1 ⟨rfl, hb1⟩); have hp1 := hp0.below (w' := w1) hb1 hp0.lt; have hs1 := hs0.below (w' := w1) hb1 hs0.lt; obtain ⟨y0, y1, y2, y3, y4⟩ := blk5 hp1; obtain ⟨j0, j1, j2⟩ := blk3 hs1; replace hb1 := below_then' (a := w) (B := w.heap.size) (by (repeat' (first | (with_reducible exact Below.refl _ _) | (with_reducible assumption) | (with_reducible refine Below.drew ?_) | (with_reducible refine below_drewN ?_ _) | (with_reducible refine Below.alloc ?_ ?_ _) | (with_reducible refine Below.setCell ?_ ?_ _) | omega | (simp; done) | (simp; omega)))) hb1 (by first | omega | (simp; done) | (simp; omega)); have hb1s := hb1.size)
      go_ret
      exact ⟨ret_bool (by first | rfl | (simp; done) | (simp; omega)), (by (repeat' (first | (with_reducible exact Below.refl _ _) | (with_reducible assumption) | (with_reducible refine Below.drew ?_) | (with_reducible refine below_drewN ?_ _) | (with_reducible refine Below.alloc ?_ ?_ _) | (with_reducible refine Below.setCell ?_ ?_ _) | omega | (simp; done) | (simp; omega))))⟩
    · have e1 : decide (0 ≤ hash) = false := by simp; omega
      have e2 : decide (0 ≤ tick) = true := by simp; omega
      rw [e1, e2]
      clear e1 e2
      go_enter Try.func33, Try.ntmps33
      go_wp2_with ((go_at_call 36; (with_reducible refine (hmay _ (h.below (b := w.heap.size) (by (repeat' (first | (with_reducible exact Below.refl _ _) | (with_reducible assumption) | (with_reducible refine Below.drew ?_) | (with_reducible refine below_drewN ?_ _) | (with_reducible refine Below.alloc ?_ ?_ _) | (with_reducible refine Below.setCell ?_ ?_ _) | omega | (simp; done) | (simp; omega)))) (Nat.le_refl _))).mono ?_); rintro e w1 ⟨rfl, hb1⟩); have hp1 := hp0.below (w' := w1) hb1 hp0.lt; have hs1 := hs0.below (w' := w1) hb1 hs0.lt; obtain ⟨y0, y1, y2, y3, y4⟩ := blk5 hp1; obtain ⟨j0, j1, j2⟩ := blk3 hs1; replace hb1 := below_then' (a := w) (B := w.heap.size) (by (repeat' (first | (with_reducible exact Below.refl _ _) | (with_reducible assumption) | (with_reducible refine Below.drew ?_) | (with_reducible refine below_drewN ?_ _) | (with_reducible refine Below.alloc ?_ ?_ _) | (with_reducible refine Below.setCell ?_ ?_ _) | omega | (simp; done) | (simp; omega)))) hb1 (by first | omega | (simp; done) | (simp; omega)); have hb1s := hb1.size)
      go_ret
      exact ⟨ret_bool (by first | rfl | (simp; done) | (simp; omega)), (by (repeat' (first | (with_reducible exact Below.refl _ _) | (with_reducible assumption) | (with_reducible refine Below.drew ?_) | (with_reducible refine below_drewN ?_ _) | (with_reducible refine Below.alloc ?_ ?_ _) | (with_reducible refine Below.setCell ?_ ?_ _) | omega | (simp; done) | (simp; omega))))⟩
    · have e1 : decide (0 ≤ hash) = true := by simp; omega
      have e2 : decide (0 ≤ tick) = true := by simp; omega
      rw [e1, e2]
      clear e1 e2
      go_enter Try.func33, Try.ntmps33
      go_wp2_with (first
        | ((go_at_call 36; (with_reducible refine (hmay _ (h.below (b := w.heap.size) (by (repeat' (first | (with_reducible exact Below.refl _ _) | (with_reducible assumption) | (with_reducible refine Below.drew ?_) | (with_reducible refine below_drewN ?_ _) | (with_reducible refine Below.alloc ?_ ?_ _) | (with_reducible refine Below.setCell ?_ ?_ _) | omega | (simp; done) | (simp; omega)))) (Nat.le_refl _))).mono ?_); rintro e w1 ⟨rfl, hb1⟩); have hp1 := hp0.below (w' := w1) hb1 hp0.lt; have hs1 := hs0.below (w' := w1) hb1 hs0.lt; obtain ⟨y0, y1, y2, y3, y4⟩ := blk5 hp1; obtain ⟨j0, j1, j2⟩ := blk3 hs1; replace hb1 := below_then' (a := w) (B := w.heap.size) (by (repeat' (first | (with_reducible exact Below.refl _ _) | (with_reducible assumption) | (with_reducible refine Below.drew ?_) | (with_reducible refine below_drewN ?_ _) | (with_reducible refine Below.alloc ?_ ?_ _) | (with_reducible refine Below.setCell ?_ ?_ _) | omega | (simp; done) | (simp; omega)))) hb1 (by first | omega | (simp; done) | (simp; omega)); have hb1s := hb1.size)
        | ((go_at_call 72; (with_reducible refine (h29 _ (h.below (b := w.heap.size) (by (repeat' (first | (with_reducible exact Below.refl _ _) | (with_reducible assumption) | (with_reducible refine Below.drew ?_) | (with_reducible refine below_drewN ?_ _) | (with_reducible refine Below.alloc ?_ ?_ _) | (with_reducible refine Below.setCell ?_ ?_ _) | omega | (simp; done) | (simp; omega)))) (Nat.le_refl _)) (hl.below (B := w.heap.size) (by (repeat' (first | (with_reducible exact Below.refl _ _) | (with_reducible assumption) | (with_reducible refine Below.drew ?_) | (with_reducible refine below_drewN ?_ _) | (with_reducible refine Below.alloc ?_ ?_ _) | (with_reducible refine Below.setCell ?_ ?_ _) | omega | (simp; done) | (simp; omega)))) (Nat.le_refl _))).mono ?_); rintro e w2 ⟨rfl, hb2⟩); replace hb2 := below_then' (a := w) (B := w.heap.size) (by (repeat' (first | (with_reducible exact Below.refl _ _) | (with_reducible assumption) | (with_reducible refine Below.drew ?_) | (with_reducible refine below_drewN ?_ _) | (with_reducible refine Below.alloc ?_ ?_ _) | (with_reducible refine Below.setCell ?_ ?_ _) | omega | (simp; done) | (simp; omega)))) hb2 (by first | omega | (simp; done) | (simp; omega)); have hb2s := hb2.size))
      go_ret
      exact ⟨ret_bool (by first | rfl | (simp; done) | (simp; omega)), (by (repeat' (first | (with_reducible exact Below.refl _ _) | (with_reducible assumption) | (with_reducible refine Below.drew ?_) | (with_reducible refine below_drewN ?_ _) | (with_reducible refine Below.alloc ?_ ?_ _) | (with_reducible refine Below.setCell ?_ ?_ _) | omega | (simp; done) | (simp; omega))))⟩
end Go.Proofs.Ythplicnidknphaa
