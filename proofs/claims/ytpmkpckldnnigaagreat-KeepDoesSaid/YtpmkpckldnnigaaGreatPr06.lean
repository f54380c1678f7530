/- Parts: Ints, EqInts, CodeE, StateA, StateB. -/
import Derived.Test.YtpmkpckldnnigaaGreatPr02
import Derived.Test.YtpmkpckldnnigaaGreatPr01
import Derived.Test.YtpmkpckldnnigaaGreatPr04
import Derived.Deep.QuietTactic
import Derived.BigQuiet
import Derived.Test.YtpmkpckldnnigaaGreatPr03
import Derived.Test.YtpmkpckldnnigaaGreatPr05
set_option linter.unusedVariables false
set_option linter.unusedSimpArgs false
set_option maxRecDepth 100000
set_option maxHeartbeats 40000000
namespace Go.Proofs.YtpmkpckldnnigaaGreat
open Go.RowKit
theorem intAt_inj {l m : List Int} (h : l.length = m.length) (hall : ∀ i, i < l.length → qd5 l i = qd5 m i) : l = m := by
  apply List.ext_getElem h; intro i h1 h2; have := hall i h1; simpa [qd5, List.getD_eq_getElem?_getD, h1, h2] using this
theorem ints_any (A B : Option Addr) (n m c d : Nat) (l k : List Int) (w : World) (ha : RI w A n l) (hb : RI w B m k) (hn : n ≤ maxLen) :
    Calls Tryz.prog 53 #[.slice A n c, .slice B m d] w fun e w' => e = .returned (.bool (decide (l = k))) ∧ ∃ q, w' = w.drewN q := by
  unfold maxLen at hn
  by_cases hnm : n = m
  · subst hnm; have hlen : l.length = k.length := ha.1.trans hb.1.symm; have hl := hdd ha.1; have hk := hdd hlen; have hnn : (((n : Nat) : Int) != (n : Int)) = false := by simp
    clear hlen; generalize hz : decide (l = k) = z; have Hz := hdd hz; clear hz; go_enter Tryz.func53, Tryz.ntmps53; go_wp2; go_loopw [5] (fun i wr => ∃ j q, j ≤ n ∧ i = .int .i64 (j : Nat) ∧ Hid (∀ i, i < j → qd5 l i = qd5 k i) ∧ wr = w.drewN q) (fun i _ => n - (intOf i).toNat)
    case atStart => exact ⟨0, 0, Nat.zero_le _, rfl, fun i hi => absurd hi omg, rfl⟩
    case round =>
      obtain ⟨j, q, hj, rfl, hall, rfl⟩ := hrel
      by_cases hlt : j < n
      · obtain ⟨b0, o0, rfl, _, hc0⟩ := ha.at_ hlt; obtain ⟨b1, o1, rfl, _, hc1⟩ := hb.at_ hlt; have hlt' : (j : Int) < n := omg
        by_cases heq : qd5 l j = qd5 k j
        · have hE := hdd heq; have hne : ((qd5 l j) != (qd5 k j)) = false := by simp [heq]
          clear heq; go_wp2; go_quiet (fail); go_wp2; go_roundw
          case rel =>
            refine ⟨j + 1, q + nq, omg, by go_num, fun i hi => ?_, rfl⟩; rcases Nat.lt_or_ge i j with h | h
            · exact hall.out i h
            · rw [show i = j from by omega]; exact hE.out
          case measure => simp [intOf]; omega
        · have hE := hdd heq; have hne : ((qd5 l j) != (qd5 k j)) = true := by
            rw [bne_iff_ne]; exact heq
          clear heq; go_wp2; go_quiet (fail); go_wp2; go_ret; refine ⟨qb9 ?_, q + nq, World.drewN_drewN _ _ _⟩; rw [← Hz.out, eq_comm, decide_eq_false_iff_not]; rintro rfl; exact hE.out rfl
      · go_wp2; go_ret; refine ⟨qb9 ?_, _, rfl⟩; rw [← Hz.out, eq_comm, decide_eq_true_eq]; exact intAt_inj hk.out (fun i hi => hall.out i (by have := hl.out; omega))
  · have hne : (((n : Nat) : Int) != (m : Int)) = true := by rw [bne_iff_ne]; omega
    have hz : decide (l = k) = false := by
      rw [decide_eq_false_iff_not]; rintro rfl; exact hnm (ha.1.symm.trans hb.1)
    rw [hz]; clear hz hnm; go_enter Tryz.func53, Tryz.ntmps53; go_wp2; go_ret; exact ⟨rfl, 0, rfl⟩
structure SV where
  tick : Int
  hash : Int
  cells : List Int
def ql1 (p : PV) (s : SV) : Bool := mayB p && ((decide (0 ≤ s.tick) && decide (0 ≤ s.hash)) && (decide (s.cells.length = p.cells.length) && allK p.cells.length (fun i => okAt (qf2 p.cells i).1 (qd5 s.cells i))))
theorem qw4 {p : PV} {s : SV} : ql1 p s = true ↔ mayB p = true ∧ 0 ≤ s.tick ∧ 0 ≤ s.hash ∧ s.cells.length = p.cells.length ∧ ∀ i, i < p.cells.length → okAt (qf2 p.cells i).1 (qd5 s.cells i) = true := by
  unfold ql1; simp only [Bool.and_eq_true, qo2, decide_eq_true_eq]; constructor
  · rintro ⟨h1, ⟨h2, h3⟩, h4, h5⟩; exact ⟨h1, h2, h3, h4, h5⟩
  · rintro ⟨h1, h2, h3, h4, h5⟩; exact ⟨h1, ⟨h2, h3⟩, h4, h5⟩
theorem blk3 {w : World} {g : Nat} {t : TypeId} {v0 v1 v2 : Value} (h : Blk w g t [v0, v1, v2]) : w.cell? ⟨g, 0, none⟩ = some v0 ∧ w.cell? ⟨g, 1, none⟩ = some v1 ∧ w.cell? ⟨g, 2, none⟩ = some v2 := ⟨h.cell 0, h.cell 1, h.cell 2⟩
theorem qs4 (x : PA) (p : PV) (tick hash : Int) (B : Option Addr) (m d : Nat) (l : List Int) (w : World) (h : qc8 w x p) (hl : RI w B m l) (hm : m ≤ maxLen) :
    Calls Tryz.prog 129 #[.agg #[.slice x.A1 x.n1 x.c1, .slice x.A2 x.n2 x.c2, .int .i64 p.regs, .slice x.A3 x.n3 x.c3, .slice x.A4 x.n4 x.c4], .agg #[.int .i64 tick, .int .i64 hash, .slice B m d]] w
      fun e w' => e = .returned (.bool (ql1 p ⟨tick, hash, l⟩)) ∧ Below w.heap.size w w' := by
  have hmay := fun w h => qs7 x p w h
  have hI := @qw4 p ⟨tick, hash, l⟩; generalize ql1 p ⟨tick, hash, l⟩ = z at *; have hsub := h; obtain ⟨r1, r2, r3, r4, k1, k2, k3, k4⟩ := h; obtain ⟨A1, n1, c1, A2, n2, c2, A3, n3, c3, A4, n4, c4⟩ := x; obtain ⟨ins, outs, regs, cells, code⟩ := p; simp only at r1 r2 r3 r4 k1 k2 k3 k4 hmay hI ⊢; rw [r3.1, hl.1] at hI; have HI := hdd hI; clear hI; have HF : ¬ (mayB ⟨ins, outs, regs, cells, code⟩ = true ∧ 0 ≤ tick ∧ 0 ≤ hash ∧ m = n3) → Hid (z = false) := fun h => by
    show z = false
    rw [Bool.eq_false_iff]; intro hc; obtain ⟨a1, a2, a3, a4, _⟩ := HI.out.1 hc; exact h ⟨a1, a2, a3, a4⟩
  have HF := hdd HF; have M3 : n3 ≤ 9223372036854775807 := by have := k3.1; have := k3.2; unfold maxLen at this; omega
  have M4 : m ≤ 9223372036854775807 := by unfold maxLen at hm; omega
  clear k1 k2 k3 k4 r1 r2 r4 hm; have hp0 : Blk ((w.alloc (.cells #[.slice A1 n1 c1, .slice A2 n2 c2, .int .i64 regs, .slice A3 n3 c3, .slice A4 n4 c4] 27)).alloc (.cells #[.int .i64 tick, .int .i64 hash, .slice B m d] 32)) w.heap.size 27 [.slice A1 n1 c1, .slice A2 n2 c2, .int .i64 regs, .slice A3 n3 c3, .slice A4 n4 c4] := blq; have hs0 : Blk ((w.alloc (.cells #[.slice A1 n1 c1, .slice A2 n2 c2, .int .i64 regs, .slice A3 n3 c3, .slice A4 n4 c4] 27)).alloc (.cells #[.int .i64 tick, .int .i64 hash, .slice B m d] 32)) (w.heap.size + 1) 32 [.int .i64 tick, .int .i64 hash, .slice B m d] := blq
  cases hmb : mayB ⟨ins, outs, regs, cells, code⟩ with
  | false =>
    have hz := HF.out (by rw [hmb]; simp); rw [hmb] at hmay; clear hmb HF HI hp0 hs0; go_enter Tryz.func129, Tryz.ntmps129; go_wp2_with ((go_at_call 128; (with_reducible refine (hmay _ (hsub.below (b := w.heap.size) gwn nlr)).mono ?_); rintro e w1 ⟨rfl, hb1⟩); replace hb1 := qa0 (a := w) (B := w.heap.size) gwn hb1 szz; have hb1s := hb1.size); go_ret; exact ⟨qb9 hz.out.symm, gwn⟩
  | true =>
    rw [hmb] at hmay; have Hmb := hdd hmb; rcases (show tick < 0 ∨ (0 ≤ tick ∧ hash < 0) ∨ (0 ≤ tick ∧ 0 ≤ hash ∧ m ≠ n3) ∨ (0 ≤ tick ∧ 0 ≤ hash ∧ m = n3) by omega) with h | h | h | h
    case inr.inr.inr =>
      obtain ⟨h1, h2, rfl⟩ := h; have f3 : (((m : Nat) : Int) != (m : Int)) = false := by simp
      have HZ : Hid (z = true ↔ ∀ i, i < m → okAt (qf2 cells i).1 (qd5 l i) = true) := by
        have h9 := HI.out
        show _ ↔ _
        constructor
        · intro h; exact (h9.1 h).2.2.2.2
        · intro h; exact h9.2 ⟨Hmb.out, h1, h2, rfl, h⟩
      clear HF HI hmb; go_enter Tryz.func129, Tryz.ntmps129; go_wp2_with ((go_at_call 128; (with_reducible refine (hmay _ (hsub.below (b := w.heap.size) gwn nlr)).mono ?_); rintro e w1 ⟨rfl, hb1⟩); have hp1 := hp0.below (w' := w1) hb1 hp0.lt; have hs1 := hs0.below (w' := w1) hb1 hs0.lt; obtain ⟨g0, g1, g2, g3, g4⟩ := blk5 hp1; obtain ⟨j0, j1, j2⟩ := blk3 hs1; replace hb1 := qa0 (a := w) (B := w.heap.size) gwn hb1 szz; have hb1s := hb1.size); clear hp0 hs0; have sz1 := hs1.lt; go_loopw [32] (fun i wr => ∃ k : Nat, k ≤ m ∧ i = .int .i64 (k : Nat) ∧ Hid (∀ i, i < k → okAt (qf2 cells i).1 (qd5 l i) = true) ∧ Below w.heap.size w wr ∧ w.heap.size + 1 < wr.heap.size ∧
          Blk wr (w.heap.size + 1) 32 [.int .i64 tick, .int .i64 hash, .slice B m d]) (fun i _ => m - (intOf i).toNat)
      case atStart => exact ⟨0, omg, rfl, fun i hi => absurd hi omg, hb1, sz1, hs1⟩
      case round =>
        clear hp1 hs1 g0 g1 g2 g3 g4 j0 j1 j2 hb1 hb1s sz1; obtain ⟨k, hk, rfl, hall, hbel, hsz, hblk⟩ := hrel; obtain ⟨j0, j1, j2⟩ := blk3 hblk
        by_cases hlt : k < m
        · have hne : ¬ (m : Int) ≤ (k : Int) := omg; obtain ⟨b, o, x, rfl, hb, hx, hc⟩ := (r3.below hbel nlr).at_ qj2 omg hlt; have e0 : wr.cell? ⟨b, o + k * 2, none⟩ = some (.int .i64 x.1) := hc 0 omg; have e1 : wr.cell? ⟨b, o + k * 2 + 1, none⟩ = some (.int .i64 x.2) := hc 1 omg; obtain ⟨b2, o2, rfl, hb2, hc2⟩ := (hl.below hbel nlr).at_ hlt; have hxk := hdd (qk9 hx); clear hc hx; obtain ⟨t, f⟩ := x; simp only at e0 e1
          cases hvb : okAt t (qd5 l k) with
          | true =>
            have hall' : Hid (∀ i, i < k + 1 → okAt (qf2 cells i).1 (qd5 l i) = true) := fun i hi => by
              rcases Nat.lt_or_ge i k with h | h
              · exact hall.out i h
              · rw [show i = k from by omega, hxk.out]; exact hvb
            have h12 := okAt_true.1 hvb; clear hvb hall
            by_cases ht : t = 2
            · have h12' := h12 ht; subst ht; clear h12; rcases h12' with h9 | h9
              all_goals
                rw [h9] at hc2; clear h9; go_wp2; go_roundw
                case rel => exact ⟨k + 1, omg, by go_num, hall', gwn, by simp; omega, blq⟩
                case measure => simp [intOf]; omega
            · have bt : (t == 2) = false := by rw [beq_eq_false_iff_ne]; exact ht
              clear ht h12; go_wp2; go_roundw
              case rel => exact ⟨k + 1, omg, by go_num, hall', gwn, by simp; omega, blq⟩
              case measure => simp [intOf]; omega
          | false =>
            have hz : Hid (z = false) := by
              show z = false
              rw [Bool.eq_false_iff]; intro hc; have h9 := HZ.out.1 hc k hlt; rw [hxk.out, hvb] at h9
              cases h9
            obtain ⟨h5, h6, h7⟩ := okAt_false.1 hvb; have b6 : (qd5 l k != 0) = true := by rw [bne_iff_ne]; exact h6
            have b7 : (qd5 l k != 1) = true := by rw [bne_iff_ne]; exact h7
            subst h5; clear hvb hall h6 h7; generalize qd5 l k = v at *; go_wp2; go_ret; exact ⟨qb9 hz.out.symm, gwn⟩
        · have hkn : k = m := omg; subst hkn; have hge : (k : Int) ≤ (k : Int) := omg; have hz : Hid (z = true) := HZ.out.2 hall.out; clear HZ hall; go_wp2; go_ret; exact ⟨qb9 hz.out.symm, hbel⟩
    case' inl => have hz := HF.out omg
    case' inr.inl =>
      have hz := HF.out omg; obtain ⟨h1, h2⟩ := h
    case' inr.inr.inl =>
      have hz := HF.out omg; obtain ⟨h1, h2, h3⟩ := h; have f3 : (((m : Nat) : Int) != (n3 : Int)) = true := by rw [bne_iff_ne]; omega
    all_goals
      clear HF HI hmb; go_enter Tryz.func129, Tryz.ntmps129; go_wp2_with ((go_at_call 128; (with_reducible refine (hmay _ (hsub.below (b := w.heap.size) gwn nlr)).mono ?_); rintro e w1 ⟨rfl, hb1⟩); have hp1 := hp0.below (w' := w1) hb1 hp0.lt; have hs1 := hs0.below (w' := w1) hb1 hs0.lt; obtain ⟨g0, g1, g2, g3, g4⟩ := blk5 hp1; obtain ⟨j0, j1, j2⟩ := blk3 hs1; replace hb1 := qa0 (a := w) (B := w.heap.size) gwn hb1 szz; have hb1s := hb1.size); go_ret; exact ⟨qb9 (by first | exact hz.out.symm | (rw [hz.out]; done) | (rw [hz.out]; simp; done) | (rw [hz.out]; simp; omega)), gwn⟩
def snapB (s s' : SV) : Bool := (s.tick == s'.tick) && ((s.hash == s'.hash) && decide (s.cells = s'.cells))
theorem qv0 {s s' : SV} : snapB s s' = true ↔ s = s' := by
  cases s; cases s'; simp [snapB]
theorem qm6 (t h t' h' : Int) (A B : Option Addr) (n m c d : Nat) (l k : List Int) (w : World) (ha : RI w A n l) (hb : RI w B m k) (hn : n ≤ maxLen) :
    Calls Tryz.prog 25 #[.agg #[.int .i64 t, .int .i64 h, .slice A n c], .agg #[.int .i64 t', .int .i64 h', .slice B m d]] w fun e w' => e = .returned (.bool (snapB ⟨t, h, l⟩ ⟨t', h', k⟩)) ∧ Below w.heap.size w w' := by
  have hh := fun w a b => ints_any A B n m c d l k w a b hn
  unfold snapB; simp only; generalize decide (l = k) = z at *; have hbel : Below w.heap.size w ((w.alloc (.cells #[.int .i64 t, .int .i64 h, .slice A n c] 32)).alloc (.cells #[.int .i64 t', .int .i64 h', .slice B m d] 32)) := gwn; have R := ha.below hbel nlr; have S := hb.below hbel nlr; clear ha hb hbel hn
  cases h1 : t == t' with
  | false =>
    go_enter Tryz.func25, Tryz.ntmps25; go_wp2; go_ret; exact ⟨rfl, gwn⟩
  | true =>
    cases h2 : h == h' with
    | false =>
      go_enter Tryz.func25, Tryz.ntmps25; go_wp2; go_ret; exact ⟨rfl, gwn⟩
    | true =>
      cases z
      all_goals
        go_enter Tryz.func25, Tryz.ntmps25; go_wp2_with (go_at_call 53; (with_reducible refine (hh _ R S).mono ?_); rintro e w1 ⟨rfl, q1, rfl⟩); go_ret; exact ⟨rfl, gwn⟩
theorem vc7 {t f v : Int} (h : qh7 t f = true) : qh7 t v = okAt t v := by
  unfold qh7 at h ⊢; unfold okAt; simp only [Bool.or_eq_true, Bool.and_eq_true, beq_iff_eq] at h; rcases h with rfl | ⟨rfl, _⟩
  · simp
  · simp
theorem ref29fits_any (x : PA) (p : PV) (B : Option Addr) (m d : Nat) (l : List Int) (w : World) (h : qc8 w x p) (hl : RI w B m l) (hm : m ≤ maxLen) :
    Calls Tryz.prog 153 #[.agg #[.slice x.A1 x.n1 x.c1, .slice x.A2 x.n2 x.c2, .int .i64 p.regs, .slice x.A3 x.n3 x.c3, .slice x.A4 x.n4 x.c4], .slice B m d] w
      fun e w' => e = .returned (.bool (decide (l.length = p.cells.length) && allK p.cells.length (fun i => qh7 (qf2 p.cells i).1 (qd5 l i)))) ∧ Below w.heap.size w w' := by
  obtain ⟨r1, r2, r3, r4, k1, k2, k3, k4⟩ := h; obtain ⟨A1, n1, c1, A2, n2, c2, A3, n3, c3, A4, n4, c4⟩ := x; obtain ⟨ins, outs, regs, cells, code⟩ := p; simp only at r1 r2 r3 r4 k1 k2 k3 k4 ⊢; have hI : (decide (l.length = cells.length) && allK cells.length (fun i => qh7 (qf2 cells i).1 (qd5 l i))) = true ↔ m = n3 ∧ ∀ i, i < n3 → qh7 (qf2 cells i).1 (qd5 l i) = true := by
    simp only [Bool.and_eq_true, qo2, decide_eq_true_eq]; rw [r3.1, hl.1]
  generalize (decide (l.length = cells.length) && allK cells.length (fun i => qh7 (qf2 cells i).1 (qd5 l i))) = z at *; have HI := hdd hI; clear hI; have M3 : n3 ≤ 9223372036854775807 := by have := k3.1; have := k3.2; unfold maxLen at this; omega
  have M4 : m ≤ 9223372036854775807 := by unfold maxLen at hm; omega
  clear k1 k2 k3 k4 r1 r2 r4 hm
  by_cases hmn : m = n3
  · subst hmn; have f3 : (((m : Nat) : Int) != (m : Int)) = false := by simp
    have HZ : Hid (z = true ↔ ∀ i, i < m → qh7 (qf2 cells i).1 (qd5 l i) = true) := by
      have h9 := HI.out
      show _ ↔ _
      constructor
      · intro h; exact (h9.1 h).2
      · intro h; exact h9.2 ⟨rfl, h⟩
    clear HI; go_enter Tryz.func153, Tryz.ntmps153; go_wp2; go_loopw [5] (fun i wr => ∃ k : Nat, k ≤ m ∧ i = .int .i64 (k : Nat) ∧ Hid (∀ i, i < k → qh7 (qf2 cells i).1 (qd5 l i) = true) ∧ Below w.heap.size w wr ∧ w.heap.size < wr.heap.size ∧
        Blk wr w.heap.size 27 [.slice A1 n1 c1, .slice A2 n2 c2, .int .i64 regs, .slice A3 m c3, .slice A4 n4 c4]) (fun i _ => m - (intOf i).toNat)
    case atStart => exact ⟨0, omg, rfl, fun i hi => absurd hi omg, gwn, by simp, blq⟩
    case round =>
      obtain ⟨k, hk, rfl, hall, hbel, hsz, hblk⟩ := hrel; obtain ⟨g0, g1, g2, g3, g4⟩ := blk5 hblk
      by_cases hlt : k < m
      · have hi0 : (0 : Int) ≤ (k : Int) := omg; have hi1 : (k : Int) < (m : Int) := omg; obtain ⟨b, o, x, rfl, hb, hx, hc⟩ := (r3.below hbel nlr).at_ qj2 omg hlt; have e0 : wr.cell? ⟨b, o + k * 2, none⟩ = some (.int .i64 x.1) := hc 0 omg; obtain ⟨b2, o2, rfl, hb2, hc2⟩ := (hl.below hbel nlr).at_ hlt; have hxk := hdd (qk9 hx); clear hc hx; obtain ⟨t, f⟩ := x; simp only at e0; have hv := fun w => vb0 t (qd5 l k) w
        cases hvb : qh7 t (qd5 l k) with
        | true =>
          have hall' : Hid (∀ i, i < k + 1 → qh7 (qf2 cells i).1 (qd5 l i) = true) := fun i hi => by
            rcases Nat.lt_or_ge i k with h | h
            · exact hall.out i h
            · rw [show i = k from by omega, hxk.out]; exact hvb
          rw [hvb] at hv; clear hvb hall; go_wp2; go_quiet ((go_at_call 141; exact Calls.quiet_of_same ((hv _).mono fun e w' ⟨h1, h2⟩ => ⟨h1, h2.symm⟩))); go_wp2; go_roundw
          case rel => exact ⟨k + 1, omg, by go_num, hall', gwn, hsz, hblk⟩
          case measure => simp [intOf]; omega
        | false =>
          have hz : Hid (z = false) := by
            show z = false
            rw [Bool.eq_false_iff]; intro hc; have h9 := HZ.out.1 hc k hlt; rw [hxk.out, hvb] at h9
            cases h9
          rw [hvb] at hv; clear hvb hall; go_wp2; go_quiet ((go_at_call 141; exact Calls.quiet_of_same ((hv _).mono fun e w' ⟨h1, h2⟩ => ⟨h1, h2.symm⟩))); go_wp2; go_ret; exact ⟨qb9 hz.out.symm, gwn⟩
      · have hkn : k = m := omg; subst hkn; have hge : (k : Int) ≤ (k : Int) := omg; have hz : Hid (z = true) := HZ.out.2 hall.out; clear HZ hall; go_wp2; go_ret; exact ⟨qb9 hz.out.symm, hbel⟩
  · have f3 : (((m : Nat) : Int) != (n3 : Int)) = true := by rw [bne_iff_ne]; omega
    have hz : Hid (z = false) := by
      show z = false
      rw [Bool.eq_false_iff]; exact fun hc => hmn (HI.out.1 hc).1
    clear HI hmn; go_enter Tryz.func153, Tryz.ntmps153; go_wp2; go_ret; exact ⟨qb9 hz.out.symm, gwn⟩
theorem qs9 (x : PA) (p : PV) (tick hash : Int) (B : Option Addr) (m d : Nat) (l : List Int) (w : World) (h : qc8 w x p) (hl : RI w B m l) (hm : m ≤ maxLen) :
    Calls Tryz.prog 72 #[.agg #[.slice x.A1 x.n1 x.c1, .slice x.A2 x.n2 x.c2, .int .i64 p.regs, .slice x.A3 x.n3 x.c3, .slice x.A4 x.n4 x.c4], .agg #[.int .i64 tick, .int .i64 hash, .slice B m d]] w
      fun e w' => e = .returned (.bool (ql1 p ⟨tick, hash, l⟩)) ∧ Below w.heap.size w w' := by
  have hmay := fun w h => qv2 x p w h
  have h29 := fun w h h' => ref29fits_any x p B m d l w h h' hm
  unfold ql1; simp only; have hp0 : Blk ((w.alloc (.cells #[.slice x.A1 x.n1 x.c1, .slice x.A2 x.n2 x.c2, .int .i64 p.regs, .slice x.A3 x.n3 x.c3, .slice x.A4 x.n4 x.c4] 27)).alloc (.cells #[.int .i64 tick, .int .i64 hash, .slice B m d] 32)) w.heap.size 27 [.slice x.A1 x.n1 x.c1, .slice x.A2 x.n2 x.c2, .int .i64 p.regs, .slice x.A3 x.n3 x.c3, .slice x.A4 x.n4 x.c4] := blq; have hs0 : Blk ((w.alloc (.cells #[.slice x.A1 x.n1 x.c1, .slice x.A2 x.n2 x.c2, .int .i64 p.regs, .slice x.A3 x.n3 x.c3, .slice x.A4 x.n4 x.c4] 27)).alloc (.cells #[.int .i64 tick, .int .i64 hash, .slice B m d] 32)) (w.heap.size + 1) 32 [.int .i64 tick, .int .i64 hash, .slice B m d] := blq
  cases hmb : mayB p with
  | false =>
    rw [hmb] at hmay; clear hmb hp0 hs0; go_enter Tryz.func72, Tryz.ntmps72; go_wp2_with ((go_at_call 63; (with_reducible refine (hmay _ (h.below (b := w.heap.size) gwn nlr)).mono ?_); rintro e w1 ⟨rfl, hb1⟩); replace hb1 := qa0 (a := w) (B := w.heap.size) gwn hb1 szz; have hb1s := hb1.size); go_ret; exact ⟨rfl, gwn⟩
  | true =>
    have hok : allK p.cells.length (fun i => qh7 (qf2 p.cells i).1 (qd5 l i)) = allK p.cells.length (fun i => okAt (qf2 p.cells i).1 (qd5 l i)) := by
      rw [Bool.eq_iff_iff, qo2, qo2]; have h7 := (qe9.1 hmb).2.2.2.2.2.2.1; constructor
      · intro h9 i hi; rw [← vc7 (h7 i hi)]; exact h9 i hi
      · intro h9 i hi; rw [vc7 (h7 i hi)]; exact h9 i hi
    rw [hok] at h29; rw [hmb] at hmay; generalize (decide (l.length = p.cells.length) && allK p.cells.length (fun i => okAt (qf2 p.cells i).1 (qd5 l i))) = z at *; clear hok hmb; rcases (show tick < 0 ∨ (0 ≤ tick ∧ hash < 0) ∨ (0 ≤ tick ∧ 0 ≤ hash) by omega) with g1 | ⟨g1, g2⟩ | ⟨g1, g2⟩
    · have e1 : decide (0 ≤ tick) = false := by simp; omega
      rw [e1]; clear e1; go_enter Tryz.func72, Tryz.ntmps72; go_wp2_with ((go_at_call 63; (with_reducible refine (hmay _ (h.below (b := w.heap.size) gwn nlr)).mono ?_); rintro e w1 ⟨rfl, hb1⟩); have hp1 := hp0.below (w' := w1) hb1 hp0.lt; have hs1 := hs0.below (w' := w1) hb1 hs0.lt; obtain ⟨y0, y1, y2, y3, y4⟩ := blk5 hp1; obtain ⟨j0, j1, j2⟩ := blk3 hs1; replace hb1 := qa0 (a := w) (B := w.heap.size) gwn hb1 szz; have hb1s := hb1.size); go_ret; exact ⟨qb9 (by first | rfl | (simp; done) | (simp; omega)), gwn⟩
    · have e1 : decide (0 ≤ hash) = false := by simp; omega
      have e2 : decide (0 ≤ tick) = true := by simp; omega
      rw [e1, e2]; clear e1 e2; go_enter Tryz.func72, Tryz.ntmps72; go_wp2_with ((go_at_call 63; (with_reducible refine (hmay _ (h.below (b := w.heap.size) gwn nlr)).mono ?_); rintro e w1 ⟨rfl, hb1⟩); have hp1 := hp0.below (w' := w1) hb1 hp0.lt; have hs1 := hs0.below (w' := w1) hb1 hs0.lt; obtain ⟨y0, y1, y2, y3, y4⟩ := blk5 hp1; obtain ⟨j0, j1, j2⟩ := blk3 hs1; replace hb1 := qa0 (a := w) (B := w.heap.size) gwn hb1 szz; have hb1s := hb1.size); go_ret; exact ⟨qb9 (by first | rfl | (simp; done) | (simp; omega)), gwn⟩
    · have e1 : decide (0 ≤ hash) = true := by simp; omega
      have e2 : decide (0 ≤ tick) = true := by simp; omega
      rw [e1, e2]; clear e1 e2; go_enter Tryz.func72, Tryz.ntmps72; go_wp2_with (first | ((go_at_call 63; (with_reducible refine (hmay _ (h.below (b := w.heap.size) gwn nlr)).mono ?_); rintro e w1 ⟨rfl, hb1⟩); have hp1 := hp0.below (w' := w1) hb1 hp0.lt; have hs1 := hs0.below (w' := w1) hb1 hs0.lt; obtain ⟨y0, y1, y2, y3, y4⟩ := blk5 hp1; obtain ⟨j0, j1, j2⟩ := blk3 hs1; replace hb1 := qa0 (a := w) (B := w.heap.size) gwn hb1 szz; have hb1s := hb1.size) | ((go_at_call 153; (with_reducible refine (h29 _ (h.below (b := w.heap.size) gwn nlr) (hl.below (B := w.heap.size) gwn nlr)).mono ?_); rintro e w2 ⟨rfl, hb2⟩); replace hb2 := qa0 (a := w) (B := w.heap.size) gwn hb2 szz; have hb2s := hb2.size)); go_ret; exact ⟨qb9 (by first | rfl | (simp; done) | (simp; omega)), gwn⟩
end Go.Proofs.YtpmkpckldnnigaaGreat
