/- Parts: StateA. -/
import Derived.Test.YtalmdccgpigppaaPr06
namespace Go.Proofs.Ytalmdccgpigppaa
open Go.RowKit

structure SV where
  tick : Int
  hash : Int
  cells : List Int
def stFits (p : PV) (s : SV) : Bool := mayB p && ((decide (0 ≤ s.tick) && decide (0 ≤ s.hash)) && (decide (s.cells.length = p.cells.length) && allK p.cells.length (fun i => okAt (cellAt p.cells i).1 (intAt s.cells i))))
theorem stFits_true {p : PV} {s : SV} : stFits p s = true ↔ mayB p = true ∧ 0 ≤ s.tick ∧ 0 ≤ s.hash ∧ s.cells.length = p.cells.length ∧ ∀ i, i < p.cells.length → okAt (cellAt p.cells i).1 (intAt s.cells i) = true := by
  unfold stFits; simp only [Bool.and_eq_true, allK_true, decide_eq_true_eq]
  constructor
  · rintro ⟨h1, ⟨h2, h3⟩, h4, h5⟩; exact ⟨h1, h2, h3, h4, h5⟩
  · rintro ⟨h1, h2, h3, h4, h5⟩; exact ⟨h1, ⟨h2, h3⟩, h4, h5⟩

theorem blk3 {w : World} {g : Nat} {t : TypeId} {v0 v1 v2 : Value} (h : Blk w g t [v0, v1, v2]) : w.cell? ⟨g, 0, none⟩ = some v0 ∧ w.cell? ⟨g, 1, none⟩ = some v1 ∧ w.cell? ⟨g, 2, none⟩ = some v2 := ⟨h.cell 0, h.cell 1, h.cell 2⟩

set_option maxRecDepth 100000 in
set_option maxHeartbeats 4000000 in
theorem statefits_any (x : PA) (p : PV) (tick hash : Int) (B : Option Addr) (m d : Nat) (l : List Int) (w : World) (h : ProgRd w x p) (hl : RI w B m l) (hm : m ≤ maxLen) :
    Calls Try.prog 104 #[.agg #[.slice x.A1 x.n1 x.c1, .slice x.A2 x.n2 x.c2, .int .i64 p.regs, .slice x.A3 x.n3 x.c3, .slice x.A4 x.n4 x.c4], .agg #[.int .i64 tick, .int .i64 hash, .slice B m d]] w
      fun e w' => e = .returned (.bool (stFits p ⟨tick, hash, l⟩)) ∧ Below w.heap.size w w' := by
  have hmay := fun w h => cmay_any x p w h
  have hI := @stFits_true p ⟨tick, hash, l⟩
  generalize stFits p ⟨tick, hash, l⟩ = z at *
  have hsub := h
  obtain ⟨r1, r2, r3, r4, k1, k2, k3, k4⟩ := h
  obtain ⟨A1, n1, c1, A2, n2, c2, A3, n3, c3, A4, n4, c4⟩ := x
  obtain ⟨ins, outs, regs, cells, code⟩ := p
  simp only at r1 r2 r3 r4 k1 k2 k3 k4 hmay hI ⊢
  rw [r3.1, hl.1] at hI
  have HI := Lib.hid hI
  clear hI
  have HF : ¬ (mayB ⟨ins, outs, regs, cells, code⟩ = true ∧ 0 ≤ tick ∧ 0 ≤ hash ∧ m = n3) → Hid (z = false) := fun h => by
    show z = false
    rw [Bool.eq_false_iff]
    intro hc
    obtain ⟨a1, a2, a3, a4, _⟩ := HI.out.1 hc
    exact h ⟨a1, a2, a3, a4⟩
  have HF := Lib.hid HF
  have M3 : n3 ≤ 9223372036854775807 := by have := k3.1; have := k3.2; unfold maxLen at this; omega
  have M4 : m ≤ 9223372036854775807 := by unfold maxLen at hm; omega
  clear k1 k2 k3 k4 r1 r2 r4 hm
  have hp0 : Blk ((w.alloc (.cells #[.slice A1 n1 c1, .slice A2 n2 c2, .int .i64 regs, .slice A3 n3 c3, .slice A4 n4 c4] 93)).alloc (.cells #[.int .i64 tick, .int .i64 hash, .slice B m d] 98)) w.heap.size 93 [.slice A1 n1 c1, .slice A2 n2 c2, .int .i64 regs, .slice A3 n3 c3, .slice A4 n4 c4] := (by (repeat' (first | (with_reducible assumption) | (with_reducible refine Blk.top _ (by first | rfl | omega | (simp; done) | (simp; omega)) rfl) | (with_reducible refine Blk.alloc ?_ _) | (with_reducible refine Blk.drew ?_) | (with_reducible refine Blk.drewN ?_ _) | (with_reducible refine Blk.far ?_ (by first | omega | (simp; done) | (simp; omega)) _))))
  have hs0 : Blk ((w.alloc (.cells #[.slice A1 n1 c1, .slice A2 n2 c2, .int .i64 regs, .slice A3 n3 c3, .slice A4 n4 c4] 93)).alloc (.cells #[.int .i64 tick, .int .i64 hash, .slice B m d] 98)) (w.heap.size + 1) 98 [.int .i64 tick, .int .i64 hash, .slice B m d] := (by (repeat' (first | (with_reducible assumption) | (with_reducible refine Blk.top _ (by first | rfl | omega | (simp; done) | (simp; omega)) rfl) | (with_reducible refine Blk.alloc ?_ _) | (with_reducible refine Blk.drew ?_) | (with_reducible refine Blk.drewN ?_ _) | (with_reducible refine Blk.far ?_ (by first | omega | (simp; done) | (simp; omega)) _))))
  cases hmb : mayB ⟨ins, outs, regs, cells, code⟩ with
  | false =>
    have hz := HF.out (by rw [hmb]; simp)
    rw [hmb] at hmay
    clear hmb HF HI hp0 hs0
    go_enter Try.func104, Try.ntmps104
    go_wp2_with ((go_at_call 99; (with_reducible refine (hmay _ (hsub.below (b := w.heap.size) (by (repeat' (first | (with_reducible exact Below.refl _ _) | (with_reducible assumption) | (with_reducible refine Below.drew ?_) | (with_reducible refine below_drewN ?_ _) | (with_reducible refine Below.alloc ?_ ?_ _) | (with_reducible refine Below.setCell ?_ ?_ _) | omega | (simp; done) | (simp; omega)))) (Nat.le_refl _))).mono ?_); rintro e w1 ⟨rfl, hb1⟩); replace hb1 := below_then' (a := w) (B := w.heap.size) (by (repeat' (first | (with_reducible exact Below.refl _ _) | (with_reducible assumption) | (with_reducible refine Below.drew ?_) | (with_reducible refine below_drewN ?_ _) | (with_reducible refine Below.alloc ?_ ?_ _) | (with_reducible refine Below.setCell ?_ ?_ _) | omega | (simp; done) | (simp; omega)))) hb1 (by first | omega | (simp; done) | (simp; omega)); have hb1s := hb1.size)
    go_ret
    exact ⟨ret_bool hz.out.symm, (by (repeat' (first | (with_reducible exact Below.refl _ _) | (with_reducible assumption) | (with_reducible refine Below.drew ?_) | (with_reducible refine below_drewN ?_ _) | (with_reducible refine Below.alloc ?_ ?_ _) | (with_reducible refine Below.setCell ?_ ?_ _) | omega | (simp; done) | (simp; omega))))⟩
  | true =>
    rw [hmb] at hmay
    have Hmb := Lib.hid hmb
    rcases (show tick < 0 ∨ (0 ≤ tick ∧ hash < 0) ∨ (0 ≤ tick ∧ 0 ≤ hash ∧ m ≠ n3) ∨ (0 ≤ tick ∧ 0 ≤ hash ∧ m = n3) by omega) with h | h | h | h
    case inr.inr.inr =>
      obtain ⟨h1, h2, rfl⟩ := h
      have f3 : (((m : Nat) : Int) != (m : Int)) = false := by simp
      have HZ : Hid (z = true ↔ ∀ i, i < m → okAt (cellAt cells i).1 (intAt l i) = true) := by
        have h9 := HI.out
        show _ ↔ _
        constructor
        · intro h; exact (h9.1 h).2.2.2.2
        · intro h; exact h9.2 ⟨Hmb.out, h1, h2, rfl, h⟩
      clear HF HI hmb
      go_enter Try.func104, Try.ntmps104
      go_wp2_with ((go_at_call 99; (with_reducible refine (hmay _ (hsub.below (b := w.heap.size) (by (repeat' (first | (with_reducible exact Below.refl _ _) | (with_reducible assumption) | (with_reducible refine Below.drew ?_) | (with_reducible refine below_drewN ?_ _) | (with_reducible refine Below.alloc ?_ ?_ _) | (with_reducible refine Below.setCell ?_ ?_ _) | omega | (simp; done) | (simp; omega)))) (Nat.le_refl _))).mono ?_); rintro e w1 ⟨rfl, hb1⟩); have hp1 := hp0.below (w' := w1) hb1 hp0.lt; have hs1 := hs0.below (w' := w1) hb1 hs0.lt; obtain ⟨g0, g1, g2, g3, g4⟩ := blk5 hp1; obtain ⟨j0, j1, j2⟩ := blk3 hs1; replace hb1 := below_then' (a := w) (B := w.heap.size) (by (repeat' (first | (with_reducible exact Below.refl _ _) | (with_reducible assumption) | (with_reducible refine Below.drew ?_) | (with_reducible refine below_drewN ?_ _) | (with_reducible refine Below.alloc ?_ ?_ _) | (with_reducible refine Below.setCell ?_ ?_ _) | omega | (simp; done) | (simp; omega)))) hb1 (by first | omega | (simp; done) | (simp; omega)); have hb1s := hb1.size)
      clear hp0 hs0
      have sz1 := hs1.lt
      go_loopw [32] (fun i wr => ∃ k : Nat, k ≤ m ∧ i = .int .i64 (k : Nat) ∧ Hid (∀ i, i < k → okAt (cellAt cells i).1 (intAt l i) = true) ∧ Below w.heap.size w wr ∧ w.heap.size + 1 < wr.heap.size ∧
          Blk wr (w.heap.size + 1) 98 [.int .i64 tick, .int .i64 hash, .slice B m d]) (fun i _ => m - (intOf i).toNat)
      case atStart => exact ⟨0, by omega, rfl, fun i hi => absurd hi (by omega), hb1, sz1, hs1⟩
      case round =>
        clear hp1 hs1 g0 g1 g2 g3 g4 j0 j1 j2 hb1 hb1s sz1
        obtain ⟨k, hk, rfl, hall, hbel, hsz, hblk⟩ := hrel
        obtain ⟨j0, j1, j2⟩ := blk3 hblk
        by_cases hlt : k < m
        · have hne : ¬ (m : Int) ≤ (k : Int) := by omega
          obtain ⟨b, o, x, rfl, hb, hx, hc⟩ := (r3.below hbel (Nat.le_refl _)).at_ cellE_len (by omega) hlt
          have e0 : wr.cell? ⟨b, o + k * 2, none⟩ = some (.int .i64 x.1) := hc 0 (by omega)
          have e1 : wr.cell? ⟨b, o + k * 2 + 1, none⟩ = some (.int .i64 x.2) := hc 1 (by omega)
          obtain ⟨b2, o2, rfl, hb2, hc2⟩ := (hl.below hbel (Nat.le_refl _)).at_ hlt
          have hxk := Lib.hid (cellAt_get hx)
          clear hc hx
          obtain ⟨t, f⟩ := x
          simp only at e0 e1
          cases hvb : okAt t (intAt l k) with
          | true =>
            have hall' : Hid (∀ i, i < k + 1 → okAt (cellAt cells i).1 (intAt l i) = true) := fun i hi => by
              rcases Nat.lt_or_ge i k with h | h
              · exact hall.out i h
              · rw [show i = k from by omega, hxk.out]; exact hvb
            have h12 := okAt_true.1 hvb
            clear hvb hall
            by_cases ht : t = 2
            · have h12' := h12 ht
              subst ht
              clear h12
              rcases h12' with h9 | h9
              all_goals
                rw [h9] at hc2
                clear h9
                go_wp2
                go_roundw
                case rel => exact ⟨k + 1, by omega, by go_num, hall', (by (repeat' (first | (with_reducible exact Below.refl _ _) | (with_reducible assumption) | (with_reducible refine Below.drew ?_) | (with_reducible refine below_drewN ?_ _) | (with_reducible refine Below.alloc ?_ ?_ _) | (with_reducible refine Below.setCell ?_ ?_ _) | omega | (simp; done) | (simp; omega)))), by simp; omega, (by (repeat' (first | (with_reducible assumption) | (with_reducible refine Blk.top _ (by first | rfl | omega | (simp; done) | (simp; omega)) rfl) | (with_reducible refine Blk.alloc ?_ _) | (with_reducible refine Blk.drew ?_) | (with_reducible refine Blk.drewN ?_ _) | (with_reducible refine Blk.far ?_ (by first | omega | (simp; done) | (simp; omega)) _))))⟩
                case measure => simp [intOf]; omega
            · have bt : (t == 2) = false := by rw [beq_eq_false_iff_ne]; exact ht
              clear ht h12
              go_wp2
              go_roundw
              case rel => exact ⟨k + 1, by omega, by go_num, hall', (by (repeat' (first | (with_reducible exact Below.refl _ _) | (with_reducible assumption) | (with_reducible refine Below.drew ?_) | (with_reducible refine below_drewN ?_ _) | (with_reducible refine Below.alloc ?_ ?_ _) | (with_reducible refine Below.setCell ?_ ?_ _) | omega | (simp; done) | (simp; omega)))), by simp; omega, (by (repeat' (first | (with_reducible assumption) | (with_reducible refine Blk.top _ (by first | rfl | omega | (simp; done) | (simp; omega)) rfl) | (with_reducible refine Blk.alloc ?_ _) | (with_reducible refine Blk.drew ?_) | (with_reducible refine Blk.drewN ?_ _) | (with_reducible refine Blk.far ?_ (by first | omega | (simp; done) | (simp; omega)) _))))⟩
              case measure => simp [intOf]; omega
          | false =>
            have hz : Hid (z = false) := by
              show z = false
              rw [Bool.eq_false_iff]
              intro hc
              have h9 := HZ.out.1 hc k hlt
              rw [hxk.out, hvb] at h9
              cases h9
            obtain ⟨h5, h6, h7⟩ := okAt_false.1 hvb
            have b6 : (intAt l k != 0) = true := by rw [bne_iff_ne]; exact h6
            have b7 : (intAt l k != 1) = true := by rw [bne_iff_ne]; exact h7
            subst h5
            clear hvb hall h6 h7
            generalize intAt l k = v at *
            go_wp2
            go_ret
            exact ⟨ret_bool hz.out.symm, (by (repeat' (first | (with_reducible exact Below.refl _ _) | (with_reducible assumption) | (with_reducible refine Below.drew ?_) | (with_reducible refine below_drewN ?_ _) | (with_reducible refine Below.alloc ?_ ?_ _) | (with_reducible refine Below.setCell ?_ ?_ _) | omega | (simp; done) | (simp; omega))))⟩
        · have hkn : k = m := by omega
          subst hkn
          have hge : (k : Int) ≤ (k : Int) := by omega
          have hz : Hid (z = true) := HZ.out.2 hall.out
          clear HZ hall
          go_wp2
          go_ret
          exact ⟨ret_bool hz.out.symm, hbel⟩
    case' inl => have hz := HF.out (by omega)
    case' inr.inl =>
      have hz := HF.out (by omega)
      obtain ⟨h1, h2⟩ := h
    case' inr.inr.inl =>
      have hz := HF.out (by omega)
      obtain ⟨h1, h2, h3⟩ := h
      have f3 : (((m : Nat) : Int) != (n3 : Int)) = true := by rw [bne_iff_ne]; omega
    all_goals
      clear HF HI hmb
      go_enter Try.func104, Try.ntmps104
      go_wp2_with ((go_at_call 99; (with_reducible refine (hmay _ (hsub.below (b := w.heap.size) (by (repeat' (first | (with_reducible exact Below.refl _ _) | (with_reducible assumption) | (with_reducible refine Below.drew ?_) | (with_reducible refine below_drewN ?_ _) | (with_reducible refine Below.alloc ?_ ?_ _) | (with_reducible refine Below.setCell ?_ ?_ _) | omega | (simp; done) | (simp; omega)))) (Nat.le_refl _))).mono ?_); rintro e w1 ⟨rfl, hb1⟩); have hp1 := hp0.below (w' := w1) hb1 hp0.lt; have hs1 := hs0.below (w' := w1) hb1 hs0.lt; obtain ⟨g0, g1, g2, g3, g4⟩ := blk5 hp1; obtain ⟨j0, j1, j2⟩ := blk3 hs1; replace hb1 := below_then' (a := w) (B := w.heap.size) (by (repeat' (first | (with_reducible exact Below.refl _ _) | (with_reducible assumption) | (with_reducible refine Below.drew ?_) | (with_reducible refine below_drewN ?_ _) | (with_reducible refine Below.alloc ?_ ?_ _) | (with_reducible refine Below.setCell ?_ ?_ _) | omega | (simp; done) | (simp; omega)))) hb1 (by first | omega | (simp; done) | (simp; omega)); have hb1s := hb1.size)
      go_ret
      exact ⟨ret_bool (by first | exact hz.out.symm | (rw [hz.out]; done) | (rw [hz.out]; simp; done) | (rw [hz.out]; simp; omega)), (by (repeat' (first | (with_reducible exact Below.refl _ _) | (with_reducible assumption) | (with_reducible refine Below.drew ?_) | (with_reducible refine below_drewN ?_ _) | (with_reducible refine Below.alloc ?_ ?_ _) | (with_reducible refine Below.setCell ?_ ?_ _) | omega | (simp; done) | (simp; omega))))⟩
end Go.Proofs.Ytalmdccgpigppaa
