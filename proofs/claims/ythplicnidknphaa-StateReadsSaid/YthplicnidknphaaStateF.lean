/- The contract of the reference's Read of state. -/
import Derived.Test.YthplicnidknphaaStateE
namespace Go.Proofs.Ythplicnidknphaa
open Go.RowKit

theorem run_cut_mid {P : Program} {t e : TypeId} {z : Value} {size bytes : Nat} (hE : ElemOf P t e z size bytes) (A : Option Addr) (len cap lo hi : Nat) (h : lo ≤ hi) (h2 : hi ≤ cap) (W : World) :
    (Instr.slice t (.slice A len cap) (some (.int .i64 (lo : Int))) (some (.int .i64 (hi : Int))) none).run P W = .ok (.slice (if cap = lo then A else A.map (·.add (lo * size))) (hi - lo) (cap - lo)) W := by
  obtain ⟨ht, ⟨i, hi', _, hs, _⟩, _⟩ := hE
  have hb : (0 : Int) ≤ (lo : Int) ∧ (lo : Int) ≤ (hi : Int) := by omega
  have hb2 : (0 : Int) ≤ (hi : Int) ∧ (hi : Int) ≤ (cap : Int) := by omega
  simp [Instr.slice, run_underlying ht, Instr.sliceBounds, Instr.sliceBound, hb, hb2, sizeOf, typeInfo, hi', asIntOf, hs]
  rw [if_pos h2, if_pos h]
theorem mid_rb {w : World} {A : Option Addr} {n c k m : Nat} {l : List UInt8} (h : RB w A n l) (hk : k + m ≤ n) (hc : n ≤ c) : RB w (if c = k then A else A.map (·.add (k * 1))) m ((l.drop k).take m) :=
  (cut_rb h (by omega) hc).less (by omega)
theorem cut_ri {w : World} {A : Option Addr} {n c k : Nat} {l : List Int} (h : RI w A n l) (hk : k ≤ n) (hc : n ≤ c) : RI w (if c = k then A else A.map (·.add (k * 1))) (n - k) (l.drop k) := by
  refine ⟨by rw [List.length_drop, h.1], ?_⟩
  have := h.2.cut hk hc
  rw [Nat.mul_one]
  exact this.congr fun i hi => by unfold intAt; simp [List.getD_eq_getElem?_getD]
def numsK (bs : List UInt8) (k : Nat) : List Int := (List.range k).map fun k => numAt bs (8 * k)
theorem numsK_split (bs : List UInt8) (n : Nat) : numsK bs (n + 2) = numAt bs 0 :: numAt bs 8 :: cellsK bs n := by
  unfold numsK cellsK
  rw [List.range_succ_eq_map, List.range_succ_eq_map]
  simp only [List.map_cons, List.map_map, Nat.mul_zero]
  congr 2
  apply List.map_congr_left
  intro k _
  show numAt bs (8 * (k + 1 + 1)) = numAt bs (16 + 8 * k)
  congr 1; omega

set_option maxRecDepth 100000 in
set_option maxHeartbeats 4000000 in
theorem refstateread_any (x : PA) (p : PV) (B : Option Addr) (m d : Nat) (bs : List UInt8) (w : World) (h : ProgRd w x p) (hl : RB w B m bs) (hm : m ≤ d) (hd : d ≤ maxLen) :
    Calls Try.prog 39 #[.agg #[.slice x.A1 x.n1 x.c1, .slice x.A2 x.n2 x.c2, .int .i64 p.regs, .slice x.A3 x.n3 x.c3, .slice x.A4 x.n4 x.c4], .slice B m d] w (StEnd w (stRead p bs)) := by
  have hmay := fun w h => refmay_any x p w h
  have hlen := hl.1
  have hn3 := h.r3.1
  generalize hr : stRead p bs = r
  unfold stRead at hr
  have hMd : m ≤ 9223372036854775807 := by unfold maxLen at hd; omega
  cases hmb : mayB p with
  | false =>
    rw [if_pos hmb] at hr
    rw [hmb] at hmay
    subst hr
    clear hmb hlen hn3
    go_enter Try.func39, Try.ntmps39
    go_wp2_with ((go_at_call 36; (with_reducible refine (hmay _ (h.below (b := w.heap.size) (by (repeat' (first | (with_reducible exact Below.refl _ _) | (with_reducible assumption) | (with_reducible refine Below.drew ?_) | (with_reducible refine below_drewN ?_ _) | (with_reducible refine Below.alloc ?_ ?_ _) | (with_reducible refine Below.setCell ?_ ?_ _) | omega | (simp; done) | (simp; omega)))) (Nat.le_refl _))).mono ?_); rintro e w1 ⟨rfl, hb1⟩); have hp1 := Blk.below (w' := w1) (g := w.heap.size) (t := 42) (cs := [.slice x.A1 x.n1 x.c1, .slice x.A2 x.n2 x.c2, .int .i64 p.regs, .slice x.A3 x.n3 x.c3, .slice x.A4 x.n4 x.c4]) (by (repeat' (first | (with_reducible assumption) | (with_reducible refine Blk.top _ (by first | rfl | omega | (simp; done) | (simp; omega)) rfl) | (with_reducible refine Blk.alloc ?_ _) | (with_reducible refine Blk.drew ?_) | (with_reducible refine Blk.drewN ?_ _) | (with_reducible refine Blk.far ?_ (by first | omega | (simp; done) | (simp; omega)) _)))) hb1 (by first | omega | (simp; done) | (simp; omega)); have hs1 := Blk.below (w' := w1) (g := w.heap.size + 1) (t := 44) (cs := [.int .i64 0, .int .i64 0, .slice none 0 0]) (by (repeat' (first | (with_reducible assumption) | (with_reducible refine Blk.top _ (by first | rfl | omega | (simp; done) | (simp; omega)) rfl) | (with_reducible refine Blk.alloc ?_ _) | (with_reducible refine Blk.drew ?_) | (with_reducible refine Blk.drewN ?_ _) | (with_reducible refine Blk.far ?_ (by first | omega | (simp; done) | (simp; omega)) _)))) hb1 (by first | omega | (simp; done) | (simp; omega)); obtain ⟨y10, y11, y12, y13, y14⟩ := blk5 hp1; obtain ⟨j10, j11, j12⟩ := blk3 hs1; have f10 := hs1.frozen 0; have f11 := hs1.frozen 1; have f12 := hs1.frozen 2; have sz1 := hs1.lt; have rs1 := hb1.size; replace hb1 := below_then' (a := w) (B := w.heap.size) (by (repeat' (first | (with_reducible exact Below.refl _ _) | (with_reducible assumption) | (with_reducible refine Below.drew ?_) | (with_reducible refine below_drewN ?_ _) | (with_reducible refine Below.alloc ?_ ?_ _) | (with_reducible refine Below.setCell ?_ ?_ _) | omega | (simp; done) | (simp; omega)))) hb1 (by first | omega | (simp; done) | (simp; omega)); have hb1s := hb1.size)
    refine bodyPost_ret (v := .tuple #[.agg #[.int .i64 0, .int .i64 0, .slice none 0 0], .int .i64 2]) (by simp [results, Try.results39, go_sem, j10, j11, j12]) rfl ?_
    exact StEnd.bad 2 rfl rfl (by (repeat' (first | (with_reducible exact Below.refl _ _) | (with_reducible assumption) | (with_reducible refine Below.drew ?_) | (with_reducible refine below_drewN ?_ _) | (with_reducible refine Below.alloc ?_ ?_ _) | (with_reducible refine Below.setCell ?_ ?_ _) | omega | (simp; done) | (simp; omega))))
  | true =>
    rw [if_neg (by simp [hmb])] at hr
    rw [hmb] at hmay
    have hn60 := (mayB_true.1 hmb).2.2.2.2.1
    rw [hlen, hn3] at hr
    rw [hn3] at hn60
    have hn3' := Lib.hid hn3
    clear hmb hn3
    rcases (show m < 8 * (2 + x.n3) ∨ 8 * (2 + x.n3) < m ∨ m = 8 * (2 + x.n3) by omega) with hc | hc | hc
    · rw [if_pos hc] at hr
      subst hr
      have hc' : (m : Int) < 8 * (x.n3 : Int) + 16 := by omega
      clear hlen
      go_enter Try.func39, Try.ntmps39
      go_wp2_with ((go_at_call 36; (with_reducible refine (hmay _ (h.below (b := w.heap.size) (by (repeat' (first | (with_reducible exact Below.refl _ _) | (with_reducible assumption) | (with_reducible refine Below.drew ?_) | (with_reducible refine below_drewN ?_ _) | (with_reducible refine Below.alloc ?_ ?_ _) | (with_reducible refine Below.setCell ?_ ?_ _) | omega | (simp; done) | (simp; omega)))) (Nat.le_refl _))).mono ?_); rintro e w1 ⟨rfl, hb1⟩); have hp1 := Blk.below (w' := w1) (g := w.heap.size) (t := 42) (cs := [.slice x.A1 x.n1 x.c1, .slice x.A2 x.n2 x.c2, .int .i64 p.regs, .slice x.A3 x.n3 x.c3, .slice x.A4 x.n4 x.c4]) (by (repeat' (first | (with_reducible assumption) | (with_reducible refine Blk.top _ (by first | rfl | omega | (simp; done) | (simp; omega)) rfl) | (with_reducible refine Blk.alloc ?_ _) | (with_reducible refine Blk.drew ?_) | (with_reducible refine Blk.drewN ?_ _) | (with_reducible refine Blk.far ?_ (by first | omega | (simp; done) | (simp; omega)) _)))) hb1 (by first | omega | (simp; done) | (simp; omega)); have hs1 := Blk.below (w' := w1) (g := w.heap.size + 1) (t := 44) (cs := [.int .i64 0, .int .i64 0, .slice none 0 0]) (by (repeat' (first | (with_reducible assumption) | (with_reducible refine Blk.top _ (by first | rfl | omega | (simp; done) | (simp; omega)) rfl) | (with_reducible refine Blk.alloc ?_ _) | (with_reducible refine Blk.drew ?_) | (with_reducible refine Blk.drewN ?_ _) | (with_reducible refine Blk.far ?_ (by first | omega | (simp; done) | (simp; omega)) _)))) hb1 (by first | omega | (simp; done) | (simp; omega)); obtain ⟨y10, y11, y12, y13, y14⟩ := blk5 hp1; obtain ⟨j10, j11, j12⟩ := blk3 hs1; have f10 := hs1.frozen 0; have f11 := hs1.frozen 1; have f12 := hs1.frozen 2; have sz1 := hs1.lt; have rs1 := hb1.size; replace hb1 := below_then' (a := w) (B := w.heap.size) (by (repeat' (first | (with_reducible exact Below.refl _ _) | (with_reducible assumption) | (with_reducible refine Below.drew ?_) | (with_reducible refine below_drewN ?_ _) | (with_reducible refine Below.alloc ?_ ?_ _) | (with_reducible refine Below.setCell ?_ ?_ _) | omega | (simp; done) | (simp; omega)))) hb1 (by first | omega | (simp; done) | (simp; omega)); have hb1s := hb1.size)
      refine bodyPost_ret (v := .tuple #[.agg #[.int .i64 0, .int .i64 0, .slice none 0 0], .int .i64 10]) (by simp [results, Try.results39, go_sem, j10, j11, j12]) rfl ?_
      exact StEnd.bad 10 rfl rfl (by (repeat' (first | (with_reducible exact Below.refl _ _) | (with_reducible assumption) | (with_reducible refine Below.drew ?_) | (with_reducible refine below_drewN ?_ _) | (with_reducible refine Below.alloc ?_ ?_ _) | (with_reducible refine Below.setCell ?_ ?_ _) | omega | (simp; done) | (simp; omega))))
    · rw [if_neg (by omega), if_pos hc] at hr
      subst hr
      have hc' : ¬ (m : Int) < 8 * (x.n3 : Int) + 16 := by omega
      have hc2 : 8 * (x.n3 : Int) + 16 < (m : Int) := by omega
      clear hlen
      go_enter Try.func39, Try.ntmps39
      go_wp2_with ((go_at_call 36; (with_reducible refine (hmay _ (h.below (b := w.heap.size) (by (repeat' (first | (with_reducible exact Below.refl _ _) | (with_reducible assumption) | (with_reducible refine Below.drew ?_) | (with_reducible refine below_drewN ?_ _) | (with_reducible refine Below.alloc ?_ ?_ _) | (with_reducible refine Below.setCell ?_ ?_ _) | omega | (simp; done) | (simp; omega)))) (Nat.le_refl _))).mono ?_); rintro e w1 ⟨rfl, hb1⟩); have hp1 := Blk.below (w' := w1) (g := w.heap.size) (t := 42) (cs := [.slice x.A1 x.n1 x.c1, .slice x.A2 x.n2 x.c2, .int .i64 p.regs, .slice x.A3 x.n3 x.c3, .slice x.A4 x.n4 x.c4]) (by (repeat' (first | (with_reducible assumption) | (with_reducible refine Blk.top _ (by first | rfl | omega | (simp; done) | (simp; omega)) rfl) | (with_reducible refine Blk.alloc ?_ _) | (with_reducible refine Blk.drew ?_) | (with_reducible refine Blk.drewN ?_ _) | (with_reducible refine Blk.far ?_ (by first | omega | (simp; done) | (simp; omega)) _)))) hb1 (by first | omega | (simp; done) | (simp; omega)); have hs1 := Blk.below (w' := w1) (g := w.heap.size + 1) (t := 44) (cs := [.int .i64 0, .int .i64 0, .slice none 0 0]) (by (repeat' (first | (with_reducible assumption) | (with_reducible refine Blk.top _ (by first | rfl | omega | (simp; done) | (simp; omega)) rfl) | (with_reducible refine Blk.alloc ?_ _) | (with_reducible refine Blk.drew ?_) | (with_reducible refine Blk.drewN ?_ _) | (with_reducible refine Blk.far ?_ (by first | omega | (simp; done) | (simp; omega)) _)))) hb1 (by first | omega | (simp; done) | (simp; omega)); obtain ⟨y10, y11, y12, y13, y14⟩ := blk5 hp1; obtain ⟨j10, j11, j12⟩ := blk3 hs1; have f10 := hs1.frozen 0; have f11 := hs1.frozen 1; have f12 := hs1.frozen 2; have sz1 := hs1.lt; have rs1 := hb1.size; replace hb1 := below_then' (a := w) (B := w.heap.size) (by (repeat' (first | (with_reducible exact Below.refl _ _) | (with_reducible assumption) | (with_reducible refine Below.drew ?_) | (with_reducible refine below_drewN ?_ _) | (with_reducible refine Below.alloc ?_ ?_ _) | (with_reducible refine Below.setCell ?_ ?_ _) | omega | (simp; done) | (simp; omega)))) hb1 (by first | omega | (simp; done) | (simp; omega)); have hb1s := hb1.size)
      refine bodyPost_ret (v := .tuple #[.agg #[.int .i64 0, .int .i64 0, .slice none 0 0], .int .i64 12]) (by simp [results, Try.results39, go_sem, j10, j11, j12]) rfl ?_
      exact StEnd.bad 12 rfl rfl (by (repeat' (first | (with_reducible exact Below.refl _ _) | (with_reducible assumption) | (with_reducible refine Below.drew ?_) | (with_reducible refine below_drewN ?_ _) | (with_reducible refine Below.alloc ?_ ?_ _) | (with_reducible refine Below.setCell ?_ ?_ _) | omega | (simp; done) | (simp; omega))))
    · rw [if_neg (by omega), if_neg (by omega)] at hr
      have hc' : ¬ (m : Int) < 8 * (x.n3 : Int) + 16 := by omega
      have hc2 : ¬ 8 * (x.n3 : Int) + 16 < (m : Int) := by omega
      have Hr := Lib.hid hr
      have hm8 : Hid (m = 8 * (x.n3 + 2)) := show m = 8 * (x.n3 + 2) by omega
      have hmle : m ≤ 8 * (x.n3 + 2) := by omega
      have hmge : 8 * (x.n3 + 2) ≤ m := by omega
      have hm' : m ≤ 1000 := by omega
      clear hr hlen hc
      have hT : ∀ k, Hid (numsK bs k ++ [numAt bs (8 * k)] = numsK bs (k + 1)) := fun k => by
        show _ = _
        unfold numsK
        rw [List.range_succ, List.map_append]; rfl
      have hT0 : Hid (numsK bs 0 = []) := rfl
      have hsp : Hid (numsK bs (x.n3 + 2) = numAt bs 0 :: numAt bs 8 :: cellsK bs x.n3) := numsK_split bs x.n3
      have hsn : Hid (snapOf x.n3 bs = ⟨numAt bs 0, numAt bs 8, cellsK bs x.n3⟩) := rfl
      go_enter Try.func39, Try.ntmps39
      go_wp2_with ((go_at_call 36; (with_reducible refine (hmay _ (h.below (b := w.heap.size) (by (repeat' (first | (with_reducible exact Below.refl _ _) | (with_reducible assumption) | (with_reducible refine Below.drew ?_) | (with_reducible refine below_drewN ?_ _) | (with_reducible refine Below.alloc ?_ ?_ _) | (with_reducible refine Below.setCell ?_ ?_ _) | omega | (simp; done) | (simp; omega)))) (Nat.le_refl _))).mono ?_); rintro e w1 ⟨rfl, hb1⟩); have hp1 := Blk.below (w' := w1) (g := w.heap.size) (t := 42) (cs := [.slice x.A1 x.n1 x.c1, .slice x.A2 x.n2 x.c2, .int .i64 p.regs, .slice x.A3 x.n3 x.c3, .slice x.A4 x.n4 x.c4]) (by (repeat' (first | (with_reducible assumption) | (with_reducible refine Blk.top _ (by first | rfl | omega | (simp; done) | (simp; omega)) rfl) | (with_reducible refine Blk.alloc ?_ _) | (with_reducible refine Blk.drew ?_) | (with_reducible refine Blk.drewN ?_ _) | (with_reducible refine Blk.far ?_ (by first | omega | (simp; done) | (simp; omega)) _)))) hb1 (by first | omega | (simp; done) | (simp; omega)); have hs1 := Blk.below (w' := w1) (g := w.heap.size + 1) (t := 44) (cs := [.int .i64 0, .int .i64 0, .slice none 0 0]) (by (repeat' (first | (with_reducible assumption) | (with_reducible refine Blk.top _ (by first | rfl | omega | (simp; done) | (simp; omega)) rfl) | (with_reducible refine Blk.alloc ?_ _) | (with_reducible refine Blk.drew ?_) | (with_reducible refine Blk.drewN ?_ _) | (with_reducible refine Blk.far ?_ (by first | omega | (simp; done) | (simp; omega)) _)))) hb1 (by first | omega | (simp; done) | (simp; omega)); obtain ⟨y10, y11, y12, y13, y14⟩ := blk5 hp1; obtain ⟨j10, j11, j12⟩ := blk3 hs1; have f10 := hs1.frozen 0; have f11 := hs1.frozen 1; have f12 := hs1.frozen 2; have sz1 := hs1.lt; have rs1 := hb1.size; replace hb1 := below_then' (a := w) (B := w.heap.size) (by (repeat' (first | (with_reducible exact Below.refl _ _) | (with_reducible assumption) | (with_reducible refine Below.drew ?_) | (with_reducible refine below_drewN ?_ _) | (with_reducible refine Below.alloc ?_ ?_ _) | (with_reducible refine Below.setCell ?_ ?_ _) | omega | (simp; done) | (simp; omega)))) hb1 (by first | omega | (simp; done) | (simp; omega)); have hb1s := hb1.size)
      go_loopw [6, 7] (fun v i wr => ∃ (k : Nat) (A3 : Option Addr) (c3 : Nat), k ≤ x.n3 + 2 ∧ i = .int .i64 ((8 * k : Nat) : Int) ∧ v = .slice A3 k c3 ∧ Ow iv wr w.heap.size 3 A3 k c3 (numsK bs k) ∧ Blk wr w.heap.size 42 [.slice x.A1 x.n1 x.c1, .slice x.A2 x.n2 x.c2, .int .i64 p.regs, .slice x.A3 x.n3 x.c3, .slice x.A4 x.n4 x.c4] ∧ Blk wr (w.heap.size + 1) 44 [.int .i64 0, .int .i64 0, .slice none 0 0] ∧ Below w.heap.size w wr) (fun _ i _ => m - (intOf i).toNat)
      case atStart => exact ⟨0, none, 0, by omega, rfl, rfl, by rw [hT0.out]; exact Ow.nil _ _ _ _, hp1, hs1, hb1⟩
      case round =>
        clear hp1 hs1 hb1 hb1s y10 y11 y12 y13 y14 j10 j11 j12 f10 f11 f12 sz1 rs1
        obtain ⟨k, A3, c3, hk, rfl, rfl, hown, hp, hs, hbel⟩ := hrel
        have hbs := hbel.size
        by_cases hlt : k < x.n3 + 2
        · have hlt' : ((8 * k : Nat) : Int) < (m : Int) := by omega
          have hcut := run_cut_mid (P := Try.prog) elemU8 B m d (8 * k) (8 * k + 8) (by omega) (by omega)
          have hrb := mid_rb (hl.below hbel (Nat.le_refl _)) (k := 8 * k) (m := 8) (by omega) hm
          rw [show 8 * k + 8 - 8 * k = 8 by omega] at hcut
          have hget := fun (w : World) (A : Option Addr) hl => refget_any A (d - 8 * k) ((bs.drop (8 * k)).take 8) w hl
          have hnum : Hid (sg (getL ((bs.drop (8 * k)).take 8)) = numAt bs (8 * k)) := rfl
          rw [hnum.out] at hget
          have hTk := hT k
          generalize (if d = 8 * k then B else B.map (·.add (8 * k * 1))) = B' at *
          generalize numAt bs (8 * k) = v at *
          clear hT hT0 hnum hsp
          have hcast : ((8 * k + 8 : Nat) : Int) = ((8 * k : Nat) : Int) + 8 := by omega
          rw [hcast] at hcut
          obtain ⟨i, hi⟩ : ∃ i : Nat, 8 * k = i := ⟨_, rfl⟩
          have Hi := Lib.hid hi
          rw [hi] at hcut hlt' hget hrb
          rw [hi]
          have hi1000 : i ≤ 1000 := by omega
          clear hi hcast
          go_wp2_with (first
            | ((go_at_call 78; (with_reducible refine (hget _ _ hrb).mono ?_); rintro e w5 ⟨rfl, hb5⟩); have own5 := hown.below hb5 (Nat.le_refl _); have hp5 := hp.below (w' := w5) hb5 hp.lt; have hs5 := hs.below (w' := w5) hb5 hs.lt; replace hb5 := below_then' (a := w) (B := w.heap.size) (by (repeat' (first | (with_reducible exact Below.refl _ _) | (with_reducible assumption) | (with_reducible refine Below.drew ?_) | (with_reducible refine below_drewN ?_ _) | (with_reducible refine Below.alloc ?_ ?_ _) | (with_reducible refine Below.setCell ?_ ?_ _) | omega | (simp; done) | (simp; omega)))) hb5 (by first | omega | (simp; done) | (simp; omega)); have hb5s := hb5.size)
            | (at_builtin; refine wpList_app rfl rfl elemInt iv_one (s := .tmp 48) (N := k + 1) (L := numsK bs (k + 1)) rfl (own5.below (b := w5.heap.size) (by (repeat' (first | (with_reducible exact Below.refl _ _) | (with_reducible assumption) | (with_reducible refine Below.drew ?_) | (with_reducible refine below_drewN ?_ _) | (with_reducible refine Below.alloc ?_ ?_ _) | (with_reducible refine Below.setCell ?_ ?_ _) | omega | (simp; done) | (simp; omega)))) (Nat.le_refl _)) rfl (k := [v]) (Rd.of_block (l := [v]) (heap_top _ _ (by simp)) rfl) rfl hTk.out (by unfold maxLen; omega) (by omega) (by first | omega | (simp; done) | (simp; omega)) ?_; intro A6 c6 w6 own6 hg6 hat6 hb6; have hp6 : Blk w6 w.heap.size 42 [.slice x.A1 x.n1 x.c1, .slice x.A2 x.n2 x.c2, .int .i64 p.regs, .slice x.A3 x.n3 x.c3, .slice x.A4 x.n4 x.c4] := Blk.grown (by (repeat' (first | (with_reducible assumption) | (with_reducible refine Blk.top _ (by first | rfl | omega | (simp; done) | (simp; omega)) rfl) | (with_reducible refine Blk.alloc ?_ _) | (with_reducible refine Blk.drew ?_) | (with_reducible refine Blk.drewN ?_ _) | (with_reducible refine Blk.far ?_ (by first | omega | (simp; done) | (simp; omega)) _)))) hg6 (own5.ne_ hp5 (by decide)); have hs6 : Blk w6 (w.heap.size + 1) 44 [.int .i64 0, .int .i64 0, .slice none 0 0] := Blk.grown (by (repeat' (first | (with_reducible assumption) | (with_reducible refine Blk.top _ (by first | rfl | omega | (simp; done) | (simp; omega)) rfl) | (with_reducible refine Blk.alloc ?_ _) | (with_reducible refine Blk.drew ?_) | (with_reducible refine Blk.drewN ?_ _) | (with_reducible refine Blk.far ?_ (by first | omega | (simp; done) | (simp; omega)) _)))) hg6 (own5.ne_ hs5 (by decide)); replace hb6 := below_then' (a := w) (B := w.heap.size) (by (repeat' (first | (with_reducible exact Below.refl _ _) | (with_reducible assumption) | (with_reducible refine Below.drew ?_) | (with_reducible refine below_drewN ?_ _) | (with_reducible refine Below.alloc ?_ ?_ _) | (with_reducible refine Below.setCell ?_ ?_ _) | omega | (simp; done) | (simp; omega)))) hb6 (by first | omega | (simp; done) | (simp; omega)); have hb6s := hb6.size))
          go_roundw
          case rel => exact ⟨k + 1, A6, c6, by omega, by rw [show 8 * (k + 1) = i + 8 by have := Hi.out; omega]; go_num, rfl, own6, hp6, hs6, hb6⟩
          case measure => simp [intOf]; omega
        · have hkn : k = x.n3 + 2 := by omega
          subst hkn
          have hge : (m : Int) ≤ ((8 * (x.n3 + 2) : Nat) : Int) := by omega
          have hcp := hown.cap
          obtain ⟨g, rfl, hgb, hgl⟩ := hown.addr (by omega)
          have hri := hown.rd.ri
          rw [hsp.out] at hri hown
          have fin : ∀ W, Ow iv W w.heap.size 3 (some ⟨g, 0, none⟩) (x.n3 + 2) c3 (numAt bs 0 :: numAt bs 8 :: cellsK bs x.n3) → RI W (if c3 = 2 then some ⟨g, 0, none⟩ else (some ⟨g, 0, none⟩ : Option Addr).map (·.add (2 * 1))) x.n3 (cellsK bs x.n3) := fun W ho => by
            have := cut_ri ho.rd.ri (k := 2) (by omega) hcp.1
            rw [show x.n3 + 2 - 2 = x.n3 by omega] at this
            exact this
          have k0 : wr.cell? ⟨g, 0, none⟩ = some (.int .i64 (numAt bs 0)) := by obtain ⟨b, o, e, _, hc⟩ := hri.at_ (k := 0) (by omega); injection e with e; injection e with e1 e2 _; subst e1 e2; exact hc
          have k1 : wr.cell? ⟨g, 1, none⟩ = some (.int .i64 (numAt bs 8)) := by obtain ⟨b, o, e, _, hc⟩ := hri.at_ (k := 1) (by omega); injection e with e; injection e with e1 e2 _; subst e1 e2; exact hc
          have hri2 := cut_ri hri (k := 2) (by omega) hcp.1
          have hcut : ∀ W, (Instr.slice 22 (.slice (some ⟨g, 0, none⟩) (x.n3 + 2) c3) (some (.int .i64 2)) none none).run Try.prog W = .ok (.slice (if c3 = 2 then some ⟨g, 0, none⟩ else (some ⟨g, 0, none⟩ : Option Addr).map (·.add (2 * 1))) (x.n3 + 2 - 2) (c3 - 2)) W := fun W => run_cut_from (P := Try.prog) elemInt (some ⟨g, 0, none⟩) (x.n3 + 2) c3 2 (by omega) W
          rw [show x.n3 + 2 - 2 = x.n3 by omega] at hcut hri2
          generalize (if c3 = 2 then some ⟨g, 0, none⟩ else (some ⟨g, 0, none⟩ : Option Addr).map (·.add (2 * 1))) = A4 at *
          have hri3 : RI wr A4 x.n3 (cellsK bs x.n3) := hri2
          rw [hsn.out] at Hr
          clear hT hT0 hri hri2 hsp hsn
          generalize numAt bs 0 = T at *
          generalize numAt bs 8 = Hh at *
          generalize cellsK bs x.n3 = CC at *
          have Hr2 : Hid ((if stFits p ⟨T, Hh, CC⟩ = true then ((⟨T, Hh, CC⟩ : SV), 0) else (noSnap, 11)) = r) := Hr
          clear Hr
          have i0 : (0 : Int) < (x.n3 : Int) + 2 := by omega
          have i1 : (1 : Int) < (x.n3 : Int) + 2 := by omega
          have i2 : (2 : Int) ≤ (x.n3 : Int) + 2 := by omega
          have hfit := fun w h k' => refstatefits_any x p T Hh A4 x.n3 (c3 - 2) CC w h k' (by unfold maxLen; omega)
          obtain ⟨yw0, yw1, yw2, yw3, yw4⟩ := blk5 hp
          obtain ⟨jw0, jw1, jw2⟩ := blk3 hs
          have zp := hp.lt
          have zs := hs.lt
          go_wp2
          go_region_held3 (fun w' => w'.cell? ⟨g, 0, none⟩ = some (.int .i64 T) ∧ w'.cell? ⟨g, 1, none⟩ = some (.int .i64 Hh)) (go_keep) (fail)
          generalize stFits p ⟨T, Hh, CC⟩ = fb at *
          cases fb with
          | true =>
            have hr2 : Hid (r = (⟨T, Hh, CC⟩, 0)) := by show r = _; rw [← Hr2.out]; rfl
            clear Hr2
            go_wp2_with ((go_at_call 33; (with_reducible refine (hfit _ (h.below (b := w.heap.size) (by (repeat' (first | (with_reducible exact Below.refl _ _) | (with_reducible assumption) | (with_reducible refine Below.drew ?_) | (with_reducible refine below_drewN ?_ _) | (with_reducible refine Below.alloc ?_ ?_ _) | (with_reducible refine Below.setCell ?_ ?_ _) | omega | (simp; done) | (simp; omega)))) (Nat.le_refl _)) (hri3.below (B := wr.heap.size) (by (repeat' (first | (with_reducible exact Below.refl _ _) | (with_reducible assumption) | (with_reducible refine Below.drew ?_) | (with_reducible refine below_drewN ?_ _) | (with_reducible refine Below.alloc ?_ ?_ _) | (with_reducible refine Below.setCell ?_ ?_ _) | omega | (simp; done) | (simp; omega)))) (Nat.le_refl _))).mono ?_); rintro e w7 ⟨rfl, hb7⟩); have hbW : Below wr.heap.size wr w7 := below_then' (a := wr) (B := wr.heap.size) (by (repeat' (first | (with_reducible exact Below.refl _ _) | (with_reducible assumption) | (with_reducible refine Below.drew ?_) | (with_reducible refine below_drewN ?_ _) | (with_reducible refine Below.alloc ?_ ?_ _) | (with_reducible refine Below.setCell ?_ ?_ _) | omega | (simp; done) | (simp; omega)))) hb7 (by first | omega | (simp; done) | (simp; omega)); have hn7 := Blk.below (w' := w7) (g := wr.heap.size) (t := 44) (cs := [.int .i64 T, .int .i64 Hh, .slice A4 x.n3 (c3 - 2)]) (by (repeat' (first | (with_reducible assumption) | (with_reducible refine Blk.top _ (by first | rfl | omega | (simp; done) | (simp; omega)) rfl) | (with_reducible refine Blk.alloc ?_ _) | (with_reducible refine Blk.drew ?_) | (with_reducible refine Blk.drewN ?_ _) | (with_reducible refine Blk.far ?_ (by first | omega | (simp; done) | (simp; omega)) _)))) hb7 (by first | omega | (simp; done) | (simp; omega)); obtain ⟨v70, v71, v72⟩ := blk3 hn7; have hs7 := hs.below (w' := w7) hbW zs; have own7 := hown.below (w' := w7) hbW (Nat.le_refl _); obtain ⟨u70, u71, u72⟩ := blk3 hs7; have f70 := hs7.frozen 0; have f71 := hs7.frozen 1; have f72 := hs7.frozen 2; have zz7 := hs7.lt; replace hb7 := below_then' (a := w) (B := w.heap.size) (by (repeat' (first | (with_reducible exact Below.refl _ _) | (with_reducible assumption) | (with_reducible refine Below.drew ?_) | (with_reducible refine below_drewN ?_ _) | (with_reducible refine Below.alloc ?_ ?_ _) | (with_reducible refine Below.setCell ?_ ?_ _) | omega | (simp; done) | (simp; omega)))) hb7 (by first | omega | (simp; done) | (simp; omega)); have hb7s := hb7.size)
            refine bodyPost_ret (v := .tuple #[.agg #[.int .i64 T, .int .i64 Hh, .slice A4 x.n3 (c3 - 2)], .int .i64 0]) (by simp [results, Try.results39, go_sem, u70, u71, u72]) rfl ?_
            exact ⟨A4, x.n3, c3 - 2, by rw [hr2.out]; rfl, by rw [hr2.out]; exact fin _ (((own7.setFar hs7 (by decide) 0 _).setFar (hs7.set_ 0 _) (by decide) 1 _).setFar ((hs7.set_ 0 _).set_ 1 _) (by decide) 2 _), by omega, by omega, (by (repeat' (first | (with_reducible exact Below.refl _ _) | (with_reducible assumption) | (with_reducible refine Below.drew ?_) | (with_reducible refine below_drewN ?_ _) | (with_reducible refine Below.alloc ?_ ?_ _) | (with_reducible refine Below.setCell ?_ ?_ _) | omega | (simp; done) | (simp; omega))))⟩
          | false =>
            have hr2 : Hid (r = (noSnap, 11)) := by show r = _; rw [← Hr2.out]; rfl
            clear Hr2
            go_wp2_with ((go_at_call 33; (with_reducible refine (hfit _ (h.below (b := w.heap.size) (by (repeat' (first | (with_reducible exact Below.refl _ _) | (with_reducible assumption) | (with_reducible refine Below.drew ?_) | (with_reducible refine below_drewN ?_ _) | (with_reducible refine Below.alloc ?_ ?_ _) | (with_reducible refine Below.setCell ?_ ?_ _) | omega | (simp; done) | (simp; omega)))) (Nat.le_refl _)) (hri3.below (B := wr.heap.size) (by (repeat' (first | (with_reducible exact Below.refl _ _) | (with_reducible assumption) | (with_reducible refine Below.drew ?_) | (with_reducible refine below_drewN ?_ _) | (with_reducible refine Below.alloc ?_ ?_ _) | (with_reducible refine Below.setCell ?_ ?_ _) | omega | (simp; done) | (simp; omega)))) (Nat.le_refl _))).mono ?_); rintro e w7 ⟨rfl, hb7⟩); have hbW : Below wr.heap.size wr w7 := below_then' (a := wr) (B := wr.heap.size) (by (repeat' (first | (with_reducible exact Below.refl _ _) | (with_reducible assumption) | (with_reducible refine Below.drew ?_) | (with_reducible refine below_drewN ?_ _) | (with_reducible refine Below.alloc ?_ ?_ _) | (with_reducible refine Below.setCell ?_ ?_ _) | omega | (simp; done) | (simp; omega)))) hb7 (by first | omega | (simp; done) | (simp; omega)); have hn7 := Blk.below (w' := w7) (g := wr.heap.size) (t := 44) (cs := [.int .i64 T, .int .i64 Hh, .slice A4 x.n3 (c3 - 2)]) (by (repeat' (first | (with_reducible assumption) | (with_reducible refine Blk.top _ (by first | rfl | omega | (simp; done) | (simp; omega)) rfl) | (with_reducible refine Blk.alloc ?_ _) | (with_reducible refine Blk.drew ?_) | (with_reducible refine Blk.drewN ?_ _) | (with_reducible refine Blk.far ?_ (by first | omega | (simp; done) | (simp; omega)) _)))) hb7 (by first | omega | (simp; done) | (simp; omega)); obtain ⟨v70, v71, v72⟩ := blk3 hn7; have hs7 := hs.below (w' := w7) hbW zs; have own7 := hown.below (w' := w7) hbW (Nat.le_refl _); obtain ⟨u70, u71, u72⟩ := blk3 hs7; have f70 := hs7.frozen 0; have f71 := hs7.frozen 1; have f72 := hs7.frozen 2; have zz7 := hs7.lt; replace hb7 := below_then' (a := w) (B := w.heap.size) (by (repeat' (first | (with_reducible exact Below.refl _ _) | (with_reducible assumption) | (with_reducible refine Below.drew ?_) | (with_reducible refine below_drewN ?_ _) | (with_reducible refine Below.alloc ?_ ?_ _) | (with_reducible refine Below.setCell ?_ ?_ _) | omega | (simp; done) | (simp; omega)))) hb7 (by first | omega | (simp; done) | (simp; omega)); have hb7s := hb7.size)
            refine bodyPost_ret (v := .tuple #[.agg #[.int .i64 0, .int .i64 0, .slice none 0 0], .int .i64 11]) (by simp [results, Try.results39, go_sem, u70, u71, u72]) rfl ?_
            exact StEnd.bad 11 (by rw [hr2.out]) (by rw [hr2.out]; rfl) (by (repeat' (first | (with_reducible exact Below.refl _ _) | (with_reducible assumption) | (with_reducible refine Below.drew ?_) | (with_reducible refine below_drewN ?_ _) | (with_reducible refine Below.alloc ?_ ?_ _) | (with_reducible refine Below.setCell ?_ ?_ _) | omega | (simp; done) | (simp; omega))))
end Go.Proofs.Ythplicnidknphaa
