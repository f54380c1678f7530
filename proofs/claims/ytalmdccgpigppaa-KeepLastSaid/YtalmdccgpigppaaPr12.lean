/- Parts: StateE. -/
import Derived.Test.YtalmdccgpigppaaPr11
namespace Go.Proofs.Ytalmdccgpigppaa
open Go.RowKit

theorem Ow.grownBlk {α : Type} {enc : α → Value} {w w' : World} {base n c g : Nat} {e t : TypeId} {A : Option Addr} {l : List α} {cs : List Value} (h : Ow enc w base e A n c l) (hg : w.grownBy w' (some g)) (hb : Blk w g t cs) (hne : e ≠ t) : Ow enc w' base e A n c l :=
  ⟨h.1, own_keep (F := (· = g)) h.2 (Keep.of_grown hg (fun x e => by injection e with e; exact e.symm)) (fun x hx e => own_ne h.2 hb hne (by subst e; exact hx))⟩
def noSnap : SV := ⟨0, 0, []⟩
def cellsK (bs : List UInt8) (k : Nat) : List Int := (List.range k).map fun k => numAt bs (16 + 8 * k)
def snapOf (n : Nat) (bs : List UInt8) : SV := ⟨numAt bs 0, numAt bs 8, cellsK bs n⟩
def stRead (p : PV) (bs : List UInt8) : SV × Nat :=
  if mayB p = false then (noSnap, 2)
  else if bs.length < 8 * (2 + p.cells.length) then (noSnap, 10)
  else if 8 * (2 + p.cells.length) < bs.length then (noSnap, 12)
  else if stFits p (snapOf p.cells.length bs) then (snapOf p.cells.length bs, 0) else (noSnap, 11)
/-- What reading a snapshot hands back. -/
def StEnd (w : World) (r : SV × Nat) (e : Ending) (w' : World) : Prop := ∃ A m d, e = .returned (.tuple #[.agg #[.int .i64 r.1.tick, .int .i64 r.1.hash, .slice A m d], .int .i64 (r.2 : Nat)]) ∧ RI w' A m r.1.cells ∧ m ≤ d ∧ d ≤ maxLen ∧ Below w.heap.size w w'
theorem StEnd.bad {w w' : World} {r : SV × Nat} (z : Int) (h1 : r.1 = noSnap) (h2 : z = (r.2 : Nat)) (hb : Below w.heap.size w w') : StEnd w r (.returned (.tuple #[.agg #[.int .i64 0, .int .i64 0, .slice none 0 0], .int .i64 z])) w' :=
  ⟨none, 0, 0, by rw [h1, h2]; rfl, by rw [h1]; exact ⟨rfl, Row.nil _ _ _⟩, Nat.le_refl _, by simp [maxLen], hb⟩

/-- The same, and the cells are its own. -/
def StEndO (w : World) (r : SV × Nat) (e : Ending) (w' : World) : Prop := ∃ A m d, e = .returned (.tuple #[.agg #[.int .i64 r.1.tick, .int .i64 r.1.hash, .slice A m d], .int .i64 (r.2 : Nat)]) ∧ (∃ b, Ow iv w' b 3 A m d r.1.cells) ∧ Below w.heap.size w w'
theorem StEndO.bad {w w' : World} {r : SV × Nat} (z : Int) (h1 : r.1 = noSnap) (h2 : z = (r.2 : Nat)) (hb : Below w.heap.size w w') : StEndO w r (.returned (.tuple #[.agg #[.int .i64 0, .int .i64 0, .slice none 0 0], .int .i64 z])) w' :=
  ⟨none, 0, 0, by rw [h1, h2]; rfl, by rw [h1]; exact ⟨0, Ow.nil _ _ _ _⟩, hb⟩
set_option maxRecDepth 100000 in
set_option maxHeartbeats 4000000 in
theorem stateread_own (x : PA) (p : PV) (B : Option Addr) (m d : Nat) (bs : List UInt8) (w : World) (h : ProgRd w x p) (hl : RB w B m bs) (hm : m ≤ d) (hd : d ≤ maxLen) :
    Calls Try.prog 74 #[.agg #[.slice x.A1 x.n1 x.c1, .slice x.A2 x.n2 x.c2, .int .i64 p.regs, .slice x.A3 x.n3 x.c3, .slice x.A4 x.n4 x.c4], .slice B m d] w (StEndO w (stRead p bs)) := by
  have hmay := fun w h => cmay_any x p w h
  have hlen := hl.1
  have hn3 := h.r3.1
  generalize hr : stRead p bs = r
  unfold stRead at hr
  have hMd : m ≤ 9223372036854775807 := by unfold maxLen at hd; omega
  cases hmb : mayB p with
  | false =>
    rw [if_pos hmb] at hr
    rw [hmb] at hmay
    subst hr
    clear hmb hlen hn3
    go_enter Try.func74, Try.ntmps74
    go_wp2_with ((go_at_call 99; (with_reducible refine (hmay _ (h.below (b := w.heap.size) (by (repeat' (first | (with_reducible exact Below.refl _ _) | (with_reducible assumption) | (with_reducible refine Below.drew ?_) | (with_reducible refine below_drewN ?_ _) | (with_reducible refine Below.alloc ?_ ?_ _) | (with_reducible refine Below.setCell ?_ ?_ _) | omega | (simp; done) | (simp; omega)))) (Nat.le_refl _))).mono ?_); rintro e w1 ⟨rfl, hb1⟩); have hp1 := Blk.below (w' := w1) (g := w.heap.size) (t := 93) (cs := [.slice x.A1 x.n1 x.c1, .slice x.A2 x.n2 x.c2, .int .i64 p.regs, .slice x.A3 x.n3 x.c3, .slice x.A4 x.n4 x.c4]) (by (repeat' (first | (with_reducible assumption) | (with_reducible refine Blk.top _ (by first | rfl | omega | (simp; done) | (simp; omega)) rfl) | (with_reducible refine Blk.alloc ?_ _) | (with_reducible refine Blk.drew ?_) | (with_reducible refine Blk.drewN ?_ _) | (with_reducible refine Blk.far ?_ (by first | omega | (simp; done) | (simp; omega)) _)))) hb1 (by first | omega | (simp; done) | (simp; omega)); have hs1 := Blk.below (w' := w1) (g := w.heap.size + 1) (t := 98) (cs := [.int .i64 0, .int .i64 0, .slice none 0 0]) (by (repeat' (first | (with_reducible assumption) | (with_reducible refine Blk.top _ (by first | rfl | omega | (simp; done) | (simp; omega)) rfl) | (with_reducible refine Blk.alloc ?_ _) | (with_reducible refine Blk.drew ?_) | (with_reducible refine Blk.drewN ?_ _) | (with_reducible refine Blk.far ?_ (by first | omega | (simp; done) | (simp; omega)) _)))) hb1 (by first | omega | (simp; done) | (simp; omega)); obtain ⟨y10, y11, y12, y13, y14⟩ := blk5 hp1; obtain ⟨j10, j11, j12⟩ := blk3 hs1; have f10 := hs1.frozen 0; have f11 := hs1.frozen 1; have f12 := hs1.frozen 2; have sz1 := hs1.lt; have rs1 := hb1.size; replace hb1 := below_then' (a := w) (B := w.heap.size) (by (repeat' (first | (with_reducible exact Below.refl _ _) | (with_reducible assumption) | (with_reducible refine Below.drew ?_) | (with_reducible refine below_drewN ?_ _) | (with_reducible refine Below.alloc ?_ ?_ _) | (with_reducible refine Below.setCell ?_ ?_ _) | omega | (simp; done) | (simp; omega)))) hb1 (by first | omega | (simp; done) | (simp; omega)); have hb1s := hb1.size)
    refine bodyPost_ret (v := .tuple #[.agg #[.int .i64 0, .int .i64 0, .slice none 0 0], .int .i64 2]) (by simp [results, Try.results74, go_sem, j10, j11, j12]) rfl ?_
    exact StEndO.bad 2 rfl rfl (by (repeat' (first | (with_reducible exact Below.refl _ _) | (with_reducible assumption) | (with_reducible refine Below.drew ?_) | (with_reducible refine below_drewN ?_ _) | (with_reducible refine Below.alloc ?_ ?_ _) | (with_reducible refine Below.setCell ?_ ?_ _) | omega | (simp; done) | (simp; omega))))
  | true =>
    rw [if_neg (by simp [hmb])] at hr
    rw [hmb] at hmay
    have hn60 := (mayB_true.1 hmb).2.2.2.2.1
    rw [hlen, hn3] at hr
    rw [hn3] at hn60
    have hn3' := Lib.hid hn3
    clear hmb hn3
    rcases (show m < 8 * (2 + x.n3) ∨ 8 * (2 + x.n3) < m ∨ m = 8 * (2 + x.n3) by omega) with hc | hc | hc
    · rw [if_pos hc] at hr
      subst hr
      have hc' : (m : Int) < 8 * (2 + (x.n3 : Int)) := by omega
      clear hlen
      go_enter Try.func74, Try.ntmps74
      go_wp2_with ((go_at_call 99; (with_reducible refine (hmay _ (h.below (b := w.heap.size) (by (repeat' (first | (with_reducible exact Below.refl _ _) | (with_reducible assumption) | (with_reducible refine Below.drew ?_) | (with_reducible refine below_drewN ?_ _) | (with_reducible refine Below.alloc ?_ ?_ _) | (with_reducible refine Below.setCell ?_ ?_ _) | omega | (simp; done) | (simp; omega)))) (Nat.le_refl _))).mono ?_); rintro e w1 ⟨rfl, hb1⟩); have hp1 := Blk.below (w' := w1) (g := w.heap.size) (t := 93) (cs := [.slice x.A1 x.n1 x.c1, .slice x.A2 x.n2 x.c2, .int .i64 p.regs, .slice x.A3 x.n3 x.c3, .slice x.A4 x.n4 x.c4]) (by (repeat' (first | (with_reducible assumption) | (with_reducible refine Blk.top _ (by first | rfl | omega | (simp; done) | (simp; omega)) rfl) | (with_reducible refine Blk.alloc ?_ _) | (with_reducible refine Blk.drew ?_) | (with_reducible refine Blk.drewN ?_ _) | (with_reducible refine Blk.far ?_ (by first | omega | (simp; done) | (simp; omega)) _)))) hb1 (by first | omega | (simp; done) | (simp; omega)); have hs1 := Blk.below (w' := w1) (g := w.heap.size + 1) (t := 98) (cs := [.int .i64 0, .int .i64 0, .slice none 0 0]) (by (repeat' (first | (with_reducible assumption) | (with_reducible refine Blk.top _ (by first | rfl | omega | (simp; done) | (simp; omega)) rfl) | (with_reducible refine Blk.alloc ?_ _) | (with_reducible refine Blk.drew ?_) | (with_reducible refine Blk.drewN ?_ _) | (with_reducible refine Blk.far ?_ (by first | omega | (simp; done) | (simp; omega)) _)))) hb1 (by first | omega | (simp; done) | (simp; omega)); obtain ⟨y10, y11, y12, y13, y14⟩ := blk5 hp1; obtain ⟨j10, j11, j12⟩ := blk3 hs1; have f10 := hs1.frozen 0; have f11 := hs1.frozen 1; have f12 := hs1.frozen 2; have sz1 := hs1.lt; have rs1 := hb1.size; replace hb1 := below_then' (a := w) (B := w.heap.size) (by (repeat' (first | (with_reducible exact Below.refl _ _) | (with_reducible assumption) | (with_reducible refine Below.drew ?_) | (with_reducible refine below_drewN ?_ _) | (with_reducible refine Below.alloc ?_ ?_ _) | (with_reducible refine Below.setCell ?_ ?_ _) | omega | (simp; done) | (simp; omega)))) hb1 (by first | omega | (simp; done) | (simp; omega)); have hb1s := hb1.size)
      refine bodyPost_ret (v := .tuple #[.agg #[.int .i64 0, .int .i64 0, .slice none 0 0], .int .i64 10]) (by simp [results, Try.results74, go_sem, j10, j11, j12]) rfl ?_
      exact StEndO.bad 10 rfl rfl (by (repeat' (first | (with_reducible exact Below.refl _ _) | (with_reducible assumption) | (with_reducible refine Below.drew ?_) | (with_reducible refine below_drewN ?_ _) | (with_reducible refine Below.alloc ?_ ?_ _) | (with_reducible refine Below.setCell ?_ ?_ _) | omega | (simp; done) | (simp; omega))))
    · rw [if_neg (by omega), if_pos hc] at hr
      subst hr
      have hc' : ¬ (m : Int) < 8 * (2 + (x.n3 : Int)) := by omega
      have hc2 : 8 * (2 + (x.n3 : Int)) < (m : Int) := by omega
      clear hlen
      go_enter Try.func74, Try.ntmps74
      go_wp2_with ((go_at_call 99; (with_reducible refine (hmay _ (h.below (b := w.heap.size) (by (repeat' (first | (with_reducible exact Below.refl _ _) | (with_reducible assumption) | (with_reducible refine Below.drew ?_) | (with_reducible refine below_drewN ?_ _) | (with_reducible refine Below.alloc ?_ ?_ _) | (with_reducible refine Below.setCell ?_ ?_ _) | omega | (simp; done) | (simp; omega)))) (Nat.le_refl _))).mono ?_); rintro e w1 ⟨rfl, hb1⟩); have hp1 := Blk.below (w' := w1) (g := w.heap.size) (t := 93) (cs := [.slice x.A1 x.n1 x.c1, .slice x.A2 x.n2 x.c2, .int .i64 p.regs, .slice x.A3 x.n3 x.c3, .slice x.A4 x.n4 x.c4]) (by (repeat' (first | (with_reducible assumption) | (with_reducible refine Blk.top _ (by first | rfl | omega | (simp; done) | (simp; omega)) rfl) | (with_reducible refine Blk.alloc ?_ _) | (with_reducible refine Blk.drew ?_) | (with_reducible refine Blk.drewN ?_ _) | (with_reducible refine Blk.far ?_ (by first | omega | (simp; done) | (simp; omega)) _)))) hb1 (by first | omega | (simp; done) | (simp; omega)); have hs1 := Blk.below (w' := w1) (g := w.heap.size + 1) (t := 98) (cs := [.int .i64 0, .int .i64 0, .slice none 0 0]) (by (repeat' (first | (with_reducible assumption) | (with_reducible refine Blk.top _ (by first | rfl | omega | (simp; done) | (simp; omega)) rfl) | (with_reducible refine Blk.alloc ?_ _) | (with_reducible refine Blk.drew ?_) | (with_reducible refine Blk.drewN ?_ _) | (with_reducible refine Blk.far ?_ (by first | omega | (simp; done) | (simp; omega)) _)))) hb1 (by first | omega | (simp; done) | (simp; omega)); obtain ⟨y10, y11, y12, y13, y14⟩ := blk5 hp1; obtain ⟨j10, j11, j12⟩ := blk3 hs1; have f10 := hs1.frozen 0; have f11 := hs1.frozen 1; have f12 := hs1.frozen 2; have sz1 := hs1.lt; have rs1 := hb1.size; replace hb1 := below_then' (a := w) (B := w.heap.size) (by (repeat' (first | (with_reducible exact Below.refl _ _) | (with_reducible assumption) | (with_reducible refine Below.drew ?_) | (with_reducible refine below_drewN ?_ _) | (with_reducible refine Below.alloc ?_ ?_ _) | (with_reducible refine Below.setCell ?_ ?_ _) | omega | (simp; done) | (simp; omega)))) hb1 (by first | omega | (simp; done) | (simp; omega)); have hb1s := hb1.size)
      refine bodyPost_ret (v := .tuple #[.agg #[.int .i64 0, .int .i64 0, .slice none 0 0], .int .i64 12]) (by simp [results, Try.results74, go_sem, j10, j11, j12]) rfl ?_
      exact StEndO.bad 12 rfl rfl (by (repeat' (first | (with_reducible exact Below.refl _ _) | (with_reducible assumption) | (with_reducible refine Below.drew ?_) | (with_reducible refine below_drewN ?_ _) | (with_reducible refine Below.alloc ?_ ?_ _) | (with_reducible refine Below.setCell ?_ ?_ _) | omega | (simp; done) | (simp; omega))))
    · rw [if_neg (by omega), if_neg (by omega)] at hr
      have hc' : ¬ (m : Int) < 8 * (2 + (x.n3 : Int)) := by omega
      have hc2 : ¬ 8 * (2 + (x.n3 : Int)) < (m : Int) := by omega
      have Hr := Lib.hid hr
      have hbl : bs.length = 16 + 8 * x.n3 := by omega
      have hge : 16 + 8 * x.n3 ≤ bs.length := by omega
      have hm' : m ≤ 1000 := by omega
      have hnum := fun w hl => numbers_any B m d bs w hl hm hd
      clear hr hlen hc hbl
      have hT : ∀ k, Hid (cellsK bs k ++ [numAt bs (16 + 8 * k)] = cellsK bs (k + 1)) := fun k => by
        show _ = _
        unfold cellsK
        rw [List.range_succ, List.map_append]; rfl
      have hT0 : Hid (cellsK bs 0 = []) := rfl
      have hsn : Hid (snapOf x.n3 bs = ⟨numAt bs 0, numAt bs 8, cellsK bs x.n3⟩) := rfl
      go_enter Try.func74, Try.ntmps74
      go_wp2_with (first
        | ((go_at_call 99; (with_reducible refine (hmay _ (h.below (b := w.heap.size) (by (repeat' (first | (with_reducible exact Below.refl _ _) | (with_reducible assumption) | (with_reducible refine Below.drew ?_) | (with_reducible refine below_drewN ?_ _) | (with_reducible refine Below.alloc ?_ ?_ _) | (with_reducible refine Below.setCell ?_ ?_ _) | omega | (simp; done) | (simp; omega)))) (Nat.le_refl _))).mono ?_); rintro e w1 ⟨rfl, hb1⟩); have hp1 := Blk.below (w' := w1) (g := w.heap.size) (t := 93) (cs := [.slice x.A1 x.n1 x.c1, .slice x.A2 x.n2 x.c2, .int .i64 p.regs, .slice x.A3 x.n3 x.c3, .slice x.A4 x.n4 x.c4]) (by (repeat' (first | (with_reducible assumption) | (with_reducible refine Blk.top _ (by first | rfl | omega | (simp; done) | (simp; omega)) rfl) | (with_reducible refine Blk.alloc ?_ _) | (with_reducible refine Blk.drew ?_) | (with_reducible refine Blk.drewN ?_ _) | (with_reducible refine Blk.far ?_ (by first | omega | (simp; done) | (simp; omega)) _)))) hb1 (by first | omega | (simp; done) | (simp; omega)); have hs1 := Blk.below (w' := w1) (g := w.heap.size + 1) (t := 98) (cs := [.int .i64 0, .int .i64 0, .slice none 0 0]) (by (repeat' (first | (with_reducible assumption) | (with_reducible refine Blk.top _ (by first | rfl | omega | (simp; done) | (simp; omega)) rfl) | (with_reducible refine Blk.alloc ?_ _) | (with_reducible refine Blk.drew ?_) | (with_reducible refine Blk.drewN ?_ _) | (with_reducible refine Blk.far ?_ (by first | omega | (simp; done) | (simp; omega)) _)))) hb1 (by first | omega | (simp; done) | (simp; omega)); obtain ⟨y10, y11, y12, y13, y14⟩ := blk5 hp1; obtain ⟨j10, j11, j12⟩ := blk3 hs1; have f10 := hs1.frozen 0; have f11 := hs1.frozen 1; have f12 := hs1.frozen 2; have sz1 := hs1.lt; have rs1 := hb1.size; replace hb1 := below_then' (a := w) (B := w.heap.size) (by (repeat' (first | (with_reducible exact Below.refl _ _) | (with_reducible assumption) | (with_reducible refine Below.drew ?_) | (with_reducible refine below_drewN ?_ _) | (with_reducible refine Below.alloc ?_ ?_ _) | (with_reducible refine Below.setCell ?_ ?_ _) | omega | (simp; done) | (simp; omega)))) hb1 (by first | omega | (simp; done) | (simp; omega)); have hb1s := hb1.size)
        | ((go_at_call 103; (with_reducible refine (hnum _ (hl.below (B := w.heap.size) (by (repeat' (first | (with_reducible exact Below.refl _ _) | (with_reducible assumption) | (with_reducible refine Below.drew ?_) | (with_reducible refine below_drewN ?_ _) | (with_reducible refine Below.alloc ?_ ?_ _) | (with_reducible refine Below.setCell ?_ ?_ _) | omega | (simp; done) | (simp; omega)))) (Nat.le_refl _))).mono ?_); rintro e w2 ⟨rfl, st2, zs2⟩); have Hz2 := Lib.hid zs2; clear zs2; have hp2 := hp1.below (w' := w2) st2.below hp1.lt; have hs2 := hs1.below (w' := w2) st2.below hs1.lt; have hb2 : Below w.heap.size w w2 := hb1.trans (st2.below.mono (by omega)); have sz2 := hs2.lt)
        | ((go_at_call 132; (with_reducible refine (next_any w1.heap.size bs 0 w1 _ st2 (by omega)).mono ?_); rintro e w3 ⟨rfl, st3, hg3⟩); have hp3 := Blk.grown hp2 hg3 (by simp; omega); have hs3 := Blk.grown hs2 hg3 (by simp; omega); have hb3 : Below w.heap.size w w3 := hb1.trans (st3.below.mono (by omega)); obtain ⟨y30, y31, y32, y33, y34⟩ := blk5 hp3; have sz3 := hs3.lt)
        | ((go_at_call 132; (with_reducible refine (next_any w1.heap.size bs (0 + 8) w1 _ st3 (by omega)).mono ?_); rintro e w4 ⟨rfl, st4, hg4⟩); have hp4 := Blk.grown hp3 hg4 (by simp; omega); have hs4 := Blk.grown hs3 hg4 (by simp; omega); have hb4 : Below w.heap.size w w4 := hb1.trans (st4.below.mono (by omega)); obtain ⟨y40, y41, y42, y43, y44⟩ := blk5 hp4; have sz4 := hs4.lt; have zp4 := hp4.lt))
      have zz1 := sz1
      clear hp1 hs1 hp2 hs2 hp3 hs3 y10 y11 y12 y13 y14 j10 j11 j12 f10 f11 f12 y30 y31 y32 y33 y34 y40 y41 y42 y43 y44 st2 st3 hg3 hg4 hb2 hb3 sz2 sz3 hnum rs1 hb1s sz1
      have hgb := st4.hb
      obtain ⟨_, _, Ab, nb, cb, hkb, _, _, _⟩ := id st4
      have hltb := hkb.lt
      clear hkb
      have hw14 := st4.below.size
      have hgx : w1.heap.size < w4.heap.size := by omega
      clear Hz2
      have hst4' : NumSt w1 w4 w1.heap.size bs 16 := st4
      generalize numAt bs 0 = T at *
      generalize numAt bs 8 = Hh at *
      go_loopw [40] (fun i wr => ∃ (k : Nat) (A3 : Option Addr) (c3 : Nat), k ≤ x.n3 ∧ i = .int .i64 (k : Nat) ∧ NumSt w1 wr w1.heap.size bs (16 + 8 * k) ∧ Blk wr w4.heap.size 98 [.int .i64 T, .int .i64 Hh, .slice A3 k c3] ∧ Ow iv wr w1.heap.size 3 A3 k c3 (cellsK bs k) ∧ Blk wr w.heap.size 93 [.slice x.A1 x.n1 x.c1, .slice x.A2 x.n2 x.c2, .int .i64 p.regs, .slice x.A3 x.n3 x.c3, .slice x.A4 x.n4 x.c4] ∧ Blk wr (w.heap.size + 1) 98 [.int .i64 0, .int .i64 0, .slice none 0 0] ∧ Below w.heap.size w wr) (fun i _ => x.n3 - (intOf i).toNat)
      case atStart => exact ⟨0, none, 0, by omega, rfl, ⟨hst4'.below.alloc (by omega) _, hst4'.hb, by obtain ⟨a, b, c, k1, k2⟩ := hst4'.bb; exact ⟨a, b, c, k1.alloc _, k2⟩⟩, (by (repeat' (first | (with_reducible assumption) | (with_reducible refine Blk.top _ (by first | rfl | omega | (simp; done) | (simp; omega)) rfl) | (with_reducible refine Blk.alloc ?_ _) | (with_reducible refine Blk.drew ?_) | (with_reducible refine Blk.drewN ?_ _) | (with_reducible refine Blk.far ?_ (by first | omega | (simp; done) | (simp; omega)) _)))), by rw [hT0.out]; exact Ow.nil _ _ _ _, (by (repeat' (first | (with_reducible assumption) | (with_reducible refine Blk.top _ (by first | rfl | omega | (simp; done) | (simp; omega)) rfl) | (with_reducible refine Blk.alloc ?_ _) | (with_reducible refine Blk.drew ?_) | (with_reducible refine Blk.drewN ?_ _) | (with_reducible refine Blk.far ?_ (by first | omega | (simp; done) | (simp; omega)) _)))), (by (repeat' (first | (with_reducible assumption) | (with_reducible refine Blk.top _ (by first | rfl | omega | (simp; done) | (simp; omega)) rfl) | (with_reducible refine Blk.alloc ?_ _) | (with_reducible refine Blk.drew ?_) | (with_reducible refine Blk.drewN ?_ _) | (with_reducible refine Blk.far ?_ (by first | omega | (simp; done) | (simp; omega)) _)))), (by (repeat' (first | (with_reducible exact Below.refl _ _) | (with_reducible assumption) | (with_reducible refine Below.drew ?_) | (with_reducible refine below_drewN ?_ _) | (with_reducible refine Below.alloc ?_ ?_ _) | (with_reducible refine Below.setCell ?_ ?_ _) | omega | (simp; done) | (simp; omega))))⟩
      case round =>
        clear hp4 hs4 hst4' st4 hb4
        obtain ⟨k, A3, c3, hk, rfl, hst, hx, hown, hp, hs, hbel⟩ := hrel
        have hbs := hbel.size
        have hgg : w4.heap.size < wr.heap.size := hx.lt
        obtain ⟨q0, q1, q2⟩ := blk3 hx
        by_cases hlt : k < x.n3
        · have hstd : NumSt w1 wr.drew w1.heap.size bs (16 + 8 * k) := ⟨hst.below.drew, hst.hb, hst.bb⟩
          obtain ⟨_, _, Ab, nb, cb, hkb, _, _, _⟩ := id hst
          have hTk := hT k
          have hle : 16 + 8 * k + 8 ≤ bs.length := by omega
          have hnext := fun (w2 : World) (hs : NumSt w1 w2 w1.heap.size bs (16 + 8 * k)) => next_any _ bs (16 + 8 * k) w1 w2 hs hle
          generalize numAt bs (16 + 8 * k) = v at *
          clear hT hT0
          have n1 : w1.heap.size ≠ w4.heap.size := by omega
          have hfz := hx.frozen 2
          have hww1 := hb1.size
          go_wp2
          go_region_law (first
            | (go_simp; (go_at_call 132; (with_reducible refine (hnext _ hstd).mono ?_); rintro e w5 ⟨rfl, st5, hg5⟩); have hx5 : Blk w5 w4.heap.size 98 [.int .i64 T, .int .i64 Hh, .slice A3 k c3] := Blk.grown (w := wr.drew) hx hg5 (by simp; omega); have hp5 : Blk w5 w.heap.size 93 [.slice x.A1 x.n1 x.c1, .slice x.A2 x.n2 x.c2, .int .i64 p.regs, .slice x.A3 x.n3 x.c3, .slice x.A4 x.n4 x.c4] := Blk.grown (w := wr.drew) hp hg5 (by simp; omega); have hs5 : Blk w5 (w.heap.size + 1) 98 [.int .i64 0, .int .i64 0, .slice none 0 0] := Blk.grown (w := wr.drew) hs hg5 (by simp; omega); have own5 := Ow.grownBlk (w := wr.drew) hown hg5 hkb (by decide); have c52 : w5.cell? ⟨w4.heap.size, 2, none⟩ = some (.slice A3 k c3) := hx5.cell 2; have hb5 : Below w.heap.size w w5 := hb1.trans (st5.below.mono (by omega)); have hb5s := hb5.size; have z5 := hx5.lt; have st5b := st5.below; have st5s := st5b.size; obtain ⟨_, _, Ab5, nb5, cb5, hkb5, hrb5, hnc5, hcm5⟩ := id st5)
            | (refine step_app rfl rfl elemInt iv_one (s := .tmp 43) (N := k + 1) (L := cellsK bs (k + 1)) rfl (own5.below (b := w5.heap.size) (by (repeat' (first | (with_reducible exact Below.refl _ _) | (with_reducible assumption) | (with_reducible refine Below.drew ?_) | (with_reducible refine below_drewN ?_ _) | (with_reducible refine Below.alloc ?_ ?_ _) | (with_reducible refine Below.setCell ?_ ?_ _) | omega | (simp; done) | (simp; omega)))) (Nat.le_refl _)) rfl (k := [v]) (Rd.of_block (l := [v]) (heap_top _ _ (by simp)) rfl) rfl hTk.out (by unfold maxLen; omega) (by omega) (by first | omega | (simp; done) | (simp; omega)) ?_; intro A6 c6 w6 own6 hg6 hat6 hb6; have hx6 : Blk w6 w4.heap.size 98 [.int .i64 T, .int .i64 Hh, .slice A3 k c3] := Blk.grown (by (repeat' (first | (with_reducible assumption) | (with_reducible refine Blk.top _ (by first | rfl | omega | (simp; done) | (simp; omega)) rfl) | (with_reducible refine Blk.alloc ?_ _) | (with_reducible refine Blk.drew ?_) | (with_reducible refine Blk.drewN ?_ _) | (with_reducible refine Blk.far ?_ (by first | omega | (simp; done) | (simp; omega)) _)))) hg6 (own5.ne_ hx5 (by decide)); have hp6 : Blk w6 w.heap.size 93 [.slice x.A1 x.n1 x.c1, .slice x.A2 x.n2 x.c2, .int .i64 p.regs, .slice x.A3 x.n3 x.c3, .slice x.A4 x.n4 x.c4] := Blk.grown (by (repeat' (first | (with_reducible assumption) | (with_reducible refine Blk.top _ (by first | rfl | omega | (simp; done) | (simp; omega)) rfl) | (with_reducible refine Blk.alloc ?_ _) | (with_reducible refine Blk.drew ?_) | (with_reducible refine Blk.drewN ?_ _) | (with_reducible refine Blk.far ?_ (by first | omega | (simp; done) | (simp; omega)) _)))) hg6 (own5.ne_ hp5 (by decide)); have hs6 : Blk w6 (w.heap.size + 1) 98 [.int .i64 0, .int .i64 0, .slice none 0 0] := Blk.grown (by (repeat' (first | (with_reducible assumption) | (with_reducible refine Blk.top _ (by first | rfl | omega | (simp; done) | (simp; omega)) rfl) | (with_reducible refine Blk.alloc ?_ _) | (with_reducible refine Blk.drew ?_) | (with_reducible refine Blk.drewN ?_ _) | (with_reducible refine Blk.far ?_ (by first | omega | (simp; done) | (simp; omega)) _)))) hg6 (own5.ne_ hs5 (by decide)); have c62 : w6.cell? ⟨w4.heap.size, 2, none⟩ = some (.slice A3 k c3) := hx6.cell 2; have f62 := hx6.frozen 2; have z6 := hx6.lt; have hkb6 : Blk w6 w1.heap.size 26 [.slice Ab5 nb5 cb5] := Blk.grown (by (repeat' (first | (with_reducible assumption) | (with_reducible refine Blk.top _ (by first | rfl | omega | (simp; done) | (simp; omega)) rfl) | (with_reducible refine Blk.alloc ?_ _) | (with_reducible refine Blk.drew ?_) | (with_reducible refine Blk.drewN ?_ _) | (with_reducible refine Blk.far ?_ (by first | omega | (simp; done) | (simp; omega)) _)))) hg6 (own5.ne_ hkb5 (by decide)); have hbw6 : Below w1.heap.size w1 w6 := below_then' (a := w1) (B := w1.heap.size) (by (repeat' (first | (with_reducible exact Below.refl _ _) | (with_reducible assumption) | (with_reducible refine Below.drew ?_) | (with_reducible refine below_drewN ?_ _) | (with_reducible refine Below.alloc ?_ ?_ _) | (with_reducible refine Below.setCell ?_ ?_ _) | omega | (simp; done) | (simp; omega)))) hb6 (Nat.le_refl _)))
          all_goals
            go_wp2
            go_roundw
            case rel =>
              refine ⟨k + 1, A6, c6, by omega, by go_num, ⟨hbw6.setCell (by omega) _, hst.hb, Ab5, nb5, cb5, hkb6.far n1 _, hrb5, hnc5, hcm5⟩, hx6.set_ 2 _, own6.setFar hx6 (by decide) 2 _, hp6.far (by simp; omega) _, hs6.far (by simp; omega) _, hb1.trans ((hbw6.setCell (by omega) _).mono (by omega))⟩
            case measure => simp [intOf]; omega
        · have hkn : k = x.n3 := by omega
          subst hkn
          have hge : ((x.n3 : Nat) : Int) ≤ ((x.n3 : Nat) : Int) := by omega
          obtain ⟨yw0, yw1, yw2, yw3, yw4⟩ := blk5 hp
          obtain ⟨jw0, jw1, jw2⟩ := blk3 hs
          have hfit := fun w h k' => statefits_any x p T Hh A3 x.n3 c3 (cellsK bs x.n3) w h k' (by unfold maxLen; omega)
          have hcp := hown.cap
          rw [hsn.out] at Hr
          clear hT hT0
          generalize cellsK bs x.n3 = CC at *
          have Hr2 : Hid ((if stFits p ⟨T, Hh, CC⟩ = true then ((⟨T, Hh, CC⟩ : SV), 0) else (noSnap, 11)) = r) := Hr
          clear Hr
          generalize stFits p ⟨T, Hh, CC⟩ = fb at *
          cases fb with
          | true =>
            have hr2 : Hid (r = (⟨T, Hh, CC⟩, 0)) := by show r = _; rw [← Hr2.out]; rfl
            clear Hr2
            go_wp2_with ((go_at_call 104; (with_reducible refine (hfit _ (h.below (b := w.heap.size) (by (repeat' (first | (with_reducible exact Below.refl _ _) | (with_reducible assumption) | (with_reducible refine Below.drew ?_) | (with_reducible refine below_drewN ?_ _) | (with_reducible refine Below.alloc ?_ ?_ _) | (with_reducible refine Below.setCell ?_ ?_ _) | omega | (simp; done) | (simp; omega)))) (Nat.le_refl _)) hown.rd.ri).mono ?_); rintro e w7 ⟨rfl, hb7⟩); have hx7 := hx.below (w' := w7) hb7 hx.lt; have hs7 := hs.below (w' := w7) hb7 hs.lt; have own7 := hown.below hb7 (Nat.le_refl _); obtain ⟨v70, v71, v72⟩ := blk3 hx7; obtain ⟨u70, u71, u72⟩ := blk3 hs7; have f70 := hs7.frozen 0; have f71 := hs7.frozen 1; have f72 := hs7.frozen 2; have zz7 := hs7.lt; replace hb7 := below_then' (a := w) (B := w.heap.size) (by (repeat' (first | (with_reducible exact Below.refl _ _) | (with_reducible assumption) | (with_reducible refine Below.drew ?_) | (with_reducible refine below_drewN ?_ _) | (with_reducible refine Below.alloc ?_ ?_ _) | (with_reducible refine Below.setCell ?_ ?_ _) | omega | (simp; done) | (simp; omega)))) hb7 (by first | omega | (simp; done) | (simp; omega)); have hb7s := hb7.size)
            refine bodyPost_ret (v := .tuple #[.agg #[.int .i64 T, .int .i64 Hh, .slice A3 x.n3 c3], .int .i64 0]) (by simp [results, Try.results74, go_sem, u70, u71, u72]) rfl ?_
            exact ⟨A3, x.n3, c3, by rw [hr2.out]; rfl, by rw [hr2.out]; exact ⟨_, (((own7.setFar hs7 (by decide) 0 _).setFar (hs7.set_ 0 _) (by decide) 1 _).setFar ((hs7.set_ 0 _).set_ 1 _) (by decide) 2 _)⟩, (by (repeat' (first | (with_reducible exact Below.refl _ _) | (with_reducible assumption) | (with_reducible refine Below.drew ?_) | (with_reducible refine below_drewN ?_ _) | (with_reducible refine Below.alloc ?_ ?_ _) | (with_reducible refine Below.setCell ?_ ?_ _) | omega | (simp; done) | (simp; omega))))⟩
          | false =>
            have hr2 : Hid (r = (noSnap, 11)) := by show r = _; rw [← Hr2.out]; rfl
            clear Hr2
            go_wp2_with ((go_at_call 104; (with_reducible refine (hfit _ (h.below (b := w.heap.size) (by (repeat' (first | (with_reducible exact Below.refl _ _) | (with_reducible assumption) | (with_reducible refine Below.drew ?_) | (with_reducible refine below_drewN ?_ _) | (with_reducible refine Below.alloc ?_ ?_ _) | (with_reducible refine Below.setCell ?_ ?_ _) | omega | (simp; done) | (simp; omega)))) (Nat.le_refl _)) hown.rd.ri).mono ?_); rintro e w7 ⟨rfl, hb7⟩); have hx7 := hx.below (w' := w7) hb7 hx.lt; have hs7 := hs.below (w' := w7) hb7 hs.lt; have own7 := hown.below hb7 (Nat.le_refl _); obtain ⟨v70, v71, v72⟩ := blk3 hx7; obtain ⟨u70, u71, u72⟩ := blk3 hs7; have f70 := hs7.frozen 0; have f71 := hs7.frozen 1; have f72 := hs7.frozen 2; have zz7 := hs7.lt; replace hb7 := below_then' (a := w) (B := w.heap.size) (by (repeat' (first | (with_reducible exact Below.refl _ _) | (with_reducible assumption) | (with_reducible refine Below.drew ?_) | (with_reducible refine below_drewN ?_ _) | (with_reducible refine Below.alloc ?_ ?_ _) | (with_reducible refine Below.setCell ?_ ?_ _) | omega | (simp; done) | (simp; omega)))) hb7 (by first | omega | (simp; done) | (simp; omega)); have hb7s := hb7.size)
            refine bodyPost_ret (v := .tuple #[.agg #[.int .i64 0, .int .i64 0, .slice none 0 0], .int .i64 11]) (by simp [results, Try.results74, go_sem, u70, u71, u72]) rfl ?_
            exact StEndO.bad 11 (by rw [hr2.out]) (by rw [hr2.out]; rfl) (by (repeat' (first | (with_reducible exact Below.refl _ _) | (with_reducible assumption) | (with_reducible refine Below.drew ?_) | (with_reducible refine below_drewN ?_ _) | (with_reducible refine Below.alloc ?_ ?_ _) | (with_reducible refine Below.setCell ?_ ?_ _) | omega | (simp; done) | (simp; omega))))
end Go.Proofs.Ytalmdccgpigppaa
