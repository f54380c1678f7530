/- Contracts of package state and of its reference: a snapshot's bytes. -/
import Derived.Test.YtkhihgilodhjfaaStateB
import Derived.Test.YtkhihgilodhjfaaNumA
import Derived.Test.YtkhihgilodhjfaaRefNumB
import Derived.Deep.RegionHeld3
namespace Go.Proofs.Ytkhihgilodhjfaa
open Go.RowKit

theorem Ow.grownOther {α β : Type} {enc : α → Value} {enc2 : β → Value} {w w' : World} {base base2 n n2 c c2 : Nat} {e e2 : TypeId} {A C : Option Addr} {l : List α} {k : List β} (h : Ow enc w base e A n c l) (h2 : Ow enc2 w base2 e2 C n2 c2 k) (hne : e ≠ e2)
    (hg : w.grownBy w' (C.map (·.block))) : Ow enc w' base e A n c l := by
  refine ⟨h.1, own_keep (F := fun g => C.map (·.block) = some g) h.2 (Keep.of_grown hg (fun g e => e)) (fun g hA hC => ?_)⟩
  rcases h.2.2 with ⟨hv, _⟩ | ⟨g1, cap, cur, hv, _, hh, _⟩
  · rw [hv] at hA; cases hA
  · rcases h2.2.2 with ⟨hv2, _⟩ | ⟨g2, cap2, cur2, hv2, _, hh2, _⟩
    · injection hv2 with hv2; rw [hv2] at hC; cases hC
    · injection hv2 with hv2
      rw [hv2] at hC
      rw [hv] at hA
      have e1 : g1 = g := by simpa [Value.ownBlock] using hA
      have e2' : g2 = g := by simpa using hC
      subst e1 e2'
      rw [hh] at hh2
      injection hh2 with hh2
      injection hh2 with _ ht
      exact hne ht
def nBs (n : Int) : List UInt8 := putL (un n)
theorem nBs_len (n : Int) : (nBs n).length = 8 := putL_len _
def stBs (s : SV) : List UInt8 := nBs s.tick ++ nBs s.hash ++ s.cells.flatMap nBs
theorem statewrite_arg (x : PA) (p : PV) (tick hash : Int) (B : Option Addr) (m d : Nat) (w : World) (h : ProgRd w x p) (hm : mayB p = false) :
    Calls Try.prog 11 #[.agg #[.slice x.A1 x.n1 x.c1, .slice x.A2 x.n2 x.c2, .int .i64 p.regs, .slice x.A3 x.n3 x.c3, .slice x.A4 x.n4 x.c4], .agg #[.int .i64 tick, .int .i64 hash, .slice B m d]] w fun e w' => e = .returned (.tuple #[.slice none 0 0, .int .i64 2]) ∧ Below w.heap.size w w' := by
  have hmay := fun w h => may_any x p w h
  rw [hm] at hmay
  clear hm
  go_enter Try.func11, Try.ntmps11
  go_wp2_with ((go_at_call 22; (with_reducible refine (hmay _ (h.below (b := w.heap.size) (by (repeat' (first | (with_reducible exact Below.refl _ _) | (with_reducible assumption) | (with_reducible refine Below.drew ?_) | (with_reducible refine below_drewN ?_ _) | (with_reducible refine Below.alloc ?_ ?_ _) | (with_reducible refine Below.setCell ?_ ?_ _) | omega | (simp; done) | (simp; omega)))) (Nat.le_refl _))).mono ?_); rintro e w1 ⟨rfl, hb1⟩); replace hb1 := below_then' (a := w) (B := w.heap.size) (by (repeat' (first | (with_reducible exact Below.refl _ _) | (with_reducible assumption) | (with_reducible refine Below.drew ?_) | (with_reducible refine below_drewN ?_ _) | (with_reducible refine Below.alloc ?_ ?_ _) | (with_reducible refine Below.setCell ?_ ?_ _) | omega | (simp; done) | (simp; omega)))) hb1 (by first | omega | (simp; done) | (simp; omega)); have hb1s := hb1.size)
  go_ret2
  exact ⟨rfl, (by (repeat' (first | (with_reducible exact Below.refl _ _) | (with_reducible assumption) | (with_reducible refine Below.drew ?_) | (with_reducible refine below_drewN ?_ _) | (with_reducible refine Below.alloc ?_ ?_ _) | (with_reducible refine Below.setCell ?_ ?_ _) | omega | (simp; done) | (simp; omega))))⟩
theorem statewrite_row (x : PA) (p : PV) (tick hash : Int) (B : Option Addr) (m d : Nat) (l : List Int) (w : World) (h : ProgRd w x p) (hl : RI w B m l) (hm : m ≤ maxLen) (hmb : mayB p = true) (hf : stFits p ⟨tick, hash, l⟩ = false) :
    Calls Try.prog 11 #[.agg #[.slice x.A1 x.n1 x.c1, .slice x.A2 x.n2 x.c2, .int .i64 p.regs, .slice x.A3 x.n3 x.c3, .slice x.A4 x.n4 x.c4], .agg #[.int .i64 tick, .int .i64 hash, .slice B m d]] w fun e w' => e = .returned (.tuple #[.slice none 0 0, .int .i64 41]) ∧ Below w.heap.size w w' := by
  have hmay := fun w h => may_any x p w h
  have hfit := fun w h k => statefits_any x p tick hash B m d l w h k hm
  rw [hmb] at hmay
  rw [hf] at hfit
  clear hmb hf
  go_enter Try.func11, Try.ntmps11
  go_wp2_with (first
    | ((go_at_call 22; (with_reducible refine (hmay _ (h.below (b := w.heap.size) (by (repeat' (first | (with_reducible exact Below.refl _ _) | (with_reducible assumption) | (with_reducible refine Below.drew ?_) | (with_reducible refine below_drewN ?_ _) | (with_reducible refine Below.alloc ?_ ?_ _) | (with_reducible refine Below.setCell ?_ ?_ _) | omega | (simp; done) | (simp; omega)))) (Nat.le_refl _))).mono ?_); rintro e w1 ⟨rfl, hb1⟩); have hp1 := Blk.below (w' := w1) (g := w.heap.size) (t := 26) (cs := [.slice x.A1 x.n1 x.c1, .slice x.A2 x.n2 x.c2, .int .i64 p.regs, .slice x.A3 x.n3 x.c3, .slice x.A4 x.n4 x.c4]) (by (repeat' (first | (with_reducible assumption) | (with_reducible refine Blk.top _ (by first | rfl | omega | (simp; done) | (simp; omega)) rfl) | (with_reducible refine Blk.alloc ?_ _) | (with_reducible refine Blk.drew ?_) | (with_reducible refine Blk.drewN ?_ _) | (with_reducible refine Blk.far ?_ (by first | omega | (simp; done) | (simp; omega)) _)))) hb1 (by first | omega | (simp; done) | (simp; omega)); have hs1 := Blk.below (w' := w1) (g := w.heap.size + 1) (t := 28) (cs := [.int .i64 tick, .int .i64 hash, .slice B m d]) (by (repeat' (first | (with_reducible assumption) | (with_reducible refine Blk.top _ (by first | rfl | omega | (simp; done) | (simp; omega)) rfl) | (with_reducible refine Blk.alloc ?_ _) | (with_reducible refine Blk.drew ?_) | (with_reducible refine Blk.drewN ?_ _) | (with_reducible refine Blk.far ?_ (by first | omega | (simp; done) | (simp; omega)) _)))) hb1 (by first | omega | (simp; done) | (simp; omega)); obtain ⟨y10, y11, y12, y13, y14⟩ := blk5 hp1; obtain ⟨j10, j11, j12⟩ := blk3 hs1; have sz1 := hs1.lt; have rs1 := hb1.size; replace hb1 := below_then' (a := w) (B := w.heap.size) (by (repeat' (first | (with_reducible exact Below.refl _ _) | (with_reducible assumption) | (with_reducible refine Below.drew ?_) | (with_reducible refine below_drewN ?_ _) | (with_reducible refine Below.alloc ?_ ?_ _) | (with_reducible refine Below.setCell ?_ ?_ _) | omega | (simp; done) | (simp; omega)))) hb1 (by first | omega | (simp; done) | (simp; omega)); have hb1s := hb1.size)
    | ((go_at_call 14; (with_reducible refine (hfit _ (h.below (b := w.heap.size) (by (repeat' (first | (with_reducible exact Below.refl _ _) | (with_reducible assumption) | (with_reducible refine Below.drew ?_) | (with_reducible refine below_drewN ?_ _) | (with_reducible refine Below.alloc ?_ ?_ _) | (with_reducible refine Below.setCell ?_ ?_ _) | omega | (simp; done) | (simp; omega)))) (Nat.le_refl _)) (hl.below (B := w.heap.size) (by (repeat' (first | (with_reducible exact Below.refl _ _) | (with_reducible assumption) | (with_reducible refine Below.drew ?_) | (with_reducible refine below_drewN ?_ _) | (with_reducible refine Below.alloc ?_ ?_ _) | (with_reducible refine Below.setCell ?_ ?_ _) | omega | (simp; done) | (simp; omega)))) (Nat.le_refl _))).mono ?_); rintro e w2 ⟨rfl, hb2⟩); replace hb2 := below_then' (a := w) (B := w.heap.size) (by (repeat' (first | (with_reducible exact Below.refl _ _) | (with_reducible assumption) | (with_reducible refine Below.drew ?_) | (with_reducible refine below_drewN ?_ _) | (with_reducible refine Below.alloc ?_ ?_ _) | (with_reducible refine Below.setCell ?_ ?_ _) | omega | (simp; done) | (simp; omega)))) hb2 (by first | omega | (simp; done) | (simp; omega)); have hb2s := hb2.size))
  go_ret2
  exact ⟨rfl, (by (repeat' (first | (with_reducible exact Below.refl _ _) | (with_reducible assumption) | (with_reducible refine Below.drew ?_) | (with_reducible refine below_drewN ?_ _) | (with_reducible refine Below.alloc ?_ ?_ _) | (with_reducible refine Below.setCell ?_ ?_ _) | omega | (simp; done) | (simp; omega))))⟩

set_option maxRecDepth 100000 in
set_option maxHeartbeats 2000000 in
theorem statewrite_ok (x : PA) (p : PV) (tick hash : Int) (B : Option Addr) (m d : Nat) (l : List Int) (w : World) (h : ProgRd w x p) (hl : RI w B m l) (hm : m ≤ maxLen) (hf : stFits p ⟨tick, hash, l⟩ = true) :
    Calls Try.prog 11 #[.agg #[.slice x.A1 x.n1 x.c1, .slice x.A2 x.n2 x.c2, .int .i64 p.regs, .slice x.A3 x.n3 x.c3, .slice x.A4 x.n4 x.c4], .agg #[.int .i64 tick, .int .i64 hash, .slice B m d]] w fun e w' => ∃ A N c, e = .returned (.tuple #[.slice A N c, .int .i64 0]) ∧ OB w' w.heap.size 5 A N c (stBs ⟨tick, hash, l⟩) ∧ Below w.heap.size w w' := by
  have hmay := fun w h => may_any x p w h
  have hfit := fun w h k => statefits_any x p tick hash B m d l w h k hm
  obtain ⟨f1, f2, f3, f4, _⟩ := stFits_true.1 hf
  have hm60 : m ≤ 60 := by have := (mayB_true.1 f1).2.2.2.2.1; have := hl.1; simp only at f4; omega
  rw [f1] at hmay
  rw [hf] at hfit
  clear hf f1 f2 f3 f4 hm
  have hput : ∀ n w, Calls Try.prog 40 #[.int .i64 n] w fun e w' => ∃ A c, e = .returned (.slice A 8 c) ∧ OB w' w.heap.size 5 A 8 c (nBs n) ∧ Below w.heap.size w w' := fun n w => put_any n w
  have hcat : ∀ k, k < m → Hid (nBs tick ++ nBs hash ++ (l.take k).flatMap nBs ++ nBs (intAt l k) = nBs tick ++ nBs hash ++ (l.take (k + 1)).flatMap nBs) := fun k hk => by
    show _ = _
    have hk' : k < l.length := by rw [hl.1]; exact hk
    rw [List.take_succ_eq_append_getElem hk', List.flatMap_append]
    unfold intAt
    rw [List.getD_eq_getElem?_getD, List.getElem?_eq_getElem hk']
    simp
  have hz0 : Hid (nBs tick ++ nBs hash ++ (l.take 0).flatMap nBs = nBs tick ++ nBs hash) := by show _ = _; simp
  have hfin : Hid (nBs tick ++ nBs hash ++ (l.take m).flatMap nBs = stBs ⟨tick, hash, l⟩) := by
    show _ = _
    unfold stBs; rw [List.take_of_length_le (by rw [hl.1]; omega)]
  generalize stBs ⟨tick, hash, l⟩ = SB at *
  go_enter Try.func11, Try.ntmps11
  go_wp2_with (first
    | ((go_at_call 22; (with_reducible refine (hmay _ (h.below (b := w.heap.size) (by (repeat' (first | (with_reducible exact Below.refl _ _) | (with_reducible assumption) | (with_reducible refine Below.drew ?_) | (with_reducible refine below_drewN ?_ _) | (with_reducible refine Below.alloc ?_ ?_ _) | (with_reducible refine Below.setCell ?_ ?_ _) | omega | (simp; done) | (simp; omega)))) (Nat.le_refl _))).mono ?_); rintro e w1 ⟨rfl, hb1⟩); have hp1 := Blk.below (w' := w1) (g := w.heap.size) (t := 26) (cs := [.slice x.A1 x.n1 x.c1, .slice x.A2 x.n2 x.c2, .int .i64 p.regs, .slice x.A3 x.n3 x.c3, .slice x.A4 x.n4 x.c4]) (by (repeat' (first | (with_reducible assumption) | (with_reducible refine Blk.top _ (by first | rfl | omega | (simp; done) | (simp; omega)) rfl) | (with_reducible refine Blk.alloc ?_ _) | (with_reducible refine Blk.drew ?_) | (with_reducible refine Blk.drewN ?_ _) | (with_reducible refine Blk.far ?_ (by first | omega | (simp; done) | (simp; omega)) _)))) hb1 (by first | omega | (simp; done) | (simp; omega)); have hs1 := Blk.below (w' := w1) (g := w.heap.size + 1) (t := 28) (cs := [.int .i64 tick, .int .i64 hash, .slice B m d]) (by (repeat' (first | (with_reducible assumption) | (with_reducible refine Blk.top _ (by first | rfl | omega | (simp; done) | (simp; omega)) rfl) | (with_reducible refine Blk.alloc ?_ _) | (with_reducible refine Blk.drew ?_) | (with_reducible refine Blk.drewN ?_ _) | (with_reducible refine Blk.far ?_ (by first | omega | (simp; done) | (simp; omega)) _)))) hb1 (by first | omega | (simp; done) | (simp; omega)); obtain ⟨y10, y11, y12, y13, y14⟩ := blk5 hp1; obtain ⟨j10, j11, j12⟩ := blk3 hs1; have sz1 := hs1.lt; have rs1 := hb1.size; replace hb1 := below_then' (a := w) (B := w.heap.size) (by (repeat' (first | (with_reducible exact Below.refl _ _) | (with_reducible assumption) | (with_reducible refine Below.drew ?_) | (with_reducible refine below_drewN ?_ _) | (with_reducible refine Below.alloc ?_ ?_ _) | (with_reducible refine Below.setCell ?_ ?_ _) | omega | (simp; done) | (simp; omega)))) hb1 (by first | omega | (simp; done) | (simp; omega)); have hb1s := hb1.size)
    | ((go_at_call 14; (with_reducible refine (hfit _ (h.below (b := w.heap.size) (by (repeat' (first | (with_reducible exact Below.refl _ _) | (with_reducible assumption) | (with_reducible refine Below.drew ?_) | (with_reducible refine below_drewN ?_ _) | (with_reducible refine Below.alloc ?_ ?_ _) | (with_reducible refine Below.setCell ?_ ?_ _) | omega | (simp; done) | (simp; omega)))) (Nat.le_refl _)) (hl.below (B := w.heap.size) (by (repeat' (first | (with_reducible exact Below.refl _ _) | (with_reducible assumption) | (with_reducible refine Below.drew ?_) | (with_reducible refine below_drewN ?_ _) | (with_reducible refine Below.alloc ?_ ?_ _) | (with_reducible refine Below.setCell ?_ ?_ _) | omega | (simp; done) | (simp; omega)))) (Nat.le_refl _))).mono ?_); rintro e w2 ⟨rfl, hb2⟩); have hp2 := Blk.below (w' := w2) (g := w.heap.size) (t := 26) (cs := [.slice x.A1 x.n1 x.c1, .slice x.A2 x.n2 x.c2, .int .i64 p.regs, .slice x.A3 x.n3 x.c3, .slice x.A4 x.n4 x.c4]) (by (repeat' (first | (with_reducible assumption) | (with_reducible refine Blk.top _ (by first | rfl | omega | (simp; done) | (simp; omega)) rfl) | (with_reducible refine Blk.alloc ?_ _) | (with_reducible refine Blk.drew ?_) | (with_reducible refine Blk.drewN ?_ _) | (with_reducible refine Blk.far ?_ (by first | omega | (simp; done) | (simp; omega)) _)))) hb2 (by first | omega | (simp; done) | (simp; omega)); have hs2 := Blk.below (w' := w2) (g := w.heap.size + 1) (t := 28) (cs := [.int .i64 tick, .int .i64 hash, .slice B m d]) (by (repeat' (first | (with_reducible assumption) | (with_reducible refine Blk.top _ (by first | rfl | omega | (simp; done) | (simp; omega)) rfl) | (with_reducible refine Blk.alloc ?_ _) | (with_reducible refine Blk.drew ?_) | (with_reducible refine Blk.drewN ?_ _) | (with_reducible refine Blk.far ?_ (by first | omega | (simp; done) | (simp; omega)) _)))) hb2 (by first | omega | (simp; done) | (simp; omega)); obtain ⟨y20, y21, y22, y23, y24⟩ := blk5 hp2; obtain ⟨j20, j21, j22⟩ := blk3 hs2; have sz2 := hs2.lt; have rs2 := hb2.size; replace hb2 := below_then' (a := w) (B := w.heap.size) (by (repeat' (first | (with_reducible exact Below.refl _ _) | (with_reducible assumption) | (with_reducible refine Below.drew ?_) | (with_reducible refine below_drewN ?_ _) | (with_reducible refine Below.alloc ?_ ?_ _) | (with_reducible refine Below.setCell ?_ ?_ _) | omega | (simp; done) | (simp; omega)))) hb2 (by first | omega | (simp; done) | (simp; omega)); have hb2s := hb2.size))
  go_region_held3 (fun w' => w'.cell? ⟨w.heap.size + 1, 0, none⟩ = some (.int .i64 tick) ∧ w'.cell? ⟨w.heap.size + 1, 1, none⟩ = some (.int .i64 hash)) (first | go_keep | (refine ⟨?_, ?_⟩ <;> assumption)) (first
    | ((go_at_call 40; (with_reducible refine (hput tick _).mono ?_); rintro e w3 ⟨A3, c3, rfl, own3, hb3⟩); have hp3 := Blk.below (w' := w3) (g := w.heap.size) (t := 26) (cs := [.slice x.A1 x.n1 x.c1, .slice x.A2 x.n2 x.c2, .int .i64 p.regs, .slice x.A3 x.n3 x.c3, .slice x.A4 x.n4 x.c4]) (by (repeat' (first | (with_reducible assumption) | (with_reducible refine Blk.top _ (by first | rfl | omega | (simp; done) | (simp; omega)) rfl) | (with_reducible refine Blk.alloc ?_ _) | (with_reducible refine Blk.drew ?_) | (with_reducible refine Blk.drewN ?_ _) | (with_reducible refine Blk.far ?_ (by first | omega | (simp; done) | (simp; omega)) _)))) hb3 (by first | omega | (simp; done) | (simp; omega)); have hs3 := Blk.below (w' := w3) (g := w.heap.size + 1) (t := 28) (cs := [.int .i64 tick, .int .i64 hash, .slice B m d]) (by (repeat' (first | (with_reducible assumption) | (with_reducible refine Blk.top _ (by first | rfl | omega | (simp; done) | (simp; omega)) rfl) | (with_reducible refine Blk.alloc ?_ _) | (with_reducible refine Blk.drew ?_) | (with_reducible refine Blk.drewN ?_ _) | (with_reducible refine Blk.far ?_ (by first | omega | (simp; done) | (simp; omega)) _)))) hb3 (by first | omega | (simp; done) | (simp; omega)); obtain ⟨y30, y31, y32, y33, y34⟩ := blk5 hp3; obtain ⟨j30, j31, j32⟩ := blk3 hs3; have sz3 := hs3.lt; have rs3 := hb3.size; replace hb3 := below_then' (a := w) (B := w.heap.size) (by (repeat' (first | (with_reducible exact Below.refl _ _) | (with_reducible assumption) | (with_reducible refine Below.drew ?_) | (with_reducible refine below_drewN ?_ _) | (with_reducible refine Below.alloc ?_ ?_ _) | (with_reducible refine Below.setCell ?_ ?_ _) | omega | (simp; done) | (simp; omega)))) hb3 (by first | omega | (simp; done) | (simp; omega)); have hb3s := hb3.size)
    | ((go_at_call 40; (with_reducible refine (hput hash _).mono ?_); rintro e w4 ⟨A4, c4, rfl, own4, hb4⟩); have own3a := own3.below hb4 (Nat.le_refl _); have hp4 := Blk.below (w' := w4) (g := w.heap.size) (t := 26) (cs := [.slice x.A1 x.n1 x.c1, .slice x.A2 x.n2 x.c2, .int .i64 p.regs, .slice x.A3 x.n3 x.c3, .slice x.A4 x.n4 x.c4]) (by (repeat' (first | (with_reducible assumption) | (with_reducible refine Blk.top _ (by first | rfl | omega | (simp; done) | (simp; omega)) rfl) | (with_reducible refine Blk.alloc ?_ _) | (with_reducible refine Blk.drew ?_) | (with_reducible refine Blk.drewN ?_ _) | (with_reducible refine Blk.far ?_ (by first | omega | (simp; done) | (simp; omega)) _)))) hb4 (by first | omega | (simp; done) | (simp; omega)); have hs4 := Blk.below (w' := w4) (g := w.heap.size + 1) (t := 28) (cs := [.int .i64 tick, .int .i64 hash, .slice B m d]) (by (repeat' (first | (with_reducible assumption) | (with_reducible refine Blk.top _ (by first | rfl | omega | (simp; done) | (simp; omega)) rfl) | (with_reducible refine Blk.alloc ?_ _) | (with_reducible refine Blk.drew ?_) | (with_reducible refine Blk.drewN ?_ _) | (with_reducible refine Blk.far ?_ (by first | omega | (simp; done) | (simp; omega)) _)))) hb4 (by first | omega | (simp; done) | (simp; omega)); obtain ⟨y40, y41, y42, y43, y44⟩ := blk5 hp4; obtain ⟨j40, j41, j42⟩ := blk3 hs4; have sz4 := hs4.lt; have rs4 := hb4.size; replace hb4 := below_then' (a := w) (B := w.heap.size) (by (repeat' (first | (with_reducible exact Below.refl _ _) | (with_reducible assumption) | (with_reducible refine Below.drew ?_) | (with_reducible refine below_drewN ?_ _) | (with_reducible refine Below.alloc ?_ ?_ _) | (with_reducible refine Below.setCell ?_ ?_ _) | omega | (simp; done) | (simp; omega)))) hb4 (by first | omega | (simp; done) | (simp; omega)); have hb4s := hb4.size)
    | (refine step_app rfl rfl elemU8 bv_one (s := .tmp 20) (N := 16) (L := nBs tick ++ nBs hash) rfl own3a rfl (k := nBs hash) own4.rd rfl rfl (by unfold maxLen; omega) (by omega) (by first | omega | (simp; done) | (simp; omega)) ?_; intro A5 c5 w5 own5 hg5 hat5 hb5; have hs5 : Blk w5 (w.heap.size + 1) 28 [.int .i64 tick, .int .i64 hash, .slice B m d] := Blk.grown hs4 hg5 (own3a.ne_ hs4 (by decide)); obtain ⟨j50, j51, j52⟩ := blk3 hs5; replace own5 := own5.rebase (base' := w.heap.size) (by first | omega | (simp; done) | (simp; omega)); replace hb5 := below_then' (a := w) (B := w.heap.size) (by (repeat' (first | (with_reducible exact Below.refl _ _) | (with_reducible assumption) | (with_reducible refine Below.drew ?_) | (with_reducible refine below_drewN ?_ _) | (with_reducible refine Below.alloc ?_ ?_ _) | (with_reducible refine Below.setCell ?_ ?_ _) | omega | (simp; done) | (simp; omega)))) hb5 (by first | omega | (simp; done) | (simp; omega)); have hb5s := hb5.size))
  all_goals
    clear own3 own3a own4
    go_wp2
    go_loopw [6, 28] (fun v i wr => ∃ (k : Nat) (C : Option Addr) (e : Nat), k ≤ m ∧ i = .int .i64 (k : Nat) ∧ v = .slice C (16 + 8 * k) e ∧ Ow bv wr w.heap.size 5 C (16 + 8 * k) e (nBs tick ++ nBs hash ++ (l.take k).flatMap nBs) ∧ Below w.heap.size w wr) (fun _ i _ => m - (intOf i).toNat)
    case atStart => exact ⟨0, A5, c5, by omega, rfl, rfl, by rw [hz0.out]; exact own5, hb5⟩
    case round =>
      clear own5
      obtain ⟨k, C, e, hk, rfl, rfl, hown, hbel⟩ := hrel
      have hbs := hbel.size
      by_cases hlt : k < m
      · obtain ⟨b, o, rfl, _, hc⟩ := (hl.below hbel (Nat.le_refl _)).at_ hlt
        have hcx := hcat k hlt
        clear hcat hz0
        generalize intAt l k = v at *
        go_wp2_with (first
          | ((go_at_call 40; (with_reducible refine (hput v _).mono ?_); rintro e w7 ⟨A7, c7, rfl, own7, hb7⟩); have own7a := hown.below hb7 (Nat.le_refl _); replace hb7 := below_then' (a := w) (B := w.heap.size) (by (repeat' (first | (with_reducible exact Below.refl _ _) | (with_reducible assumption) | (with_reducible refine Below.drew ?_) | (with_reducible refine below_drewN ?_ _) | (with_reducible refine Below.alloc ?_ ?_ _) | (with_reducible refine Below.setCell ?_ ?_ _) | omega | (simp; done) | (simp; omega)))) hb7 (by first | omega | (simp; done) | (simp; omega)); have hb7s := hb7.size)
          | (at_builtin; refine wpList_app rfl rfl elemU8 bv_one (s := .tmp 32) (N := 16 + 8 * (k + 1)) (L := nBs tick ++ nBs hash ++ (l.take (k + 1)).flatMap nBs) rfl own7a rfl (k := nBs v) own7.rd (by omega) hcx.out (by unfold maxLen; omega) (by omega) (by first | omega | (simp; done) | (simp; omega)) ?_; intro A8 c8 w8 own8 hg8 hat8 hb8; replace hb8 := below_then' (a := w) (B := w.heap.size) (by (repeat' (first | (with_reducible exact Below.refl _ _) | (with_reducible assumption) | (with_reducible refine Below.drew ?_) | (with_reducible refine below_drewN ?_ _) | (with_reducible refine Below.alloc ?_ ?_ _) | (with_reducible refine Below.setCell ?_ ?_ _) | omega | (simp; done) | (simp; omega)))) hb8 (by first | omega | (simp; done) | (simp; omega)); have hb8s := hb8.size))
        go_roundw
        case rel => exact ⟨k + 1, A8, c8, by omega, by go_num, rfl, own8, hb8⟩
        case measure => simp [intOf]; omega
      · have hkm : k = m := by omega
        subst hkm
        clear hcat hz0
        go_wp2
        go_ret2
        exact ⟨C, _, e, rfl, by rw [← hfin.out]; exact hown, hbel⟩

end Go.Proofs.Ytkhihgilodhjfaa
