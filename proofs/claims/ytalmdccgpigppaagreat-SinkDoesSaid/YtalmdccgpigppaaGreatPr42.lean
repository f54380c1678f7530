/- Parts: Zag, RowD. -/
import Derived.Test.YtalmdccgpigppaaGreatPr36
import Derived.Test.YtalmdccgpigppaaGreatPr41
import Derived.Test.YtalmdccgpigppaaGreatPr40
import Derived.Deep.RegionHeld3
import Derived.Deep.RegionLaw
import Derived.Deep.AppendLies
namespace Go.Proofs.YtalmdccgpigppaaGreat
open Go.RowKit

theorem zag_any (A : Option Addr) (n c : Nat) (l : List UInt8) (w : World) (hl : RB w A n l) (hn : n ≤ maxLen) :
    Calls Tryz.prog 166 #[.slice A n c] w fun e w' => e = .returned (.tuple #[.int .i64 (zagV l), .int .i64 (zagS l : Nat), .int .i64 (zagE l : Nat)]) ∧ w = w' := by
  by_cases h : (endsL 10 0 l).2 = 0
  · have hz : endsL 10 0 l = ((endsL 10 0 l).1, 0) := Prod.ext rfl h
    by_cases hb : (endsL 10 0 l).1 = 10 ∧ 1 < byteAt l 9
    · have e1 : zagE l = 11 := by unfold zagE; rw [if_neg (by omega), if_pos hb]
      have e2 : zagS l = 0 := by unfold zagS; rw [if_neg (by omega)]
      have e3 : zagV l = 0 := by unfold zagV; rw [if_neg (by omega)]
      rw [e1, e2, e3]
      rw [hb.1] at hz
      exact zag_big A n c l w hl hn hz hb.2
    · have e1 : zagE l = 0 := by unfold zagE; rw [if_neg (by omega), if_neg hb]
      have e2 : zagS l = (endsL 10 0 l).1 := by unfold zagS; rw [if_pos e1]
      have e3 : zagV l = unzz (sevL (l.take (endsL 10 0 l).1)) := by unfold zagV; rw [if_pos e1]
      rw [e1, e2, e3]
      exact zag_ok A n c _ l w hl hn hz (by omega)
  · have e1 : zagE l = (endsL 10 0 l).2 := by unfold zagE; rw [if_pos h]
    have e2 : zagS l = 0 := by unfold zagS; rw [if_neg (by omega)]
    have e3 : zagV l = 0 := by unfold zagV; rw [if_neg (by omega)]
    rw [e1, e2, e3]
    exact zag_err A n c l w hl hn h
theorem refzag_any (A : Option Addr) (n c : Nat) (l : List UInt8) (w : World) (hl : RB w A n l) (hn : n ≤ maxLen) :
    Calls Tryz.prog 175 #[.slice A n c] w fun e w' => e = .returned (.tuple #[.int .i64 (zagV l), .int .i64 (zagS l : Nat), .int .i64 (zagE l : Nat)]) ∧ Below w.heap.size w w' := by
  by_cases h : (endsL 10 0 l).2 = 0
  · have hz : endsL 10 0 l = ((endsL 10 0 l).1, 0) := Prod.ext rfl h
    by_cases hb : (endsL 10 0 l).1 = 10 ∧ 1 < byteAt l 9
    · have e1 : zagE l = 11 := by unfold zagE; rw [if_neg (by omega), if_pos hb]
      have e2 : zagS l = 0 := by unfold zagS; rw [if_neg (by omega)]
      have e3 : zagV l = 0 := by unfold zagV; rw [if_neg (by omega)]
      rw [e1, e2, e3]
      rw [hb.1] at hz
      exact (refzag_big A n c l w hl hn hz hb.2).mono fun e w' ⟨h1, h2⟩ => ⟨h1, by subst h2; exact Below.refl _ _⟩
    · have e1 : zagE l = 0 := by unfold zagE; rw [if_neg (by omega), if_neg hb]
      have e2 : zagS l = (endsL 10 0 l).1 := by unfold zagS; rw [if_pos e1]
      have e3 : zagV l = unzz (sevL (l.take (endsL 10 0 l).1)) := by unfold zagV; rw [if_pos e1]
      rw [e1, e2, e3]
      have hb' : (endsL 10 0 l).1 ≠ 10 ∨ byteAt l 9 ≤ 1 := by omega
      exact refzag_ok A n c _ l w hl hn hz hb' (zag_lt rfl hz hb')
  · have e1 : zagE l = (endsL 10 0 l).2 := by unfold zagE; rw [if_pos h]
    have e2 : zagS l = 0 := by unfold zagS; rw [if_neg (by omega)]
    have e3 : zagV l = 0 := by unfold zagV; rw [if_neg (by omega)]
    rw [e1, e2, e3]
    exact (refzag_err A n c l w hl hn h).mono fun e w' ⟨h1, h2⟩ => ⟨h1, by subst h2; exact Below.refl _ _⟩
end Go.Proofs.YtalmdccgpigppaaGreat
namespace Go.Proofs.YtalmdccgpigppaaGreat
open Go.RowKit

/-- What the reading of a row holds in its two variables: the bytes that are left, and the values. -/
structure RdSt (w0 w : World) (gb go : Nat) (bs : List UInt8) (out : List Int) (i : Nat) : Prop where
  below : Below w0.heap.size w0 w
  hb : w0.heap.size ≤ gb
  ho : w0.heap.size ≤ go
  bb : ∃ A n c, Blk w gb 22 [.slice A n c] ∧ RB w0 A n (bs.drop i) ∧ n ≤ c ∧ c ≤ maxLen
  bo : ∃ A n c, Blk w go 23 [.slice A n c] ∧ Ow iv w w0.heap.size 3 A n c out

theorem cut_rb {w : World} {A : Option Addr} {n c k : Nat} {l : List UInt8} (h : RB w A n l) (hk : k ≤ n) (hc : n ≤ c) : RB w (if c = k then A else A.map (·.add (k * 1))) (n - k) (l.drop k) := by
  refine ⟨by rw [List.length_drop, h.1], ?_⟩
  have := h.2.cut hk hc
  rw [Nat.mul_one]
  exact this.congr fun i hi => by unfold byteAt; simp [List.getD_eq_getElem?_getD]

set_option maxHeartbeats 1000000 in
theorem read1_int (gb go : Nat) (bs : List UInt8) (out : List Int) (i : Nat) (w0 w : World) (h : RdSt w0 w gb go bs out i) (ho : out.length ≤ 100) :
    Calls Tryz.prog 165 #[.int .i64 1, .pointer (some ⟨gb, 0, none⟩), .pointer (some ⟨go, 0, none⟩)] w fun e w' => e = .returned (.int .i64 (zagE (bs.drop i) : Nat)) ∧ RdSt w0 w' gb go bs (out ++ [zagV (bs.drop i)]) (i + zagS (bs.drop i)) := by
  obtain ⟨hbel, hb, ho2, ⟨A, n, c, hblk, hrb, hnc, hcm⟩, A2, n2, c2, hblk2, hown⟩ := h
  have hzag := fun w hl => zag_any A n c (bs.drop i) w hl (by omega)
  have hS := zagS_le (bs.drop i)
  have hlen := hrb.1
  rw [hlen] at hS
  have hcut := run_cut_from (P := Tryz.prog) elemU8 A n c (zagS (bs.drop i)) hS
  have hrb2 := cut_rb hrb hS hnc
  rw [List.drop_drop] at hrb2
  generalize zagS (bs.drop i) = s at *
  generalize zagV (bs.drop i) = v at *
  generalize (if c = s then A else A.map (·.add (s * 1))) = A' at *
  have hrbw := hrb.below hbel (Nat.le_refl _)
  clear hlen
  generalize zagE (bs.drop i) = z at *
  have c1 : w.cell? ⟨gb, 0, none⟩ = some (.slice A n c) := hblk.cell 0
  have f1 := hblk.frozen 0
  have c3 : w.cell? ⟨go, 0, none⟩ = some (.slice A2 n2 c2) := hblk2.cell 0
  have f3 := hblk2.frozen 0
  have hlt := hblk.lt
  have hlt2 := hblk2.lt
  have hbs := hbel.size
  have hn2 : n2 ≤ 100 := by have := hown.1; omega
  have hne1 := hown.ne_ hblk (by decide)
  have hne2 := hown.ne_ hblk2 (by decide)
  have hgo : gb ≠ go := hblk.ne_ hblk2 (by decide)
  go_enter Tryz.func165, Tryz.ntmps165
  go_wp2_with (go_at_call 166; (with_reducible refine (hzag _ hrbw).mono ?_); rintro e w' ⟨rfl, rfl⟩)
  go_region_law ((refine step_app rfl rfl elemInt iv_one (s := .tmp 16) (N := n2 + 1) (L := out ++ [v]) rfl (hown.below (b := w.heap.size) (by (repeat' (first | (with_reducible exact Below.refl _ _) | (with_reducible assumption) | (with_reducible refine Below.drew ?_) | (with_reducible refine below_drewN ?_ _) | (with_reducible refine Below.alloc ?_ ?_ _) | (with_reducible refine Below.setCell ?_ ?_ _) | omega | (simp; done) | (simp; omega)))) (Nat.le_refl _)) rfl (k := [v]) (Rd.of_block (l := [v]) (heap_top _ _ (by simp)) rfl) rfl rfl (by unfold maxLen; omega) (by omega) (by simp; omega) ?_; intro A5 c5 w5 hown5 hg5 hat5 hb5; have k1 : Blk w5 gb 22 [.slice A n c] := Blk.grown (by (repeat' (first | (with_reducible assumption) | (with_reducible refine Blk.top _ (by first | rfl | omega | (simp; done) | (simp; omega)) rfl) | (with_reducible refine Blk.alloc ?_ _) | (with_reducible refine Blk.drew ?_) | (with_reducible refine Blk.drewN ?_ _) | (with_reducible refine Blk.far ?_ (by first | omega | (simp; done) | (simp; omega)) _)))) hg5 hne1; have k2 : Blk w5 go 23 [.slice A2 n2 c2] := Blk.grown (by (repeat' (first | (with_reducible assumption) | (with_reducible refine Blk.top _ (by first | rfl | omega | (simp; done) | (simp; omega)) rfl) | (with_reducible refine Blk.alloc ?_ _) | (with_reducible refine Blk.drew ?_) | (with_reducible refine Blk.drewN ?_ _) | (with_reducible refine Blk.far ?_ (by first | omega | (simp; done) | (simp; omega)) _)))) hg5 hne2; have c15 : w5.cell? ⟨gb, 0, none⟩ = some (.slice A n c) := k1.cell 0; have f15 := k1.frozen 0; have c35 : w5.cell? ⟨go, 0, none⟩ = some (.slice A2 n2 c2) := k2.cell 0; have f35 := k2.frozen 0))
  all_goals
    go_wp2
    go_ret
    have hb6 : Below w0.heap.size w0 w5 := ((hbel.alloc (by omega) _).drew).trans hb5
    refine ⟨rfl, (hb6.setCell (by omega) _).setCell (by omega) _, hb, ho2, ⟨A', n - s, c - s, (k1.far hgo _).set_ 0 _, hrb2, by omega, by omega⟩, A5, n2 + 1, c5, (k2.set_ 0 _).far (Ne.symm hgo) _, ?_⟩
    exact (hown5.setFar k2 (by decide) 0 _).setFar (k1.far hgo _) (by decide) 0 _

theorem read1_end (t : Int) (gb go : Nat) (bs : List UInt8) (out : List Int) (i : Nat) (w0 w : World) (h : RdSt w0 w gb go bs out i) (ht : t ≠ 1) (hi : bs.length ≤ i) :
    Calls Tryz.prog 165 #[.int .i64 t, .pointer (some ⟨gb, 0, none⟩), .pointer (some ⟨go, 0, none⟩)] w fun e w' => e = .returned (.int .i64 10) ∧ w = w' := by
  obtain ⟨hbel, hb, ho2, ⟨A, n, c, hblk, hrb, hnc, hcm⟩, A2, n2, c2, hblk2, hown⟩ := h
  have hn : n = 0 := by have := hrb.1; rw [List.length_drop] at this; omega
  subst hn
  have c1 : w.cell? ⟨gb, 0, none⟩ = some (.slice A 0 c) := hblk.cell 0
  have b : (t == 1) = false := by rw [beq_eq_false_iff_ne]; exact ht
  clear ht
  go_enter Tryz.func165, Tryz.ntmps165
  go_wp2
  go_ret
  exact ⟨rfl, rfl⟩
theorem read1_form (t : Int) (gb go : Nat) (bs : List UInt8) (out : List Int) (i : Nat) (w0 w : World) (h : RdSt w0 w gb go bs out i) (ht : t ≠ 1) (hi : i < bs.length) (hf : 1 < byteAt bs i) :
    Calls Tryz.prog 165 #[.int .i64 t, .pointer (some ⟨gb, 0, none⟩), .pointer (some ⟨go, 0, none⟩)] w fun e w' => e = .returned (.int .i64 11) ∧ w = w' := by
  obtain ⟨hbel, hb, ho2, ⟨A, n, c, hblk, hrb, hnc, hcm⟩, A2, n2, c2, hblk2, hown⟩ := h
  have hn : 0 < n := by have := hrb.1; rw [List.length_drop] at this; omega
  have c1 : w.cell? ⟨gb, 0, none⟩ = some (.slice A n c) := hblk.cell 0
  have b : (t == 1) = false := by rw [beq_eq_false_iff_ne]; exact ht
  have hrb' := hrb.below hbel (Nat.le_refl _)
  obtain ⟨b2, o2, rfl, _, hc2⟩ := hrb'.at_ hn
  have e1 : byteAt (bs.drop i) 0 = byteAt bs i := by unfold byteAt; simp [List.getD_eq_getElem?_getD]
  rw [e1, Nat.add_zero] at hc2
  have e2 : (((byteAt bs i : Nat) : Int) == 0 || ((byteAt bs i : Nat) : Int) == 1) = false := by
    rw [Bool.or_eq_false_iff, beq_eq_false_iff_ne, beq_eq_false_iff_ne]; omega
  have hb256 := byteAt_lt bs i
  clear e1 ht hf hrb'
  have hnb : (((n : Nat) : Int) == 0) = false := by rw [beq_eq_false_iff_ne]; omega
  have ht2 := fun w => truth_any ((byteAt bs i : Nat) : Int) w
  rw [e2] at ht2
  clear e2
  generalize byteAt bs i = y at *
  unfold maxLen at hcm
  go_enter Tryz.func165, Tryz.ntmps165
  go_wp2_with (go_at_call 167; (with_reducible refine (ht2 _).mono ?_); rintro e w' ⟨rfl, rfl⟩)
  go_ret
  exact ⟨rfl, rfl⟩

set_option maxHeartbeats 1000000 in
theorem read1_bool (t : Int) (gb go : Nat) (bs : List UInt8) (out : List Int) (i : Nat) (w0 w : World) (h : RdSt w0 w gb go bs out i) (ho : out.length ≤ 100) (ht : t ≠ 1) (hi : i < bs.length) (hf : byteAt bs i ≤ 1) :
    Calls Tryz.prog 165 #[.int .i64 t, .pointer (some ⟨gb, 0, none⟩), .pointer (some ⟨go, 0, none⟩)] w fun e w' => e = .returned (.int .i64 0) ∧ RdSt w0 w' gb go bs (out ++ [(byteAt bs i : Int)]) (i + 1) := by
  obtain ⟨hbel, hb, ho2, ⟨A, n, c, hblk, hrb, hnc, hcm⟩, A2, n2, c2, hblk2, hown⟩ := h
  have hn : 0 < n := by have := hrb.1; rw [List.length_drop] at this; omega
  have hrb2 := cut_rb hrb (k := 1) hn hnc
  rw [List.drop_drop] at hrb2
  have b : (t == 1) = false := by rw [beq_eq_false_iff_ne]; exact ht
  have hrb' := hrb.below hbel (Nat.le_refl _)
  obtain ⟨b2, o2, hA, hb2, hc2⟩ := hrb'.at_ hn
  have e1 : byteAt (bs.drop i) 0 = byteAt bs i := by unfold byteAt; simp [List.getD_eq_getElem?_getD]
  rw [e1, Nat.add_zero] at hc2
  have e2 : (((byteAt bs i : Nat) : Int) == 0 || ((byteAt bs i : Nat) : Int) == 1) = true := by
    rw [Bool.or_eq_true, beq_iff_eq, beq_iff_eq]; omega
  have hb256 := byteAt_lt bs i
  have hcut : ∀ W, (Instr.slice 22 (.slice A n c) (some (.int .i64 1)) none none).run Tryz.prog W = .ok (.slice (if c = 1 then A else A.map (·.add (1 * 1))) (n - 1) (c - 1)) W := fun W => run_cut_from (P := Tryz.prog) elemU8 A n c 1 hn W
  generalize (if c = 1 then A else A.map (·.add (1 * 1))) = A' at *
  subst hA
  clear e1 ht hf hrb'
  have hnb : (((n : Nat) : Int) == 0) = false := by rw [beq_eq_false_iff_ne]; omega
  have ht2 := fun w => truth_any ((byteAt bs i : Nat) : Int) w
  rw [e2] at ht2
  clear e2
  generalize byteAt bs i = y at *
  have c1 : w.cell? ⟨gb, 0, none⟩ = some (.slice (some ⟨b2, o2, none⟩) n c) := hblk.cell 0
  have f1 := hblk.frozen 0
  have c3 : w.cell? ⟨go, 0, none⟩ = some (.slice A2 n2 c2) := hblk2.cell 0
  have f3 := hblk2.frozen 0
  have hlt := hblk.lt
  have hlt2 := hblk2.lt
  have hbs := hbel.size
  have hn2 : n2 ≤ 100 := by have := hown.1; omega
  have hne1 := hown.ne_ hblk (by decide)
  have hne2 := hown.ne_ hblk2 (by decide)
  have hgo : gb ≠ go := hblk.ne_ hblk2 (by decide)
  have hi0 : (0 : Int) < (n : Int) := by omega
  have hi1 : (1 : Int) ≤ (n : Int) := by omega
  have hw : IntKind.i64.wrap ((y : Nat) : Int) = (y : Int) := by rw [IntKind.wrap_i64]; omega
  unfold maxLen at hcm
  go_enter Tryz.func165, Tryz.ntmps165
  go_wp2_with (go_at_call 167; (with_reducible refine (ht2 _).mono ?_); rintro e w' ⟨rfl, rfl⟩)
  go_region_law ((refine step_app rfl rfl elemInt iv_one (s := .tmp 35) (N := n2 + 1) (L := out ++ [((y : Nat) : Int)]) rfl (hown.below (b := w.heap.size) (by (repeat' (first | (with_reducible exact Below.refl _ _) | (with_reducible assumption) | (with_reducible refine Below.drew ?_) | (with_reducible refine below_drewN ?_ _) | (with_reducible refine Below.alloc ?_ ?_ _) | (with_reducible refine Below.setCell ?_ ?_ _) | omega | (simp; done) | (simp; omega)))) (Nat.le_refl _)) rfl (k := [((y : Nat) : Int)]) (Rd.of_block (l := [((y : Nat) : Int)]) (heap_top _ _ (by simp)) rfl) rfl rfl (by unfold maxLen; omega) (by omega) (by simp; omega) ?_; intro A5 c5 w5 hown5 hg5 hat5 hb5; have k1 : Blk w5 gb 22 [.slice (some ⟨b2, o2, none⟩) n c] := Blk.grown (by (repeat' (first | (with_reducible assumption) | (with_reducible refine Blk.top _ (by first | rfl | omega | (simp; done) | (simp; omega)) rfl) | (with_reducible refine Blk.alloc ?_ _) | (with_reducible refine Blk.drew ?_) | (with_reducible refine Blk.drewN ?_ _) | (with_reducible refine Blk.far ?_ (by first | omega | (simp; done) | (simp; omega)) _)))) hg5 hne1; have k2 : Blk w5 go 23 [.slice A2 n2 c2] := Blk.grown (by (repeat' (first | (with_reducible assumption) | (with_reducible refine Blk.top _ (by first | rfl | omega | (simp; done) | (simp; omega)) rfl) | (with_reducible refine Blk.alloc ?_ _) | (with_reducible refine Blk.drew ?_) | (with_reducible refine Blk.drewN ?_ _) | (with_reducible refine Blk.far ?_ (by first | omega | (simp; done) | (simp; omega)) _)))) hg5 hne2; have c15 : w5.cell? ⟨gb, 0, none⟩ = some (.slice (some ⟨b2, o2, none⟩) n c) := k1.cell 0; have f15 := k1.frozen 0; have c35 : w5.cell? ⟨go, 0, none⟩ = some (.slice A2 n2 c2) := k2.cell 0; have f35 := k2.frozen 0))
  all_goals
    go_wp2
    go_ret
    have hb6 : Below w0.heap.size w0 w5 := ((hbel.alloc (by omega) _).drew).trans hb5
    refine ⟨rfl, (hb6.setCell (by omega) _).setCell (by omega) _, hb, ho2, ⟨A', n - 1, c - 1, (k1.far hgo _).set_ 0 _, hrb2, by omega, by unfold maxLen; omega⟩, A5, n2 + 1, c5, (k2.set_ 0 _).far (Ne.symm hgo) _, ?_⟩
    exact (hown5.setFar k2 (by decide) 0 _).setFar (k1.far hgo _) (by decide) 0 _
end Go.Proofs.YtalmdccgpigppaaGreat
