/- Contracts of package state: reading numbers one behind the other. -/
import Derived.Test.YtkhihgilodhjfaaStateC
import Derived.Test.YtkhihgilodhjfaaRowD
import Derived.Test.YtkhihgilodhjfaaRefNumG
namespace Go.Proofs.Ytkhihgilodhjfaa
open Go.RowKit

/-- What reads numbers holds: the bytes that are left. -/
structure NumSt (w0 w : World) (gb : Nat) (bs : List UInt8) (i : Nat) : Prop where
  below : Below w0.heap.size w0 w
  hb : w0.heap.size ≤ gb
  bb : ∃ A n c, Blk w gb 29 [.slice A n c] ∧ RB w0 A n (bs.drop i) ∧ n ≤ c ∧ c ≤ maxLen
def numAt (bs : List UInt8) (i : Nat) : Int := sg (getL ((bs.drop i).take 8))
theorem next_any (gb : Nat) (bs : List UInt8) (i : Nat) (w0 w : World) (h : NumSt w0 w gb bs i) (hi : i + 8 ≤ bs.length) :
    Calls Try.prog 75 #[.pointer (some ⟨gb, 0, none⟩)] w fun e w' => e = .returned (.int .i64 (numAt bs i)) ∧ NumSt w0 w' gb bs (i + 8) ∧ w.grownBy w' (some gb) := by
  obtain ⟨hbel, hb, A, n, c, hblk, hrb, hnc, hcm⟩ := h
  have hn : 8 ≤ n := by have := hrb.1; rw [List.length_drop] at this; omega
  have hcut8 : ∀ W, (Instr.slice 29 (.slice A n c) none (some (.int .i64 8)) none).run Try.prog W = .ok (.slice A 8 c) W := fun W => run_cut_to (P := Try.prog) elemU8 A n c 8 (by omega) W
  have hcutr : ∀ W, (Instr.slice 29 (.slice A n c) (some (.int .i64 8)) none none).run Try.prog W = .ok (.slice (if c = 8 then A else A.map (·.add (8 * 1))) (n - 8) (c - 8)) W := fun W => run_cut_from (P := Try.prog) elemU8 A n c 8 hn W
  have hrb2 := cut_rb hrb (k := 8) hn hnc
  rw [List.drop_drop] at hrb2
  generalize (if c = 8 then A else A.map (·.add (8 * 1))) = A' at *
  have hget := fun w hl => get_any A c ((bs.drop i).take 8) w hl
  have hr8 := (hrb.below hbel (Nat.le_refl _)).less hn
  have hnum : Hid (sg (getL ((bs.drop i).take 8)) = numAt bs i) := rfl
  rw [hnum.out] at hget
  generalize numAt bs i = v at *
  have c1 : w.cell? ⟨gb, 0, none⟩ = some (.slice A n c) := hblk.cell 0
  have f1 := hblk.frozen 0
  clear hnum
  go_enter Try.func75, Try.ntmps75
  go_wp2_with (go_at_call 76; (with_reducible refine (hget _ hr8).mono ?_); rintro e w' ⟨rfl, rfl⟩)
  go_ret
  exact ⟨rfl, ⟨hbel.setCell hb _, hb, A', n - 8, c - 8, hblk.set_ 0 _, hrb2, by omega, by omega⟩, grown_setCell _⟩
theorem numbers_any (A : Option Addr) (n c : Nat) (bs : List UInt8) (w : World) (hl : RB w A n bs) (hnc : n ≤ c) (hcm : c ≤ maxLen) :
    Calls Try.prog 41 #[.slice A n c] w fun e w' => e = .returned (.func (.func 75) #[] #[.pointer (some ⟨w.heap.size, 0, none⟩)]) ∧ NumSt w w' w.heap.size bs 0 ∧ w'.heap.size = w.heap.size + 1 := by
  go_enter Try.func41, Try.ntmps41
  go_wp2
  go_ret
  exact ⟨rfl, ⟨(by (repeat' (first | (with_reducible exact Below.refl _ _) | (with_reducible assumption) | (with_reducible refine Below.drew ?_) | (with_reducible refine below_drewN ?_ _) | (with_reducible refine Below.alloc ?_ ?_ _) | (with_reducible refine Below.setCell ?_ ?_ _) | omega | (simp; done) | (simp; omega)))), Nat.le_refl _, A, n, c, (by (repeat' (first | (with_reducible assumption) | (with_reducible refine Blk.top _ (by first | rfl | omega | (simp; done) | (simp; omega)) rfl) | (with_reducible refine Blk.alloc ?_ _) | (with_reducible refine Blk.drew ?_) | (with_reducible refine Blk.drewN ?_ _) | (with_reducible refine Blk.far ?_ (by first | omega | (simp; done) | (simp; omega)) _)))), by simpa using hl, hnc, hcm⟩, by simp⟩
end Go.Proofs.Ytkhihgilodhjfaa
