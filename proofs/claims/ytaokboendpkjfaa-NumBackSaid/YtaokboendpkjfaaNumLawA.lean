/- The chapter's examples of num. -/
import Derived.Test.YtaokboendpkjfaaNumD
import Derived.Test.YtaokboendpkjfaaSame
namespace Go.Proofs.Ytaokboendpkjfaa
open Go.RowKit

theorem awake1 (w : World) : Calls Try.prog 22 #[] w fun e w' => e = .returned (.bool true) ∧ Below w.heap.size w w' := by
  have d1 : digL 9 300 = [172, 2] := by decide +kernel
  have d2 : digL 9 (zz (-1)) = [1] := by decide +kernel
  have hs : ∀ w : World, Calls Try.prog 27 #[.int .i64 300] w fun e w' => ∃ A c, e = .returned (.tuple #[.slice A 2 c, .int .i64 0]) ∧ OB w' w.heap.size 5 A 2 c [172, 2] ∧ Below w.heap.size w w' := fun w => by
    have h := short_any 300 w (by omega)
    rw [d1] at h; exact h
  have hz : ∀ w : World, Calls Try.prog 33 #[.int .i64 (-1)] w fun e w' => ∃ A c, e = .returned (.slice A 1 c) ∧ OB w' w.heap.size 5 A 1 c [1] ∧ Below w.heap.size w w' := fun w => by
    have h := zig_any (-1) w (by omega) (by omega)
    rw [d2] at h; exact h
  have h2 : ∀ (w : World) (B : Option Addr) (m d : Nat) (k : List UInt8), RB w B m k → True := fun _ _ _ _ _ _ => trivial
  have hsm1 : ∀ (A B : Option Addr) (c d : Nat) (w : World), RB w A 2 [172, 2] → RB w B 2 [172, 2] → Calls Try.prog 19 #[.slice A 2 c, .slice B 2 d] w fun e w' => e = .returned (.bool true) ∧ ∃ q, w' = w.drewN q :=
    fun A B c d w ha hb => (same_any A B 2 2 c d _ _ w ha hb (by decide)).mono fun e w' ⟨h1, h2⟩ => ⟨by simpa using h1, h2⟩
  have hsm2 : ∀ (A B : Option Addr) (c d : Nat) (w : World), RB w A 1 [1] → RB w B 1 [1] → Calls Try.prog 19 #[.slice A 1 c, .slice B 1 d] w fun e w' => e = .returned (.bool true) ∧ ∃ q, w' = w.drewN q :=
    fun A B c d w ha hb => (same_any A B 1 1 c d _ _ w ha hb (by decide)).mono fun e w' ⟨h1, h2⟩ => ⟨by simpa using h1, h2⟩
  clear d1 d2 h2
  have n1 : ∀ (w : World), RB (w.alloc (.cells #[.int .u8 172, .int .u8 2] 5)) (some ⟨w.heap.size, 0, none⟩) 2 [172, 2] := fun w => RB.of_block (l := [172, 2]) (heap_top _ _ rfl) rfl
  have n2 : ∀ (w : World), RB (w.alloc (.cells #[.int .u8 1] 5)) (some ⟨w.heap.size, 0, none⟩) 1 [1] := fun w => RB.of_block (l := [1]) (heap_top _ _ rfl) rfl
  go_enter Try.func22, Try.ntmps22
  go_wp2_with (first
    | ((go_at_call 27; (with_reducible refine (hs _).mono ?_); rintro e w1 ⟨A1, c1, rfl, hown1, hb1⟩); replace hb1 := below_then' (a := w) (B := w.heap.size) (by (repeat' (first | (with_reducible exact Below.refl _ _) | (with_reducible assumption) | (with_reducible refine Below.drew ?_) | (with_reducible refine below_drewN ?_ _) | (with_reducible refine Below.alloc ?_ ?_ _) | (with_reducible refine Below.setCell ?_ ?_ _) | omega | (simp; done) | (simp; omega)))) hb1 (by first | omega | (simp; done) | (simp; omega)); have hb1s := hb1.size)
    | ((go_at_call 33; (with_reducible refine (hz _).mono ?_); rintro e w3 ⟨A3, c3, rfl, hown3, hb3⟩); replace hb3 := below_then' (a := w) (B := w.heap.size) (by (repeat' (first | (with_reducible exact Below.refl _ _) | (with_reducible assumption) | (with_reducible refine Below.drew ?_) | (with_reducible refine below_drewN ?_ _) | (with_reducible refine Below.alloc ?_ ?_ _) | (with_reducible refine Below.setCell ?_ ?_ _) | omega | (simp; done) | (simp; omega)))) hb3 (by first | omega | (simp; done) | (simp; omega)); have hb3s := hb3.size)
    | (go_at_call 19; (with_reducible refine (hsm1 _ _ _ _ _ (hown1.rd.rb.below (B := w1.heap.size) (by (repeat' (first | (with_reducible exact Below.refl _ _) | (with_reducible assumption) | (with_reducible refine Below.drew ?_) | (with_reducible refine below_drewN ?_ _) | (with_reducible refine Below.alloc ?_ ?_ _) | (with_reducible refine Below.setCell ?_ ?_ _) | omega | (simp; done) | (simp; omega)))) (Nat.le_refl _)) (n1 _)).mono ?_); rintro e w2 ⟨rfl, q2, rfl⟩)
    | (go_at_call 19; (with_reducible refine (hsm2 _ _ _ _ _ (hown3.rd.rb.below (B := w3.heap.size) (by (repeat' (first | (with_reducible exact Below.refl _ _) | (with_reducible assumption) | (with_reducible refine Below.drew ?_) | (with_reducible refine below_drewN ?_ _) | (with_reducible refine Below.alloc ?_ ?_ _) | (with_reducible refine Below.setCell ?_ ?_ _) | omega | (simp; done) | (simp; omega)))) (Nat.le_refl _)) (n2 _)).mono ?_); rintro e w4 ⟨rfl, q4, rfl⟩)
    | ((go_at_call 25; (with_reducible refine (put_any _ _).mono ?_); rintro e w5 ⟨A5, c5, rfl, hown5, hb5⟩); replace hb5 := below_then' (a := w) (B := w.heap.size) (by (repeat' (first | (with_reducible exact Below.refl _ _) | (with_reducible assumption) | (with_reducible refine Below.drew ?_) | (with_reducible refine below_drewN ?_ _) | (with_reducible refine Below.alloc ?_ ?_ _) | (with_reducible refine Below.setCell ?_ ?_ _) | omega | (simp; done) | (simp; omega)))) hb5 (by first | omega | (simp; done) | (simp; omega)); have hb5s := hb5.size))
  go_ret
  exact ⟨rfl, hb5⟩
end Go.Proofs.Ytaokboendpkjfaa
