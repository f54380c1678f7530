/- Zag, the program's and the reference's, of any bytes. -/
import Derived.Test.YtkhihgilodhjfaaPlainRow
import Derived.Test.YtkhihgilodhjfaaRefNumF
namespace Go.Proofs.Ytkhihgilodhjfaa
open Go.RowKit

theorem zag_any (A : Option Addr) (n c : Nat) (l : List UInt8) (w : World) (hl : RB w A n l) (hn : n ≤ maxLen) :
    Calls Try.prog 89 #[.slice A n c] w fun e w' => e = .returned (.tuple #[.int .i64 (zagV l), .int .i64 (zagS l : Nat), .int .i64 (zagE l : Nat)]) ∧ w = w' := by
  by_cases h : (endsL 10 0 l).2 = 0
  · have hz : endsL 10 0 l = ((endsL 10 0 l).1, 0) := Prod.ext rfl h
    by_cases hb : (endsL 10 0 l).1 = 10 ∧ 1 < byteAt l 9
    · have e1 : zagE l = 11 := by unfold zagE; rw [if_neg (by omega), if_pos hb]
      have e2 : zagS l = 0 := by unfold zagS; rw [if_neg (by omega)]
      have e3 : zagV l = 0 := by unfold zagV; rw [if_neg (by omega)]
      rw [e1, e2, e3]
      rw [hb.1] at hz
      exact zag_big A n c l w hl hn hz hb.2
    · have e1 : zagE l = 0 := by unfold zagE; rw [if_neg (by omega), if_neg hb]
      have e2 : zagS l = (endsL 10 0 l).1 := by unfold zagS; rw [if_pos e1]
      have e3 : zagV l = unzz (sevL (l.take (endsL 10 0 l).1)) := by unfold zagV; rw [if_pos e1]
      rw [e1, e2, e3]
      exact zag_ok A n c _ l w hl hn hz (by omega)
  · have e1 : zagE l = (endsL 10 0 l).2 := by unfold zagE; rw [if_pos h]
    have e2 : zagS l = 0 := by unfold zagS; rw [if_neg (by omega)]
    have e3 : zagV l = 0 := by unfold zagV; rw [if_neg (by omega)]
    rw [e1, e2, e3]
    exact zag_err A n c l w hl hn h
theorem refzag_any (A : Option Addr) (n c : Nat) (l : List UInt8) (w : World) (hl : RB w A n l) (hn : n ≤ maxLen) :
    Calls Try.prog 81 #[.slice A n c] w fun e w' => e = .returned (.tuple #[.int .i64 (zagV l), .int .i64 (zagS l : Nat), .int .i64 (zagE l : Nat)]) ∧ Below w.heap.size w w' := by
  by_cases h : (endsL 10 0 l).2 = 0
  · have hz : endsL 10 0 l = ((endsL 10 0 l).1, 0) := Prod.ext rfl h
    by_cases hb : (endsL 10 0 l).1 = 10 ∧ 1 < byteAt l 9
    · have e1 : zagE l = 11 := by unfold zagE; rw [if_neg (by omega), if_pos hb]
      have e2 : zagS l = 0 := by unfold zagS; rw [if_neg (by omega)]
      have e3 : zagV l = 0 := by unfold zagV; rw [if_neg (by omega)]
      rw [e1, e2, e3]
      rw [hb.1] at hz
      exact (refzag_big A n c l w hl hn hz hb.2).mono fun e w' ⟨h1, h2⟩ => ⟨h1, by subst h2; exact Below.refl _ _⟩
    · have e1 : zagE l = 0 := by unfold zagE; rw [if_neg (by omega), if_neg hb]
      have e2 : zagS l = (endsL 10 0 l).1 := by unfold zagS; rw [if_pos e1]
      have e3 : zagV l = unzz (sevL (l.take (endsL 10 0 l).1)) := by unfold zagV; rw [if_pos e1]
      rw [e1, e2, e3]
      have hb' : (endsL 10 0 l).1 ≠ 10 ∨ byteAt l 9 ≤ 1 := by omega
      exact refzag_ok A n c _ l w hl hn hz hb' (zag_lt rfl hz hb')
  · have e1 : zagE l = (endsL 10 0 l).2 := by unfold zagE; rw [if_pos h]
    have e2 : zagS l = 0 := by unfold zagS; rw [if_neg (by omega)]
    have e3 : zagV l = 0 := by unfold zagV; rw [if_neg (by omega)]
    rw [e1, e2, e3]
    exact (refzag_err A n c l w hl hn h).mono fun e w' ⟨h1, h2⟩ => ⟨h1, by subst h2; exact Below.refl _ _⟩
end Go.Proofs.Ytkhihgilodhjfaa
