/- Contracts of package state and of its reference: which snapshots fit; are two one? -/
import Derived.Test.YtkhihgilodhjfaaStateA
namespace Go.Proofs.Ytkhihgilodhjfaa
open Go.RowKit

def snapB (s s' : SV) : Bool := (s.tick == s'.tick) && ((s.hash == s'.hash) && decide (s.cells = s'.cells))
theorem snapB_true {s s' : SV} : snapB s s' = true ↔ s = s' := by
  cases s; cases s'; simp [snapB]

theorem refstatesame_any (t h t' h' : Int) (A B : Option Addr) (n m c d : Nat) (l k : List Int) (w : World) (ha : RI w A n l) (hb : RI w B m k) (hn : n ≤ maxLen) :
    Calls Try.prog 13 #[.agg #[.int .i64 t, .int .i64 h, .slice A n c], .agg #[.int .i64 t', .int .i64 h', .slice B m d]] w fun e w' => e = .returned (.bool (snapB ⟨t, h, l⟩ ⟨t', h', k⟩)) ∧ Below w.heap.size w w' := by
  have hh := fun w a b => ints_any A B n m c d l k w a b hn
  unfold snapB
  simp only
  generalize decide (l = k) = z at *
  have hbel : Below w.heap.size w ((w.alloc (.cells #[.int .i64 t, .int .i64 h, .slice A n c] 28)).alloc (.cells #[.int .i64 t', .int .i64 h', .slice B m d] 28)) := (by (repeat' (first | (with_reducible exact Below.refl _ _) | (with_reducible assumption) | (with_reducible refine Below.drew ?_) | (with_reducible refine below_drewN ?_ _) | (with_reducible refine Below.alloc ?_ ?_ _) | (with_reducible refine Below.setCell ?_ ?_ _) | omega | (simp; done) | (simp; omega))))
  have R := ha.below hbel (Nat.le_refl _)
  have S := hb.below hbel (Nat.le_refl _)
  clear ha hb hbel hn
  cases h1 : t == t' with
  | false =>
    go_enter Try.func13, Try.ntmps13
    go_wp2
    go_ret
    exact ⟨rfl, (by (repeat' (first | (with_reducible exact Below.refl _ _) | (with_reducible assumption) | (with_reducible refine Below.drew ?_) | (with_reducible refine below_drewN ?_ _) | (with_reducible refine Below.alloc ?_ ?_ _) | (with_reducible refine Below.setCell ?_ ?_ _) | omega | (simp; done) | (simp; omega))))⟩
  | true =>
    cases h2 : h == h' with
    | false =>
      go_enter Try.func13, Try.ntmps13
      go_wp2
      go_ret
      exact ⟨rfl, (by (repeat' (first | (with_reducible exact Below.refl _ _) | (with_reducible assumption) | (with_reducible refine Below.drew ?_) | (with_reducible refine below_drewN ?_ _) | (with_reducible refine Below.alloc ?_ ?_ _) | (with_reducible refine Below.setCell ?_ ?_ _) | omega | (simp; done) | (simp; omega))))⟩
    | true =>
      cases z
      all_goals
        go_enter Try.func13, Try.ntmps13
        go_wp2_with (go_at_call 31; (with_reducible refine (hh _ R S).mono ?_); rintro e w1 ⟨rfl, q1, rfl⟩)
        go_ret
        exact ⟨rfl, (by (repeat' (first | (with_reducible exact Below.refl _ _) | (with_reducible assumption) | (with_reducible refine Below.drew ?_) | (with_reducible refine below_drewN ?_ _) | (with_reducible refine Below.alloc ?_ ?_ _) | (with_reducible refine Below.setCell ?_ ?_ _) | omega | (simp; done) | (simp; omega))))⟩

theorem valueB_okAt {t f v : Int} (h : valueB t f = true) : valueB t v = okAt t v := by
  unfold valueB at h ⊢
  unfold okAt
  simp only [Bool.or_eq_true, Bool.and_eq_true, beq_iff_eq] at h
  rcases h with rfl | ⟨rfl, _⟩
  · simp
  · simp

end Go.Proofs.Ytkhihgilodhjfaa
