/- Parts: PlainTurn, PlainJrn, PlainCrash. -/
import Derived.Test.YtpmkpckldnnigaaGreatPr21
import Derived.Test.YtpmkpckldnnigaaGreatPr20
import Derived.Test.YtpmkpckldnnigaaGreatPr02
set_option linter.unusedVariables false
set_option linter.unusedSimpArgs false
set_option maxRecDepth 100000
set_option maxHeartbeats 40000000
namespace Go.Proofs.YtpmkpckldnnigaaGreat
open Go.RowKit
structure ScanIs (now : List UInt8) (f : Nat) (kind : Int) (k : Nat) (s : Bool × Nat × List Int) : Prop where
  yes : s.1 = true → s.2.1 = k
  no : s.1 = false → s.2.1 < k ∧ ¬ recN now f kind s.2.1
  recs : ∀ n, n < s.2.1 → recN now f kind n
  le : s.2.1 ≤ k
  dirty : ∀ x ∈ s.2.2, ∃ n : Nat, x = (n : Int) ∧ s.2.1 ≤ n ∧ n < k
  all : ∀ n : Nat, s.2.1 ≤ n → n < k → qc7 now ((f + n : Nat) : Int) ≠ qa5 → (n : Int) ∈ s.2.2
theorem qz3 {l b : List UInt8} {n k many : Nat} (hl : l.length = many * 128) (hb : b.length ≤ 128) (hn : n < many) (hk : k < many) : qc7 (splice l (n * 128) b) (k : Int) = if k = n then splice (qc7 l (k : Int)) 0 b else qc7 l (k : Int) := by
  have h1 : (qc7 (splice l (n * 128) b) (k : Int)).length = 128 := qh8 (s := many) (by rw [qg6 (by rw [hl]; omega), hl]) omg omg; have h2 : (qc7 l (k : Int)).length = 128 := qh8 (s := many) hl omg omg
  split
  · rename_i e; subst e; have h3 : (splice (qc7 l (k : Int)) 0 b).length = 128 := by rw [qg6 omg, h2]
    refine qy8 omg (fun i hi => ?_); rw [qh6 omg, ql0 (by rw [hl]; omega), ql0 omg]
    by_cases q : i < b.length
    · rw [if_pos omg, if_pos omg, Nat.add_sub_cancel_left, Nat.sub_zero]
    · rw [if_neg omg, if_neg omg, qh6 omg]
  · rename_i e; refine qy8 omg (fun i hi => ?_); rw [qh6 omg, qh6 omg, ql0 (by rw [hl]; omega), if_neg omg]
structure Fit (D : qa3) : Prop where
  ok : D.Ok
  off : D.off = false
  room : D.room = D.many
  now : D.now = (qg9 D.waits (D.kept, D.inuse) D.waits.length).1
  might : D.might = (qg9 D.waits (D.kept, D.inuse) D.waits.length).2
section
variable {D : qa3}
end
structure PhA (D : qa3) (sure all : List (List UInt8)) : Prop where
  fit : Fit D
  many : D.many = 10
  le : sure.length ≤ all.length
  le8 : all.length ≤ 8
  pre : all.take sure.length = sure
  len : ∀ l ∈ all, l.length ≤ 113
  now : ∀ n, n < 8 → qc7 D.now ((1 + n : Nat) : Int) = if n < all.length then seal3 n (all.getD n []) else qa5
  kept : ∀ n, n < 8 → qc7 D.kept ((1 + n : Nat) : Int) = if n < sure.length then seal3 n (all.getD n []) else qa5
  waits : ∀ p ∈ D.waits, ∃ n : Nat, p.1 = 1 + n ∧ sure.length ≤ n ∧ n < all.length ∧ p.2 = seal3 n (all.getD n [])
  few : D.waits.length + sure.length ≤ all.length
structure PhC (D : qa3) (sure all : List (List UInt8)) : Prop where
  fit : Fit D
  many : D.many = 10
  le : sure.length ≤ all.length
  le8 : all.length ≤ 8
  pre : all.take sure.length = sure
  len : ∀ l ∈ all, l.length ≤ 113
  waits : D.waits = []
  secs : ∀ n, n < 8 → SecP sure all n (qc7 D.now ((1 + n : Nat) : Int))
structure PhX (D : qa3) (sure all : List (List UInt8)) : Prop where
  ok : D.Ok
  room : D.room = D.many
  many : D.many = 10
  le : sure.length ≤ all.length
  le8 : all.length ≤ 8
  pre : all.take sure.length = sure
  len : ∀ l ∈ all, l.length ≤ 113
  kept : ∀ n, n < 8 → qc7 D.kept ((1 + n : Nat) : Int) = if n < sure.length then seal3 n (all.getD n []) else qa5
  waits : ∀ p ∈ D.waits, ∃ n : Nat, p.1 = 1 + n ∧ sure.length ≤ n ∧ n < all.length ∧ p.2 = seal3 n (all.getD n [])
structure Brk (D : qa3) (K : Nat → List UInt8) (W : Nat × List UInt8 → Prop) : Prop where
  ok : D.Ok
  room : D.room = D.many
  many : D.many = 12
  kept : ∀ s : Nat, s < 12 → qc7 D.kept (s : Int) = K s
  waits : ∀ p ∈ D.waits, W p
structure On (D : qa3) (K N : Nat → List UInt8) (W : Nat × List UInt8 → Prop) : Prop where
  fit : Fit D
  many : D.many = 12
  kept : ∀ s : Nat, s < 12 → qc7 D.kept (s : Int) = K s
  now : ∀ s : Nat, s < 12 → qc7 D.now (s : Int) = N s
  waits : ∀ p ∈ D.waits, W p
structure SInv (D : qa3) (s : SlV3) (n : Nat) : Prop where
  fit : Fit D
  many : D.many = 12
  waits : D.waits = []
  num : s.number = (n : Int)
  none_ : n = 0 → s = ⟨2, 0, []⟩ ∧ (qb2 D 0 6).2.2.2 = 53 ∧ (qb2 D 6 6).2.2.2 = 53
  some_ : 0 < n → (s.now = 0 ∨ s.now = 1) ∧ (qb2 D (6 * s.now) 6).2 = (s.load, (n : Int), 0) ∧ ((qb2 D (6 * (1 - s.now)) 6).2.2.2 = 53 ∨ ((qb2 D (6 * (1 - s.now)) 6).2.2.2 = 0 ∧ (qb2 D (6 * (1 - s.now)) 6).2.2.1 < (n : Int)))
section
variable {D E : qa3} {s : SlV3} {n : Nat}
end
end Go.Proofs.YtpmkpckldnnigaaGreat
