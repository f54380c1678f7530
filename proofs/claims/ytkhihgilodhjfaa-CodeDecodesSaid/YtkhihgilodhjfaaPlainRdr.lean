/- Plain: what is read of a program's bytes. No program in sight. -/
import Derived.Test.YtkhihgilodhjfaaPlainCode
import Derived.Test.YtkhihgilodhjfaaNumD
namespace Go.Proofs.Ytkhihgilodhjfaa
open Go.RowKit

/-- The bytes that are left, and what went wrong first. -/
abbrev RS := List UInt8 × Nat
def needS (s : RS) (ok : Bool) (z : Nat) : RS := if ok = false ∧ s.2 = 0 then (s.1, z) else s
def rByte (s : RS) : Nat × RS := if s.2 ≠ 0 then (0, s) else if s.1 = [] then (0, (s.1, 10)) else (byteAt s.1 0, (s.1.drop 1, 0))
def rShort (lo hi : Nat) (s : RS) : Nat × RS :=
  if s.2 ≠ 0 then (0, s) else if (endsL 9 0 s.1).2 ≠ 0 then (0, (s.1, (endsL 9 0 s.1).2)) else if longV s.1 < lo ∨ hi < longV s.1 then (0, (s.1, 3)) else (longV s.1, (s.1.drop (endsL 9 0 s.1).1, 0))
def rZig (s : RS) : Int × RS := if s.2 ≠ 0 then (0, s) else if zagE s.1 ≠ 0 then (0, (s.1, zagE s.1)) else (zagV s.1, (s.1.drop (zagS s.1), 0))
def typeB (t : Nat) : Bool := decide (t = 1) || decide (t = 2)
def rKind (s : RS) : Nat × RS := ((rByte s).1, needS (rByte s).2 (typeB (rByte s).1) 11)
def rKinds : Nat → RS → List Int × RS
  | 0, s => ([], s)
  | n + 1, s => ((rKinds n s).1 ++ [((rKind (rKinds n s).2).1 : Int)], (rKind (rKinds n s).2).2)
def rTypes (s : RS) : List Int × RS := rKinds (rShort 1 8 s).1 (rShort 1 8 s).2
def rCell (s : RS) : (Int × Int) × RS := ((((rKind s).1 : Int), (rZig (rKind s).2).1), needS (rZig (rKind s).2).2 (valueB (rKind s).1 (rZig (rKind s).2).1) 11)
def rCells : Nat → RS → List (Int × Int) × RS
  | 0, s => ([], s)
  | n + 1, s => ((rCells n s).1 ++ [(rCell (rCells n s).2).1], (rCell (rCells n s).2).2)
end Go.Proofs.Ytkhihgilodhjfaa
