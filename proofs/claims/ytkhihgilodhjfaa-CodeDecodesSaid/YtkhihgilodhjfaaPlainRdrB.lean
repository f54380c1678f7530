/- Plain: instructions and programs that are read of bytes. No program in sight. -/
import Derived.Test.YtkhihgilodhjfaaPlainRdr
namespace Go.Proofs.Ytkhihgilodhjfaa
open Go.RowKit

def rOpt (yes : Bool) (s : RS) : Nat × RS := if yes then rShort 0 9223372036854775807 s else (0, s)
def rOptZ (yes : Bool) (s : RS) : Int × RS := if yes then rZig s else (0, s)
/-- An instruction's op, and the reader behind what its op is asked for. -/
def rOp (s : RS) : Nat × RS := ((rByte s).1, needS (rByte s).2 (decide (cls (rByte s).1 ≠ 0)) 11)
def rInstr (s : RS) : Ins × RS :=
  let o := rOp s
  let a := rShort 0 9223372036854775807 o.2
  let b := rOpt (decide (2 ≤ cls o.1)) a.2
  let c := rOpt (decide (3 ≤ cls o.1)) b.2
  let k := rOptZ (decide (cls o.1 = 1 ∨ cls o.1 = 4)) c.2
  (⟨o.1, a.1, b.1, c.1, k.1⟩, k.2)
def rInstrs : Nat → RS → List Ins × RS
  | 0, s => ([], s)
  | n + 1, s => ((rInstrs n s).1 ++ [(rInstr (rInstrs n s).2).1], (rInstr (rInstrs n s).2).2)
/-- A program's bytes: the program and nought, or none and what is wrong. -/
def noProg : PV := ⟨[], [], 0, [], []⟩
def decodeL (bs : List UInt8) : PV × Nat :=
  let i := rTypes (bs, 0)
  let o := rTypes i.2
  let r := rShort 0 1600 o.2
  let n := rShort 0 60 r.2
  let cs := rCells n.1 n.2
  let m := rShort 0 2048 cs.2
  let is := rInstrs m.1 m.2
  let e := needS is.2 (decide (is.2.1.length = 0)) 12
  if e.2 ≠ 0 then (noProg, e.2) else (⟨i.1, o.1, r.1, cs.1, is.1⟩, 0)
end Go.Proofs.Ytkhihgilodhjfaa
