/- Parts: NumA, NumB, NumC, NumD, PlainNumB, PlainNumC, PlainRow, PlainCode. -/
import Derived.Test.YtpmkpckldnnigaaGreatPr02
import Derived.Test.YtpmkpckldnnigaaGreatPr01
namespace Go.Proofs.YtpmkpckldnnigaaGreat
open Go.RowKit

end Go.Proofs.YtpmkpckldnnigaaGreat
namespace Go.Proofs.YtpmkpckldnnigaaGreat
open Go.RowKit

end Go.Proofs.YtpmkpckldnnigaaGreat
namespace Go.Proofs.YtpmkpckldnnigaaGreat
open Go.RowKit

end Go.Proofs.YtpmkpckldnnigaaGreat
namespace Go.Proofs.YtpmkpckldnnigaaGreat
open Go.RowKit

end Go.Proofs.YtpmkpckldnnigaaGreat
namespace Go.Proofs.YtpmkpckldnnigaaGreat
open Go.RowKit

end Go.Proofs.YtpmkpckldnnigaaGreat
namespace Go.Proofs.YtpmkpckldnnigaaGreat
open Go.RowKit

end Go.Proofs.YtpmkpckldnnigaaGreat
namespace Go.Proofs.YtpmkpckldnnigaaGreat
open Go.RowKit

def allK (n : Nat) (f : Nat → Bool) : Bool := (List.range n).all f
theorem allK_true {n : Nat} {f : Nat → Bool} : allK n f = true ↔ ∀ i, i < n → f i = true := by simp [allK, List.all_eq_true]
def tyB (t : Int) : Bool := t == 1 || t == 2
def rightB (l : List Int) : Bool := allK l.length (fun i => tyB (intAt l i)) && (decide (1 ≤ l.length) && decide (l.length ≤ 8))
def okAt (t v : Int) : Bool := !(t == 2) || (v == 0 || v == 1)
def fitsB (ts l : List Int) : Bool := rightB ts && (decide (l.length = ts.length) && allK ts.length (fun i => okAt (intAt ts i) (intAt l i)))
def piece (t v : Int) : List UInt8 := if t = 2 then [UInt8.ofNat v.toNat] else digL 9 (zz v)
end Go.Proofs.YtpmkpckldnnigaaGreat
namespace Go.Proofs.YtpmkpckldnnigaaGreat
open Go.RowKit

structure Ins where
  op : Int
  a : Int
  b : Int
  c : Int
  k : Int
deriving DecidableEq
structure PV where
  ins : List Int
  outs : List Int
  regs : Int
  cells : List (Int × Int)
  code : List Ins
def cellE (x : Int × Int) : List Value := [.int .i64 x.1, .int .i64 x.2]
def insE (x : Ins) : List Value := [.int .i64 x.op, .int .i64 x.a, .int .i64 x.b, .int .i64 x.c, .int .i64 x.k]
theorem cellE_len (x : Int × Int) : (cellE x).length = 2 := rfl
theorem insE_len (x : Ins) : (insE x).length = 5 := rfl
/-- Where a program lies. -/
structure PA where
  A1 : Option Addr
  n1 : Nat
  c1 : Nat
  A2 : Option Addr
  n2 : Nat
  c2 : Nat
  A3 : Option Addr
  n3 : Nat
  c3 : Nat
  A4 : Option Addr
  n4 : Nat
  c4 : Nat
structure ProgRd (w : World) (x : PA) (p : PV) : Prop where
  r1 : RI w x.A1 x.n1 p.ins
  r2 : RI w x.A2 x.n2 p.outs
  r3 : RdS 2 cellE w x.A3 x.n3 p.cells
  r4 : RdS 5 insE w x.A4 x.n4 p.code
  k1 : x.n1 ≤ x.c1 ∧ x.c1 ≤ maxLen
  k2 : x.n2 ≤ x.c2 ∧ x.c2 ≤ maxLen
  k3 : x.n3 ≤ x.c3 ∧ x.c3 ≤ maxLen
  k4 : x.n4 ≤ x.c4 ∧ x.c4 ≤ maxLen
theorem ProgRd.below {w w' : World} {x : PA} {p : PV} {b : Nat} (h : ProgRd w x p) (hb : Below b w w') (hB : w.heap.size ≤ b) : ProgRd w' x p :=
  ⟨h.r1.below hb hB, h.r2.below hb hB, h.r3.below hb hB, h.r4.below hb hB, h.k1, h.k2, h.k3, h.k4⟩

def valueB (t n : Int) : Bool := t == 1 || (t == 2 && (n == 0 || n == 1))
def cls (op : Int) : Nat :=
  if op = 1 ∨ op = 2 ∨ op = 21 ∨ (28 ≤ op ∧ op ≤ 32) then 1
  else if op = 3 ∨ op = 5 ∨ op = 6 then 2
  else if 7 ≤ op ∧ op ≤ 20 then 3
  else if op = 27 then 4 else 0
def InsOk (x : Ins) : Prop := cls x.op ≠ 0 ∧ 0 ≤ x.a ∧ 0 ≤ x.b ∧ 0 ≤ x.c ∧ (cls x.op = 1 → x.b = 0) ∧ (cls x.op ≤ 2 → x.c = 0) ∧ (cls x.op = 2 ∨ cls x.op = 3 → x.k = 0)
instance (x : Ins) : Decidable (InsOk x) := by unfold InsOk; infer_instance
def insB (x : Ins) : Bool := decide (InsOk x)
def cellAt (l : List (Int × Int)) (i : Nat) : Int × Int := l.getD i (0, 0)
def insAt (l : List Ins) (i : Nat) : Ins := l.getD i ⟨0, 0, 0, 0, 0⟩
def mayB (p : PV) : Bool := (rightB p.ins && rightB p.outs) && ((decide (0 ≤ p.regs) && decide (p.regs ≤ 1600)) && ((decide (p.cells.length ≤ 60) && decide (p.code.length ≤ 2048)) &&
  (allK p.cells.length (fun i => valueB (cellAt p.cells i).1 (cellAt p.cells i).2) && allK p.code.length (fun i => insB (insAt p.code i)))))
theorem mayB_true {p : PV} : mayB p = true ↔ rightB p.ins = true ∧ rightB p.outs = true ∧ 0 ≤ p.regs ∧ p.regs ≤ 1600 ∧ p.cells.length ≤ 60 ∧ p.code.length ≤ 2048 ∧
    (∀ i, i < p.cells.length → valueB (cellAt p.cells i).1 (cellAt p.cells i).2 = true) ∧ (∀ i, i < p.code.length → insB (insAt p.code i) = true) := by
  unfold mayB; simp only [Bool.and_eq_true, allK_true, decide_eq_true_eq]
  constructor
  · rintro ⟨⟨h1, h2⟩, ⟨h3, h4⟩, ⟨h5, h6⟩, h7, h8⟩; exact ⟨h1, h2, h3, h4, h5, h6, h7, h8⟩
  · rintro ⟨h1, h2, h3, h4, h5, h6, h7, h8⟩; exact ⟨⟨h1, h2⟩, ⟨h3, h4⟩, ⟨h5, h6⟩, h7, h8⟩
end Go.Proofs.YtpmkpckldnnigaaGreat
