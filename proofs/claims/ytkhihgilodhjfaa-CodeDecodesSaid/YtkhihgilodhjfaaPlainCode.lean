/- Plain functions on programs: which may be, and their bytes. -/
import Derived.Test.YtkhihgilodhjfaaPlainRow
import Derived.Test.YtkhihgilodhjfaaStr
namespace Go.Proofs.Ytkhihgilodhjfaa
open Go.RowKit

structure Ins where
  op : Int
  a : Int
  b : Int
  c : Int
  k : Int
deriving DecidableEq
structure PV where
  ins : List Int
  outs : List Int
  regs : Int
  cells : List (Int × Int)
  code : List Ins
def cellE (x : Int × Int) : List Value := [.int .i64 x.1, .int .i64 x.2]
def insE (x : Ins) : List Value := [.int .i64 x.op, .int .i64 x.a, .int .i64 x.b, .int .i64 x.c, .int .i64 x.k]
theorem cellE_len (x : Int × Int) : (cellE x).length = 2 := rfl
theorem insE_len (x : Ins) : (insE x).length = 5 := rfl
/-- Where a program lies. -/
structure PA where
  A1 : Option Addr
  n1 : Nat
  c1 : Nat
  A2 : Option Addr
  n2 : Nat
  c2 : Nat
  A3 : Option Addr
  n3 : Nat
  c3 : Nat
  A4 : Option Addr
  n4 : Nat
  c4 : Nat
structure ProgRd (w : World) (x : PA) (p : PV) : Prop where
  r1 : RI w x.A1 x.n1 p.ins
  r2 : RI w x.A2 x.n2 p.outs
  r3 : RdS 2 cellE w x.A3 x.n3 p.cells
  r4 : RdS 5 insE w x.A4 x.n4 p.code
  k1 : x.n1 ≤ x.c1 ∧ x.c1 ≤ maxLen
  k2 : x.n2 ≤ x.c2 ∧ x.c2 ≤ maxLen
  k3 : x.n3 ≤ x.c3 ∧ x.c3 ≤ maxLen
  k4 : x.n4 ≤ x.c4 ∧ x.c4 ≤ maxLen
theorem ProgRd.below {w w' : World} {x : PA} {p : PV} {b : Nat} (h : ProgRd w x p) (hb : Below b w w') (hB : w.heap.size ≤ b) : ProgRd w' x p :=
  ⟨h.r1.below hb hB, h.r2.below hb hB, h.r3.below hb hB, h.r4.below hb hB, h.k1, h.k2, h.k3, h.k4⟩

def valueB (t n : Int) : Bool := t == 1 || (t == 2 && (n == 0 || n == 1))
def cls (op : Int) : Nat :=
  if op = 1 ∨ op = 2 ∨ op = 21 ∨ (28 ≤ op ∧ op ≤ 32) then 1
  else if op = 3 ∨ op = 5 ∨ op = 6 then 2
  else if 7 ≤ op ∧ op ≤ 20 then 3
  else if op = 27 then 4 else 0
theorem op_cases (op : Int) : (op = 1 ∨ op = 2 ∨ op = 21 ∨ (28 ≤ op ∧ op ≤ 32)) ∨ (op = 3 ∨ op = 5 ∨ op = 6) ∨ (7 ≤ op ∧ op ≤ 20) ∨ op = 27 ∨ (op ≤ 0 ∨ op = 4 ∨ (22 ≤ op ∧ op ≤ 26) ∨ 33 ≤ op) := by omega
theorem cls_1 {op : Int} (h : op = 1 ∨ op = 2 ∨ op = 21 ∨ (28 ≤ op ∧ op ≤ 32)) : cls op = 1 := by unfold cls; rw [if_pos h]
theorem cls_2 {op : Int} (h : op = 3 ∨ op = 5 ∨ op = 6) : cls op = 2 := by unfold cls; rw [if_neg (by omega), if_pos h]
theorem cls_3 {op : Int} (h : 7 ≤ op ∧ op ≤ 20) : cls op = 3 := by unfold cls; rw [if_neg (by omega), if_neg (by omega), if_pos h]
theorem cls_4 {op : Int} (h : op = 27) : cls op = 4 := by unfold cls; rw [if_neg (by omega), if_neg (by omega), if_neg (by omega), if_pos h]
theorem cls_0 {op : Int} (h : op ≤ 0 ∨ op = 4 ∨ (22 ≤ op ∧ op ≤ 26) ∨ 33 ≤ op) : cls op = 0 := by unfold cls; rw [if_neg (by omega), if_neg (by omega), if_neg (by omega), if_neg (by omega)]
theorem cls_le (op : Int) : cls op ≤ 4 := by
  rcases op_cases op with h | h | h | h | h
  · rw [cls_1 h]; omega
  · rw [cls_2 h]; omega
  · rw [cls_3 h]; omega
  · rw [cls_4 h]; omega
  · rw [cls_0 h]; omega
def fieldsV (op : Int) : Int := match cls op with | 1 => 9 | 2 => 3 | 3 => 7 | 4 => 15 | _ => 0
def hasN (op : Int) : Int := match cls op with | 1 => 1 | 2 => 2 | 3 => 3 | 4 => 3 | _ => 0
def hasK (op : Int) : Bool := cls op == 1 || cls op == 4
def InsOk (x : Ins) : Prop := cls x.op ≠ 0 ∧ 0 ≤ x.a ∧ 0 ≤ x.b ∧ 0 ≤ x.c ∧ (cls x.op = 1 → x.b = 0) ∧ (cls x.op ≤ 2 → x.c = 0) ∧ (cls x.op = 2 ∨ cls x.op = 3 → x.k = 0)
instance (x : Ins) : Decidable (InsOk x) := by unfold InsOk; infer_instance
def insB (x : Ins) : Bool := decide (InsOk x)
def cellAt (l : List (Int × Int)) (i : Nat) : Int × Int := l.getD i (0, 0)
def insAt (l : List Ins) (i : Nat) : Ins := l.getD i ⟨0, 0, 0, 0, 0⟩
def mayB (p : PV) : Bool := (rightB p.ins && rightB p.outs) && ((decide (0 ≤ p.regs) && decide (p.regs ≤ 1600)) && ((decide (p.cells.length ≤ 60) && decide (p.code.length ≤ 2048)) &&
  (allK p.cells.length (fun i => valueB (cellAt p.cells i).1 (cellAt p.cells i).2) && allK p.code.length (fun i => insB (insAt p.code i)))))
theorem mayB_true {p : PV} : mayB p = true ↔ rightB p.ins = true ∧ rightB p.outs = true ∧ 0 ≤ p.regs ∧ p.regs ≤ 1600 ∧ p.cells.length ≤ 60 ∧ p.code.length ≤ 2048 ∧
    (∀ i, i < p.cells.length → valueB (cellAt p.cells i).1 (cellAt p.cells i).2 = true) ∧ (∀ i, i < p.code.length → insB (insAt p.code i) = true) := by
  unfold mayB; simp only [Bool.and_eq_true, allK_true, decide_eq_true_eq]
  constructor
  · rintro ⟨⟨h1, h2⟩, ⟨h3, h4⟩, ⟨h5, h6⟩, h7, h8⟩; exact ⟨h1, h2, h3, h4, h5, h6, h7, h8⟩
  · rintro ⟨h1, h2, h3, h4, h5, h6, h7, h8⟩; exact ⟨⟨h1, h2⟩, ⟨h3, h4⟩, ⟨h5, h6⟩, h7, h8⟩
theorem mayB_false {p : PV} (h : ¬ (rightB p.ins = true ∧ rightB p.outs = true ∧ 0 ≤ p.regs ∧ p.regs ≤ 1600 ∧ p.cells.length ≤ 60 ∧ p.code.length ≤ 2048 ∧
    (∀ i, i < p.cells.length → valueB (cellAt p.cells i).1 (cellAt p.cells i).2 = true) ∧ (∀ i, i < p.code.length → insB (insAt p.code i) = true))) : mayB p = false := by
  rw [Bool.eq_false_iff]; exact fun hc => h (mayB_true.1 hc)
theorem cellAt_get {l : List (Int × Int)} {i : Nat} {x : Int × Int} (h : l[i]? = some x) : cellAt l i = x := by unfold cellAt; rw [List.getD_eq_getElem?_getD, h]; rfl
theorem insAt_get {l : List Ins} {i : Nat} {x : Ins} (h : l[i]? = some x) : insAt l i = x := by unfold insAt; rw [List.getD_eq_getElem?_getD, h]; rfl

/-- A program's bytes. -/
def cellBs (x : Int × Int) : List UInt8 := UInt8.ofNat x.1.toNat :: digL 9 (zz x.2)
def insBs (x : Ins) : List UInt8 := UInt8.ofNat x.op.toNat :: (digL 9 x.a.toNat ++ ((if 2 ≤ cls x.op then digL 9 x.b.toNat else []) ++ ((if 3 ≤ cls x.op then digL 9 x.c.toNat else []) ++ (if hasK x.op then digL 9 (zz x.k) else []))))
def typesBs (l : List Int) : List UInt8 := digL 9 l.length ++ l.map (fun t => UInt8.ofNat t.toNat)
def headBs (p : PV) : List UInt8 := typesBs p.ins ++ typesBs p.outs ++ digL 9 p.regs.toNat ++ digL 9 p.cells.length
def progBs (p : PV) : List UInt8 := headBs p ++ p.cells.flatMap cellBs ++ digL 9 p.code.length ++ p.code.flatMap insBs
end Go.Proofs.Ytkhihgilodhjfaa
