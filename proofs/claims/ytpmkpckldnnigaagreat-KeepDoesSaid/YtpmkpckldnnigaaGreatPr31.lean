/- Parts: PlainVerify. -/
import Derived.Test.YtpmkpckldnnigaaGreatPr03
namespace Go.Proofs.YtpmkpckldnnigaaGreat
open Go.RowKit
set_option linter.unusedVariables false
set_option linter.unusedSimpArgs false
/-- What an op that is reckoned takes, and gives. -/
def signIn (op : Int) : Int := if op = 12 ∨ op = 13 then 0 else if op = 6 ∨ 18 ≤ op then 2 else 1
def signOut (op : Int) : Int := if op = 6 ∨ 12 ≤ op then 2 else 1
def isSign (op : Int) : Bool := decide (5 ≤ op ∧ op ≤ 20)
/-- The looker. -/
structure LkV where
  kinds : List Int
  outs : List Bool
  past : Int
  bad : Bool
def kAt (l : List Int) (n : Int) : Int := if n < 0 then 0 else l.getD n.toNat 0
def needV (s : LkV) (b : Bool) : LkV := { s with bad := s.bad || !b }
def takesV (s : LkV) (n : Int) : LkV × Int := if n < 0 ∨ (s.kinds.length : Int) ≤ n ∨ kAt s.kinds n = 0 then ({ s with bad := true }, 0) else (s, kAt s.kinds n)
def givesV (s : LkV) (n kind : Int) : LkV := if n < 0 ∨ (s.kinds.length : Int) ≤ n ∨ kAt s.kinds n ≠ 0 then { s with bad := true } else { s with kinds := s.kinds.set n.toNat kind }
def oneV (s : LkV) (l : List Int) (n : Int) : LkV × Int := if n < 0 ∨ (l.length : Int) ≤ n then ({ s with bad := true }, 0) else (s, kAt l n)
def cellV (p : PV) (s : LkV) (n : Int) : LkV × Int := if n < 0 ∨ (p.cells.length : Int) ≤ n then ({ s with bad := true }, 0) else (s, (cellAt p.cells n.toNat).1)
def reckV (s : LkV) (x : Ins) : LkV :=
  let t := takesV s x.b
  let s1 := needV t.1 (decide (signIn x.op = 0) || decide (t.2 = signIn x.op))
  let s2 := if x.op ≠ 5 ∧ x.op ≠ 6 then (let u := takesV s1 x.c; needV u.1 (decide (u.2 = t.2))) else s1
  givesV s2 x.a (signOut x.op)
def instrV (p : PV) (s : LkV) (i : Nat) (x : Ins) : LkV :=
  if isSign x.op then reckV s x
  else if x.op = 1 then givesV s x.a 1
  else if x.op = 2 then givesV (needV s (decide (x.k = 0) || decide (x.k = 1))) x.a 2
  else if x.op = 3 then (let t := takesV s x.b; givesV t.1 x.a t.2)
  else if x.op = 27 then (let t := takesV s x.b; let s1 := needV t.1 (decide (t.2 = 2)); let u := takesV s1 x.c; let v := takesV u.1 x.k; givesV (needV v.1 (decide (v.2 = u.2))) x.a u.2)
  else if x.op = 21 then (let t := cellV p s x.k; givesV t.1 x.a t.2)
  else if x.op = 28 then (let t := oneV s p.ins x.k; givesV t.1 x.a t.2)
  else if x.op = 29 then
    (let t := takesV s x.a; let u := oneV t.1 p.outs x.k; let s1 := needV (needV u.1 (decide (t.2 = u.2))) (decide (s.past ≤ (i : Int)))
     if s1.bad then s1 else { needV s1 (!(s1.outs.getD x.k.toNat false)) with outs := s1.outs.set x.k.toNat true })
  else if x.op = 32 then (let t := takesV s x.a; let u := cellV p t.1 x.k; needV u.1 (decide (t.2 = u.2)))
  else
    (let t := takesV s x.a; let s1 := needV t.1 (decide (t.2 = 2) && (decide (0 ≤ x.k) && decide (x.k ≤ (p.code.length : Int) - 1 - (i : Int))))
     { s1 with past := max s1.past ((i : Int) + 1 + min x.k (p.code.length : Int)) })
/-- The first n instructions, till one is bad. -/
def lookV (p : PV) : Nat → LkV
  | 0 => ⟨List.replicate p.regs.toNat 0, List.replicate p.outs.length false, 0, false⟩
  | n + 1 => if (lookV p n).bad then lookV p n else instrV p (lookV p n) n (insAt p.code n)
def verifyB (p : PV) : Bool := mayB p && (!(lookV p p.code.length).bad && (lookV p p.code.length).outs.all id)
/-- As the document says: the type that an instruction gives, of what it takes. -/
def givesR (p : PV) (t : Int → Int) (x : Ins) : Int :=
  if isSign x.op then signOut x.op
  else if x.op ≤ 2 then x.op
  else if x.op = 3 then t x.b
  else if x.op = 27 then t x.c
  else if x.op = 21 ∧ 0 ≤ x.k ∧ x.k < (p.cells.length : Int) then (cellAt p.cells x.k.toNat).1
  else if x.op = 28 ∧ 0 ≤ x.k ∧ x.k < (p.ins.length : Int) then kAt p.ins x.k
  else 0
def kindR (p : PV) : Nat → Int → Int
  | 0, _ => 0
  | n + 1, r => if 29 ≤ (insAt p.code n).op ∨ (insAt p.code n).a ≠ r then kindR p n r else if kindR p n r ≠ 0 then 9 else givesR p (fun r => if r < 0 ∨ p.regs ≤ r then 0 else kindR p n r) (insAt p.code n)
def takenR (p : PV) (i : Nat) (r : Int) : Int := if r < 0 ∨ p.regs ≤ r then 0 else kindR p i r
def outsR (p : PV) (n : Nat) (o : Nat) : Nat := ((List.range n).filter (fun i => decide ((insAt p.code i).op = 29) && decide ((insAt p.code i).k = (o : Int)))).length
def gb (l : List Int) (n : Int) : Bool := decide (n < 0 ∨ (l.length : Int) ≤ n ∨ kAt l n ≠ 0)
def skipN (p : PV) (n i : Nat) : Bool := (List.range n).any (fun k => (decide ((insAt p.code k).op = 30) || decide ((insAt p.code k).op = 31)) && decide ((i : Int) - (k : Int) ≤ (insAt p.code k).k))
/-- What the looker knows behind n instructions that are right. -/
structure LkI (p : PV) (n : Nat) (s : LkV) : Prop where
  good : s.bad = false
  klen : s.kinds.length = p.regs.toNat
  kinds : ∀ r, 0 ≤ r → r < p.regs → kAt s.kinds r = kindR p n r
  kin : ∀ r, kindR p n r = 0 ∨ kindR p n r = 1 ∨ kindR p n r = 2
  olen : s.outs.length = p.outs.length
  outs : ∀ o, o < p.outs.length → (s.outs.getD o false = true ↔ outsR p n o ≠ 0)
  past : ∀ i : Nat, (skipN p n i = true ↔ (i : Int) < s.past)
section
variable {p : PV} {n : Nat} {s : LkV}
theorem LkI.gb (h : LkI p n s) (hr : 0 ≤ p.regs) (r : Int) (h0 : 0 ≤ r) : gb s.kinds r = !(decide (r < p.regs) && decide (kindR p n r = 0)) := by
  unfold Go.Proofs.YtpmkpckldnnigaaGreat.gb
  have hk : (s.kinds.length : Int) = p.regs := by rw [h.klen]; omega
  rw [hk]
  by_cases q : p.regs ≤ r
  · rw [decide_eq_true (by omega), decide_eq_false (show ¬ r < p.regs by omega)]; rfl
  · have e := h.kinds r h0 (by omega)
    rw [decide_eq_true (show r < p.regs by omega), e]
    by_cases q2 : kindR p n r = 0
    · rw [decide_eq_true q2, decide_eq_false (by omega)]; rfl
    · rw [decide_eq_false q2, decide_eq_true (by omega)]; rfl
end
theorem kindR_succ (p : PV) (n : Nat) (r : Int) : kindR p (n + 1) r = if 29 ≤ (insAt p.code n).op ∨ (insAt p.code n).a ≠ r then kindR p n r else if kindR p n r ≠ 0 then 9 else givesR p (takenR p n) (insAt p.code n) := rfl
theorem outsR_succ (p : PV) (n o : Nat) : outsR p (n + 1) o = outsR p n o + if (insAt p.code n).op = 29 ∧ (insAt p.code n).k = (o : Int) then 1 else 0 := by
  unfold outsR
  rw [List.range_succ, List.filter_append, List.length_append]
  congr 1
  by_cases h : (insAt p.code n).op = 29 ∧ (insAt p.code n).k = (o : Int)
  · rw [if_pos h]; simp [h.1, h.2]
  · rw [if_neg h]
    have : (decide ((insAt p.code n).op = 29) && decide ((insAt p.code n).k = (o : Int))) = false := by
      rw [Bool.and_eq_false_iff, decide_eq_false_iff_not, decide_eq_false_iff_not]
      by_cases h1 : (insAt p.code n).op = 29
      · exact .inr (fun e => h ⟨h1, e⟩)
      · exact .inl h1
    simp [this]
theorem skipN_succ (p : PV) (n i : Nat) : skipN p (n + 1) i = (skipN p n i || ((decide ((insAt p.code n).op = 30) || decide ((insAt p.code n).op = 31)) && decide ((i : Int) - (n : Int) ≤ (insAt p.code n).k))) := by
  unfold skipN
  rw [List.range_succ, List.any_append]; simp
section
variable {p : PV} {n : Nat} {s : LkV}
/-- Behind one that gives nothing, takes note of no port and skips nothing. -/
theorem LkI.none_ (h : LkI p n s) (hop : (insAt p.code n).op = 32) : LkI p (n + 1) s := by
  refine ⟨h.good, h.klen, fun r h0 h1 => ?_, fun r => ?_, h.olen, fun o ho => ?_, fun i => ?_⟩
  · rw [kindR_succ, if_pos (.inl (by omega))]; exact h.kinds r h0 h1
  · rw [kindR_succ, if_pos (.inl (by omega))]; exact h.kin r
  · rw [outsR_succ, if_neg (by omega)]; exact h.outs o ho
  · rw [skipN_succ]
    have : (decide ((insAt p.code n).op = 30) || decide ((insAt p.code n).op = 31)) = false := by
      rw [decide_eq_false (by omega), decide_eq_false (by omega)]; rfl
    rw [this, Bool.false_and, Bool.or_false]
    exact h.past i
end
section
variable {p : PV} {n : Nat} {s : LkV}
end
section
variable {p : PV} {n : Nat} {s : LkV}
end
section
variable {p : PV} {n : Nat} {s : LkV}
theorem LkI.same (h : LkI p n s) : s = { s with bad := false } := by
  have := h.good
  cases s
  simp_all
end
section
variable {p : PV} {n : Nat} {s : LkV}
end
section
variable {p : PV} {n : Nat} {s : LkV}
end
end Go.Proofs.YtpmkpckldnnigaaGreat
