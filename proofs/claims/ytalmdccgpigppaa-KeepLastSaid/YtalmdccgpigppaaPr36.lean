/- Parts: PlainVerify, PlainKeep, PlainDig. -/
import Derived.Test.YtalmdccgpigppaaPr04
import Derived.Test.YtalmdccgpigppaaPr14
import Derived.Test.YtalmdccgpigppaaPr35
namespace Go.Proofs.Ytalmdccgpigppaa
open Go.RowKit
set_option linter.unusedVariables false
set_option linter.unusedSimpArgs false
/-- What an op that is reckoned takes, and gives. -/
def signIn (op : Int) : Int := if op = 12 ∨ op = 13 then 0 else if op = 6 ∨ 18 ≤ op then 2 else 1
def signOut (op : Int) : Int := if op = 6 ∨ 12 ≤ op then 2 else 1
def isSign (op : Int) : Bool := decide (5 ≤ op ∧ op ≤ 20)
/-- The looker. -/
structure LkV where
  kinds : List Int
  outs : List Bool
  past : Int
  bad : Bool
def kAt (l : List Int) (n : Int) : Int := if n < 0 then 0 else l.getD n.toNat 0
def needV (s : LkV) (b : Bool) : LkV := { s with bad := s.bad || !b }
def takesV (s : LkV) (n : Int) : LkV × Int := if n < 0 ∨ (s.kinds.length : Int) ≤ n ∨ kAt s.kinds n = 0 then ({ s with bad := true }, 0) else (s, kAt s.kinds n)
def givesV (s : LkV) (n kind : Int) : LkV := if n < 0 ∨ (s.kinds.length : Int) ≤ n ∨ kAt s.kinds n ≠ 0 then { s with bad := true } else { s with kinds := s.kinds.set n.toNat kind }
def oneV (s : LkV) (l : List Int) (n : Int) : LkV × Int := if n < 0 ∨ (l.length : Int) ≤ n then ({ s with bad := true }, 0) else (s, kAt l n)
def cellV (p : PV) (s : LkV) (n : Int) : LkV × Int := if n < 0 ∨ (p.cells.length : Int) ≤ n then ({ s with bad := true }, 0) else (s, (cellAt p.cells n.toNat).1)
def reckV (s : LkV) (x : Ins) : LkV :=
  let t := takesV s x.b
  let s1 := needV t.1 (decide (signIn x.op = 0) || decide (t.2 = signIn x.op))
  let s2 := if x.op ≠ 5 ∧ x.op ≠ 6 then (let u := takesV s1 x.c; needV u.1 (decide (u.2 = t.2))) else s1
  givesV s2 x.a (signOut x.op)
def instrV (p : PV) (s : LkV) (i : Nat) (x : Ins) : LkV :=
  if isSign x.op then reckV s x
  else if x.op = 1 then givesV s x.a 1
  else if x.op = 2 then givesV (needV s (decide (x.k = 0) || decide (x.k = 1))) x.a 2
  else if x.op = 3 then (let t := takesV s x.b; givesV t.1 x.a t.2)
  else if x.op = 27 then (let t := takesV s x.b; let s1 := needV t.1 (decide (t.2 = 2)); let u := takesV s1 x.c; let v := takesV u.1 x.k; givesV (needV v.1 (decide (v.2 = u.2))) x.a u.2)
  else if x.op = 21 then (let t := cellV p s x.k; givesV t.1 x.a t.2)
  else if x.op = 28 then (let t := oneV s p.ins x.k; givesV t.1 x.a t.2)
  else if x.op = 29 then
    (let t := takesV s x.a; let u := oneV t.1 p.outs x.k; let s1 := needV (needV u.1 (decide (t.2 = u.2))) (decide (s.past ≤ (i : Int)))
     if s1.bad then s1 else { needV s1 (!(s1.outs.getD x.k.toNat false)) with outs := s1.outs.set x.k.toNat true })
  else if x.op = 32 then (let t := takesV s x.a; let u := cellV p t.1 x.k; needV u.1 (decide (t.2 = u.2)))
  else
    (let t := takesV s x.a; let s1 := needV t.1 (decide (t.2 = 2) && (decide (0 ≤ x.k) && decide (x.k ≤ (p.code.length : Int) - 1 - (i : Int))))
     { s1 with past := max s1.past ((i : Int) + 1 + min x.k (p.code.length : Int)) })
/-- The first n instructions, till one is bad. -/
def lookV (p : PV) : Nat → LkV
  | 0 => ⟨List.replicate p.regs.toNat 0, List.replicate p.outs.length false, 0, false⟩
  | n + 1 => if (lookV p n).bad then lookV p n else instrV p (lookV p n) n (insAt p.code n)
def verifyB (p : PV) : Bool := mayB p && (!(lookV p p.code.length).bad && (lookV p p.code.length).outs.all id)
/-- As the document says: the type that an instruction gives, of what it takes. -/
def givesR (p : PV) (t : Int → Int) (x : Ins) : Int :=
  if isSign x.op then signOut x.op
  else if x.op ≤ 2 then x.op
  else if x.op = 3 then t x.b
  else if x.op = 27 then t x.c
  else if x.op = 21 ∧ 0 ≤ x.k ∧ x.k < (p.cells.length : Int) then (cellAt p.cells x.k.toNat).1
  else if x.op = 28 ∧ 0 ≤ x.k ∧ x.k < (p.ins.length : Int) then kAt p.ins x.k
  else 0
def kindR (p : PV) : Nat → Int → Int
  | 0, _ => 0
  | n + 1, r => if 29 ≤ (insAt p.code n).op ∨ (insAt p.code n).a ≠ r then kindR p n r else if kindR p n r ≠ 0 then 9 else givesR p (fun r => if r < 0 ∨ p.regs ≤ r then 0 else kindR p n r) (insAt p.code n)
def takenR (p : PV) (i : Nat) (r : Int) : Int := if r < 0 ∨ p.regs ≤ r then 0 else kindR p i r
def outsR (p : PV) (n : Nat) (o : Nat) : Nat := ((List.range n).filter (fun i => decide ((insAt p.code i).op = 29) && decide ((insAt p.code i).k = (o : Int)))).length
def tk (l : List Int) (n : Int) : Int := if n < 0 ∨ (l.length : Int) ≤ n then 0 else kAt l n
theorem takesV_eq (s : LkV) (n : Int) : takesV s n = ({ s with bad := s.bad || decide (tk s.kinds n = 0) }, tk s.kinds n) := by
  unfold takesV tk
  by_cases h1 : n < 0 ∨ (s.kinds.length : Int) ≤ n
  · rw [if_pos (by omega), if_pos h1]; simp
  · rw [if_neg h1]
    by_cases h2 : kAt s.kinds n = 0
    · rw [if_pos (by omega), h2]; simp
    · rw [if_neg (by omega)]
      simp [h2]
def gb (l : List Int) (n : Int) : Bool := decide (n < 0 ∨ (l.length : Int) ≤ n ∨ kAt l n ≠ 0)
theorem givesV_eq (s : LkV) (n kind : Int) : givesV s n kind = { s with bad := s.bad || gb s.kinds n, kinds := if gb s.kinds n then s.kinds else s.kinds.set n.toNat kind } := by
  unfold givesV gb
  by_cases h : n < 0 ∨ (s.kinds.length : Int) ≤ n ∨ kAt s.kinds n ≠ 0
  · rw [if_pos h]; simp [h]
  · rw [if_neg h]; simp only [h]; simp
theorem oneV_eq (s : LkV) (l : List Int) (n : Int) : oneV s l n = ({ s with bad := s.bad || decide (n < 0 ∨ (l.length : Int) ≤ n) }, if n < 0 ∨ (l.length : Int) ≤ n then 0 else kAt l n) := by
  unfold oneV
  by_cases h : n < 0 ∨ (l.length : Int) ≤ n
  · rw [if_pos h, if_pos h]; simp [h]
  · rw [if_neg h, if_neg h]; simp [h]
theorem cellV_eq (p : PV) (s : LkV) (n : Int) : cellV p s n = ({ s with bad := s.bad || decide (n < 0 ∨ (p.cells.length : Int) ≤ n) }, if n < 0 ∨ (p.cells.length : Int) ≤ n then 0 else (cellAt p.cells n.toNat).1) := by
  unfold cellV
  by_cases h : n < 0 ∨ (p.cells.length : Int) ≤ n
  · rw [if_pos h, if_pos h]; simp [h]
  · rw [if_neg h, if_neg h]; simp [h]
def skipN (p : PV) (n i : Nat) : Bool := (List.range n).any (fun k => (decide ((insAt p.code k).op = 30) || decide ((insAt p.code k).op = 31)) && decide ((i : Int) - (k : Int) ≤ (insAt p.code k).k))
/-- What the looker knows behind n instructions that are right. -/
structure LkI (p : PV) (n : Nat) (s : LkV) : Prop where
  good : s.bad = false
  klen : s.kinds.length = p.regs.toNat
  kinds : ∀ r, 0 ≤ r → r < p.regs → kAt s.kinds r = kindR p n r
  kin : ∀ r, kindR p n r = 0 ∨ kindR p n r = 1 ∨ kindR p n r = 2
  olen : s.outs.length = p.outs.length
  outs : ∀ o, o < p.outs.length → (s.outs.getD o false = true ↔ outsR p n o ≠ 0)
  past : ∀ i : Nat, (skipN p n i = true ↔ (i : Int) < s.past)
section
variable {p : PV} {n : Nat} {s : LkV}
theorem LkI.tk (h : LkI p n s) (hr : 0 ≤ p.regs) (r : Int) : tk s.kinds r = takenR p n r := by
  unfold Go.Proofs.Ytalmdccgpigppaa.tk takenR
  have hk : (s.kinds.length : Int) = p.regs := by rw [h.klen]; omega
  rw [hk]
  by_cases q : r < 0 ∨ p.regs ≤ r
  · rw [if_pos q, if_pos q]
  · rw [if_neg q, if_neg q]; exact h.kinds r (by omega) (by omega)
theorem LkI.gb (h : LkI p n s) (hr : 0 ≤ p.regs) (r : Int) (h0 : 0 ≤ r) : gb s.kinds r = !(decide (r < p.regs) && decide (kindR p n r = 0)) := by
  unfold Go.Proofs.Ytalmdccgpigppaa.gb
  have hk : (s.kinds.length : Int) = p.regs := by rw [h.klen]; omega
  rw [hk]
  by_cases q : p.regs ≤ r
  · rw [decide_eq_true (by omega), decide_eq_false (show ¬ r < p.regs by omega)]; rfl
  · have e := h.kinds r h0 (by omega)
    rw [decide_eq_true (show r < p.regs by omega), e]
    by_cases q2 : kindR p n r = 0
    · rw [decide_eq_true q2, decide_eq_false (by omega)]; rfl
    · rw [decide_eq_false q2, decide_eq_true (by omega)]; rfl
end
theorem kindR_succ (p : PV) (n : Nat) (r : Int) : kindR p (n + 1) r = if 29 ≤ (insAt p.code n).op ∨ (insAt p.code n).a ≠ r then kindR p n r else if kindR p n r ≠ 0 then 9 else givesR p (takenR p n) (insAt p.code n) := rfl
theorem outsR_succ (p : PV) (n o : Nat) : outsR p (n + 1) o = outsR p n o + if (insAt p.code n).op = 29 ∧ (insAt p.code n).k = (o : Int) then 1 else 0 := by
  unfold outsR
  rw [List.range_succ, List.filter_append, List.length_append]
  congr 1
  by_cases h : (insAt p.code n).op = 29 ∧ (insAt p.code n).k = (o : Int)
  · rw [if_pos h]; simp [h.1, h.2]
  · rw [if_neg h]
    have : (decide ((insAt p.code n).op = 29) && decide ((insAt p.code n).k = (o : Int))) = false := by
      rw [Bool.and_eq_false_iff, decide_eq_false_iff_not, decide_eq_false_iff_not]
      by_cases h1 : (insAt p.code n).op = 29
      · exact .inr (fun e => h ⟨h1, e⟩)
      · exact .inl h1
    simp [this]
theorem skipN_succ (p : PV) (n i : Nat) : skipN p (n + 1) i = (skipN p n i || ((decide ((insAt p.code n).op = 30) || decide ((insAt p.code n).op = 31)) && decide ((i : Int) - (n : Int) ≤ (insAt p.code n).k))) := by
  unfold skipN
  rw [List.range_succ, List.any_append]; simp
section
variable {p : PV} {n : Nat} {s : LkV}
/-- Behind one that gives nothing, takes note of no port and skips nothing. -/
theorem LkI.none_ (h : LkI p n s) (hop : (insAt p.code n).op = 32) : LkI p (n + 1) s := by
  refine ⟨h.good, h.klen, fun r h0 h1 => ?_, fun r => ?_, h.olen, fun o ho => ?_, fun i => ?_⟩
  · rw [kindR_succ, if_pos (.inl (by omega))]; exact h.kinds r h0 h1
  · rw [kindR_succ, if_pos (.inl (by omega))]; exact h.kin r
  · rw [outsR_succ, if_neg (by omega)]; exact h.outs o ho
  · rw [skipN_succ]
    have : (decide ((insAt p.code n).op = 30) || decide ((insAt p.code n).op = 31)) = false := by
      rw [decide_eq_false (by omega), decide_eq_false (by omega)]; rfl
    rw [this, Bool.false_and, Bool.or_false]
    exact h.past i
end
section
variable {p : PV} {n : Nat} {s : LkV}
end
section
variable {p : PV} {n : Nat} {s : LkV}
end
section
variable {p : PV} {n : Nat} {s : LkV}
theorem LkI.same (h : LkI p n s) : s = { s with bad := false } := by
  have := h.good
  cases s
  simp_all
end
section
variable {p : PV} {n : Nat} {s : LkV}
end
section
variable {p : PV} {n : Nat} {s : LkV}
end
end Go.Proofs.Ytalmdccgpigppaa
namespace Go.Proofs.Ytalmdccgpigppaa
open Go.RowKit
set_option linter.unusedVariables false
set_option linter.unusedSimpArgs false
/-- What a keep knows. -/
structure KpV where
  s : SlV3
  last : SV
  has : Bool
def noKeep : KpV := ⟨⟨2, 0, []⟩, noSnap, false⟩
/-- What loading gives. -/
def loadKV (s : SlV3) : List UInt8 × Int × Bool := if s.now = 2 then ([], 0, false) else (s.load, s.number, true)
/-- Opened: the disk, what is known, the error. -/
def kOpenV (D : DiskV) (fl ml fr mr : Nat) (p : PV) (hash : Int) : DiskV × KpV × Int :=
  if verifyB p = false then (D, noKeep, 40)
  else if (openSV D fl ml fr mr).2.2 ≠ 0 then ((openSV D fl ml fr mr).1, noKeep, (openSV D fl ml fr mr).2.2)
  else if (loadKV (openSV D fl ml fr mr).2.1).2.2 = false then ((openSV D fl ml fr mr).1, ⟨(openSV D fl ml fr mr).2.1, noSnap, false⟩, 0)
  else if (stRead p (loadKV (openSV D fl ml fr mr).2.1).1).2 ≠ 0 then ((openSV D fl ml fr mr).1, noKeep, 53)
  else if (stRead p (loadKV (openSV D fl ml fr mr).2.1).1).1.hash ≠ hash then ((openSV D fl ml fr mr).1, noKeep, 42)
  else ((openSV D fl ml fr mr).1, ⟨(openSV D fl ml fr mr).2.1, (stRead p (loadKV (openSV D fl ml fr mr).2.1).1).1, true⟩, 0)
/-- Saved: the disk, what is known then, the error (of a program that is right). -/
def kSaveV (D : DiskV) (fl ml fr mr : Nat) (p : PV) (hash : Int) (k : KpV) (tick : Int) (cells : List Int) : DiskV × KpV × Int :=
  if stFits p ⟨tick, hash, cells⟩ = false then (D, k, 41)
  else if (saveSV D fl ml fr mr k.s (stBs ⟨tick, hash, cells⟩)).2.2 ≠ 0 then ((saveSV D fl ml fr mr k.s (stBs ⟨tick, hash, cells⟩)).1, { k with s := (saveSV D fl ml fr mr k.s (stBs ⟨tick, hash, cells⟩)).2.1 }, (saveSV D fl ml fr mr k.s (stBs ⟨tick, hash, cells⟩)).2.2)
  else ((saveSV D fl ml fr mr k.s (stBs ⟨tick, hash, cells⟩)).1, ⟨(saveSV D fl ml fr mr k.s (stBs ⟨tick, hash, cells⟩)).2.1, ⟨tick, hash, cells⟩, true⟩, 0)
theorem kread_stBs {p : PV} {s : SV} (hs : SnapAll s) (hf : stFits p s = true) : stRead p (stBs s) = (s, 0) := by
  obtain ⟨h1, _, _, h4, _⟩ := stFits_true.1 hf
  unfold stRead
  rw [if_neg (by rw [h1]; simp), stBs_len, if_neg (by omega), if_neg (by omega), ← h4, snapOf_stBs hs.tick hs.hash hs.cells, if_pos hf]
theorem fits_len {p : PV} {s : SV} (hf : stFits p s = true) : (stBs s).length ≤ 512 := by
  obtain ⟨h1, _, _, h4, _⟩ := stFits_true.1 hf
  have h60 := (mayB_true.1 h1).2.2.2.2.1
  rw [stBs_len, h4]
  omega
/-- What is saved last, of a keep's two slots. -/
structure KInv (p : PV) (hash : Int) (D : DiskV) (s : SlV3) (n : Nat) (last : Int) (is : List Int) : Prop where
  sl : SInv D s n
  none_ : n = 0 → last = -1 ∧ is = []
  some_ : 0 < n → s.load = stBs ⟨last, hash, is⟩ ∧ stFits p ⟨last, hash, is⟩ = true ∧ SnapAll ⟨last, hash, is⟩
/-- What a keep that is opened then knows. -/
def kOf (hash : Int) (s : SlV3) (n : Nat) (last : Int) (is : List Int) : KpV := ⟨s, if n = 0 then noSnap else ⟨last, hash, is⟩, decide (0 < n)⟩
section
variable {p : PV} {hash : Int} {D : DiskV} {s : SlV3} {n : Nat} {last : Int} {is : List Int}
theorem KInv.open_ (h : KInv p hash D s n last is) (hv : verifyB p = true) : ∃ o, kOpenV D 0 6 6 6 p hash = ({ D with ops := o }, kOf hash s n last is, 0) := by
  obtain ⟨o, e⟩ := h.sl.open_
  refine ⟨o, ?_⟩
  unfold kOpenV
  rw [e, if_neg (by rw [hv]; simp), if_neg (by simp)]
  simp only
  rcases Nat.eq_zero_or_pos n with q | q
  · obtain ⟨e1, _⟩ := h.sl.none_ q
    subst e1 q
    rfl
  · obtain ⟨e1, _⟩ := h.sl.some_ q
    obtain ⟨l1, l2, l3⟩ := h.some_ q
    have hl : loadKV s = (s.load, s.number, true) := by unfold loadKV; rw [if_neg (by rcases e1 with e | e <;> omega)]
    rw [hl, if_neg (by simp)]
    simp only
    rw [l1, kread_stBs l3 l2, if_neg (by simp), if_neg (by simp)]
    unfold kOf
    rw [if_neg (by omega), decide_eq_true q]
theorem KInv.crash (h : KInv p hash D s n last is) (cs : List UInt8) : KInv p hash (crashV D cs) s n last is := ⟨h.sl.crash cs, h.none_, h.some_⟩
theorem KInv.ops (h : KInv p hash D s n last is) (o : List Int) : KInv p hash { D with ops := o } s n last is := ⟨h.sl.ops o, h.none_, h.some_⟩
/-- Behind a save. -/
def KMid (p : PV) (hash : Int) (D : DiskV) (s : SlV3) (n : Nat) (z : Int) (last : Int) (is : List Int) (tick : Int) (cells : List Int) : Prop :=
  (z = 41 ∧ KInv p hash D s n last is) ∨ (z = 50 ∧ ∀ cs, KInv p hash (crashV D cs) s n last is ∨ ∃ s', KInv p hash (crashV D cs) s' (n + 1) tick cells)
theorem KInv.saved (h : KInv p hash D s n last is) (hn : n < 9223372036854775806) (k : KpV) (hk : k.s = s) {tick : Int} {cells : List Int} (hsa : SnapAll ⟨tick, hash, cells⟩) :
    ((kSaveV D 0 6 6 6 p hash k tick cells).2.2 = 0 ∧ KInv p hash (kSaveV D 0 6 6 6 p hash k tick cells).1 (kSaveV D 0 6 6 6 p hash k tick cells).2.1.s (n + 1) tick cells) ∨
    ((kSaveV D 0 6 6 6 p hash k tick cells).2.2 ≠ 0 ∧ (kSaveV D 0 6 6 6 p hash k tick cells).2.1.s = s ∧ KMid p hash (kSaveV D 0 6 6 6 p hash k tick cells).1 s n (kSaveV D 0 6 6 6 p hash k tick cells).2.2 last is tick cells) := by
  subst hk
  unfold kSaveV
  cases hf : stFits p ⟨tick, hash, cells⟩ with
  | false =>
    rw [if_pos rfl]
    exact .inr ⟨by simp, rfl, .inl ⟨rfl, h⟩⟩
  | true =>
    rw [if_neg (by simp)]
    have hnew : ∀ D' s', SInv D' s' (n + 1) → s'.load = stBs ⟨tick, hash, cells⟩ → KInv p hash D' s' (n + 1) tick cells := fun D' s' h1 h2 => ⟨h1, fun e => absurd e (by omega), fun _ => ⟨h2, hf, hsa⟩⟩
    rcases h.sl.save hn (fits_len hf) with ⟨e1, e2, e3⟩ | ⟨e1, e2, e3⟩
    · left
      rw [if_neg (by rw [e1]; simp)]
      exact ⟨rfl, hnew _ _ (by rw [show (saveSV D 0 6 6 6 k.s (stBs ⟨tick, hash, cells⟩)).2.1 = _ from e3]; exact e2) (by show (saveSV D 0 6 6 6 k.s (stBs ⟨tick, hash, cells⟩)).2.1.load = _; rw [e3])⟩
    · right
      rw [if_pos (by rw [e1]; simp)]
      refine ⟨by rw [e1]; simp, e2, .inr ⟨e1, fun cs => ?_⟩⟩
      rcases e3 cs with q | q
      · exact .inl ⟨q, h.none_, h.some_⟩
      · exact .inr ⟨_, hnew _ _ q rfl⟩
end
end Go.Proofs.Ytalmdccgpigppaa
namespace Go.Proofs.Ytalmdccgpigppaa
open Go.RowKit

def fnvStep (h c : Nat) : Nat := 1099511628211 * (h ^^^ c) % 18446744073709551616
def fnvFold (h : Nat) (l : List UInt8) : Nat := l.foldl (fun h c => fnvStep h c.toNat) h
def fnv (l : List UInt8) : Nat := fnvFold 14695981039346656037 l
theorem fnvStep_lt (h c : Nat) : fnvStep h c < 18446744073709551616 := by unfold fnvStep; omega
theorem fnvFold_snoc (h : Nat) (a : List UInt8) (x : UInt8) : fnvFold h (a ++ [x]) = fnvStep (fnvFold h a) x.toNat := by simp only [fnvFold, List.foldl_append, List.foldl_cons, List.foldl_nil]
theorem fnv_take (l : List UInt8) (k : Nat) (h : k < l.length) : fnv (l.take (k + 1)) = fnvStep (fnv (l.take k)) (byteAt l k) := by
  unfold fnv byteAt; rw [take_succ_byte l k h, fnvFold_snoc]
theorem fnvFold_lt (l : List UInt8) : ∀ {h : Nat}, h < 18446744073709551616 → fnvFold h l < 18446744073709551616 := by
  induction l with
  | nil => intro h hh; exact hh
  | cons c l ih => intro h hh; exact ih (fnvStep_lt _ _)
theorem fnv_lt (l : List UInt8) : fnv l < 18446744073709551616 := fnvFold_lt l (by decide)

end Go.Proofs.Ytalmdccgpigppaa
