/- Parts: PlainKeep. -/
import Derived.Test.YtpmkpckldnnigaaGreatPr09
import Derived.Test.YtpmkpckldnnigaaGreatPr30
import Derived.Test.YtpmkpckldnnigaaGreatPr31
namespace Go.Proofs.YtpmkpckldnnigaaGreat
open Go.RowKit
set_option linter.unusedVariables false
set_option linter.unusedSimpArgs false
/-- What a keep knows. -/
structure KpV where
  s : SlV3
  last : SV
  has : Bool
def noKeep : KpV := ⟨⟨2, 0, []⟩, noSnap, false⟩
/-- What loading gives. -/
def loadKV (s : SlV3) : List UInt8 × Int × Bool := if s.now = 2 then ([], 0, false) else (s.load, s.number, true)
/-- Opened: the disk, what is known, the error. -/
def kOpenV (D : DiskV) (fl ml fr mr : Nat) (p : PV) (hash : Int) : DiskV × KpV × Int :=
  if verifyB p = false then (D, noKeep, 40)
  else if (openSV D fl ml fr mr).2.2 ≠ 0 then ((openSV D fl ml fr mr).1, noKeep, (openSV D fl ml fr mr).2.2)
  else if (loadKV (openSV D fl ml fr mr).2.1).2.2 = false then ((openSV D fl ml fr mr).1, ⟨(openSV D fl ml fr mr).2.1, noSnap, false⟩, 0)
  else if (stRead p (loadKV (openSV D fl ml fr mr).2.1).1).2 ≠ 0 then ((openSV D fl ml fr mr).1, noKeep, 53)
  else if (stRead p (loadKV (openSV D fl ml fr mr).2.1).1).1.hash ≠ hash then ((openSV D fl ml fr mr).1, noKeep, 42)
  else ((openSV D fl ml fr mr).1, ⟨(openSV D fl ml fr mr).2.1, (stRead p (loadKV (openSV D fl ml fr mr).2.1).1).1, true⟩, 0)
/-- Saved: the disk, what is known then, the error (of a program that is right). -/
def kSaveV (D : DiskV) (fl ml fr mr : Nat) (p : PV) (hash : Int) (k : KpV) (tick : Int) (cells : List Int) : DiskV × KpV × Int :=
  if stFits p ⟨tick, hash, cells⟩ = false then (D, k, 41)
  else if (saveSV D fl ml fr mr k.s (stBs ⟨tick, hash, cells⟩)).2.2 ≠ 0 then ((saveSV D fl ml fr mr k.s (stBs ⟨tick, hash, cells⟩)).1, { k with s := (saveSV D fl ml fr mr k.s (stBs ⟨tick, hash, cells⟩)).2.1 }, (saveSV D fl ml fr mr k.s (stBs ⟨tick, hash, cells⟩)).2.2)
  else ((saveSV D fl ml fr mr k.s (stBs ⟨tick, hash, cells⟩)).1, ⟨(saveSV D fl ml fr mr k.s (stBs ⟨tick, hash, cells⟩)).2.1, ⟨tick, hash, cells⟩, true⟩, 0)
theorem kread_stBs {p : PV} {s : SV} (hs : SnapAll s) (hf : stFits p s = true) : stRead p (stBs s) = (s, 0) := by
  obtain ⟨h1, _, _, h4, _⟩ := stFits_true.1 hf
  unfold stRead
  rw [if_neg (by rw [h1]; simp), stBs_len, if_neg (by omega), if_neg (by omega), ← h4, snapOf_stBs hs.tick hs.hash hs.cells, if_pos hf]
theorem fits_len {p : PV} {s : SV} (hf : stFits p s = true) : (stBs s).length ≤ 512 := by
  obtain ⟨h1, _, _, h4, _⟩ := stFits_true.1 hf
  have h60 := (mayB_true.1 h1).2.2.2.2.1
  rw [stBs_len, h4]
  omega
/-- What is saved last, of a keep's two slots. -/
structure KInv (p : PV) (hash : Int) (D : DiskV) (s : SlV3) (n : Nat) (last : Int) (is : List Int) : Prop where
  sl : SInv D s n
  none_ : n = 0 → last = -1 ∧ is = []
  some_ : 0 < n → s.load = stBs ⟨last, hash, is⟩ ∧ stFits p ⟨last, hash, is⟩ = true ∧ SnapAll ⟨last, hash, is⟩
/-- What a keep that is opened then knows. -/
def kOf (hash : Int) (s : SlV3) (n : Nat) (last : Int) (is : List Int) : KpV := ⟨s, if n = 0 then noSnap else ⟨last, hash, is⟩, decide (0 < n)⟩
section
variable {p : PV} {hash : Int} {D : DiskV} {s : SlV3} {n : Nat} {last : Int} {is : List Int}
theorem KInv.open_ (h : KInv p hash D s n last is) (hv : verifyB p = true) : ∃ o, kOpenV D 0 6 6 6 p hash = ({ D with ops := o }, kOf hash s n last is, 0) := by
  obtain ⟨o, e⟩ := h.sl.open_
  refine ⟨o, ?_⟩
  unfold kOpenV
  rw [e, if_neg (by rw [hv]; simp), if_neg (by simp)]
  simp only
  rcases Nat.eq_zero_or_pos n with q | q
  · obtain ⟨e1, _⟩ := h.sl.none_ q
    subst e1 q
    rfl
  · obtain ⟨e1, _⟩ := h.sl.some_ q
    obtain ⟨l1, l2, l3⟩ := h.some_ q
    have hl : loadKV s = (s.load, s.number, true) := by unfold loadKV; rw [if_neg (by rcases e1 with e | e <;> omega)]
    rw [hl, if_neg (by simp)]
    simp only
    rw [l1, kread_stBs l3 l2, if_neg (by simp), if_neg (by simp)]
    unfold kOf
    rw [if_neg (by omega), decide_eq_true q]
theorem KInv.crash (h : KInv p hash D s n last is) (cs : List UInt8) : KInv p hash (crashV D cs) s n last is := ⟨h.sl.crash cs, h.none_, h.some_⟩
theorem KInv.ops (h : KInv p hash D s n last is) (o : List Int) : KInv p hash { D with ops := o } s n last is := ⟨h.sl.ops o, h.none_, h.some_⟩
/-- Behind a save. -/
def KMid (p : PV) (hash : Int) (D : DiskV) (s : SlV3) (n : Nat) (z : Int) (last : Int) (is : List Int) (tick : Int) (cells : List Int) : Prop :=
  (z = 41 ∧ KInv p hash D s n last is) ∨ (z = 50 ∧ ∀ cs, KInv p hash (crashV D cs) s n last is ∨ ∃ s', KInv p hash (crashV D cs) s' (n + 1) tick cells)
theorem KInv.saved (h : KInv p hash D s n last is) (hn : n < 9223372036854775806) (k : KpV) (hk : k.s = s) {tick : Int} {cells : List Int} (hsa : SnapAll ⟨tick, hash, cells⟩) :
    ((kSaveV D 0 6 6 6 p hash k tick cells).2.2 = 0 ∧ KInv p hash (kSaveV D 0 6 6 6 p hash k tick cells).1 (kSaveV D 0 6 6 6 p hash k tick cells).2.1.s (n + 1) tick cells) ∨
    ((kSaveV D 0 6 6 6 p hash k tick cells).2.2 ≠ 0 ∧ (kSaveV D 0 6 6 6 p hash k tick cells).2.1.s = s ∧ KMid p hash (kSaveV D 0 6 6 6 p hash k tick cells).1 s n (kSaveV D 0 6 6 6 p hash k tick cells).2.2 last is tick cells) := by
  subst hk
  unfold kSaveV
  cases hf : stFits p ⟨tick, hash, cells⟩ with
  | false =>
    rw [if_pos rfl]
    exact .inr ⟨by simp, rfl, .inl ⟨rfl, h⟩⟩
  | true =>
    rw [if_neg (by simp)]
    have hnew : ∀ D' s', SInv D' s' (n + 1) → s'.load = stBs ⟨tick, hash, cells⟩ → KInv p hash D' s' (n + 1) tick cells := fun D' s' h1 h2 => ⟨h1, fun e => absurd e (by omega), fun _ => ⟨h2, hf, hsa⟩⟩
    rcases h.sl.save hn (fits_len hf) with ⟨e1, e2, e3⟩ | ⟨e1, e2, e3⟩
    · left
      rw [if_neg (by rw [e1]; simp)]
      exact ⟨rfl, hnew _ _ (by rw [show (saveSV D 0 6 6 6 k.s (stBs ⟨tick, hash, cells⟩)).2.1 = _ from e3]; exact e2) (by show (saveSV D 0 6 6 6 k.s (stBs ⟨tick, hash, cells⟩)).2.1.load = _; rw [e3])⟩
    · right
      rw [if_pos (by rw [e1]; simp)]
      refine ⟨by rw [e1]; simp, e2, .inr ⟨e1, fun cs => ?_⟩⟩
      rcases e3 cs with q | q
      · exact .inl ⟨q, h.none_, h.some_⟩
      · exact .inr ⟨_, hnew _ _ q rfl⟩
end
end Go.Proofs.YtpmkpckldnnigaaGreat
