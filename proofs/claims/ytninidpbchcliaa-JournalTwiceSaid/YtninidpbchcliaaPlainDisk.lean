/- Plain: what a disk has, and what is done to it. -/
import Derived.Test.YtninidpbchcliaaMeterB
import Derived.Test.YtninidpbchcliaaSealLawA
import Derived.Test.YtninidpbchcliaaKeep
namespace Go.Proofs.Ytninidpbchcliaa
open Go.RowKit

/-- What a disk has: its sectors' bytes one behind the other, kept and now; what is in use; what waits; its numbers; its counts. -/
structure DiskV where
  many : Nat
  kept : List UInt8
  now : List UInt8
  inuse : List Bool
  might : List Bool
  waits : List (Nat × List UInt8)
  room : Int
  cut : Int
  off : Bool
  ops : List Int
structure DiskV.Ok (D : DiskV) : Prop where
  many0 : 1 ≤ D.many
  many1 : D.many ≤ 4096
  kept : D.kept.length = D.many * 128
  now : D.now.length = D.many * 128
  inuse : D.inuse.length = D.many
  might : D.might.length = D.many
  waits : ∀ p ∈ D.waits, p.1 < D.many ∧ p.2.length = 128
  room : 0 ≤ D.room ∧ D.room ≤ D.many
  cut : -1 ≤ D.cut ∧ D.cut ≤ 9223372036854775807
  few : D.waits.length ≤ 1000000
/-- How many are in use. -/
def trues (l : List Bool) : Nat := (l.filter id).length
theorem trues_take (l : List Bool) (k : Nat) (h : k < l.length) : trues (l.take (k + 1)) = trues (l.take k) + if l.getD k false then 1 else 0 := by
  rw [List.take_succ_eq_append_getElem h]
  unfold trues
  rw [List.filter_append, List.length_append, List.getD_eq_getElem?_getD, List.getElem?_eq_getElem h]
  cases l[k] <;> rfl
theorem trues_le (l : List Bool) : trues l ≤ l.length := List.length_filter_le _ _
/-- Why a sector may not be had. -/
def mayV (D : DiskV) (n : Int) : Int := if D.off then 50 else if n < 0 ∨ (D.many : Int) ≤ n then 51 else 0
theorem mayV_zero {D : DiskV} {n : Int} (h : mayV D n = 0) : D.off = false ∧ 0 ≤ n ∧ n < D.many := by
  unfold mayV at h
  cases ho : D.off
  · rw [ho] at h
    simp only [Bool.false_eq_true, if_false] at h
    by_cases h1 : n < 0 ∨ (D.many : Int) ≤ n
    · rw [if_pos h1] at h; simp at h
    · exact ⟨rfl, by omega, by omega⟩
  · rw [ho] at h; simp at h
theorem mayV_cases (D : DiskV) (n : Int) : mayV D n = 0 ∨ mayV D n = 50 ∨ mayV D n = 51 := by
  unfold mayV
  split
  · exact .inr (.inl rfl)
  split
  · exact .inr (.inr rfl)
  · exact .inl rfl
/-- The power, behind an operation that is counted. -/
def goesV (D : DiskV) (kind : Int) : DiskV := { D with off := D.cut == 0, cut := if 0 ≤ D.cut then D.cut - 1 else D.cut, ops := mAdd D.ops kind 1 }
/-- A sector's bytes. -/
def secOf (l : List UInt8) (n : Int) : List UInt8 := (l.drop (n.toNat * 128)).take 128
theorem secOf_len {l : List UInt8} {n : Int} {s : Nat} (h : l.length = s * 128) (h0 : 0 ≤ n) (h1 : n < s) : (secOf l n).length = 128 := by
  unfold secOf; rw [List.length_take, List.length_drop, h]; omega
theorem splice_len {α : Type} {l k : List α} {off : Nat} (h : off + k.length ≤ l.length) : (splice l off k).length = l.length := by
  simp [splice]; omega
def putD (D : DiskV) (n : Int) (b : List UInt8) : DiskV := { D with waits := D.waits ++ [(n.toNat, b)], now := splice D.now (n.toNat * 128) b, might := D.might.set n.toNat true }
def fullB (D : DiskV) (n : Int) : Bool := !(D.might.getD n.toNat false) && (D.room - (trues D.might : Nat) == 0)
def readV' (D : DiskV) : DiskV := { D with ops := mAdd D.ops 1 1 }
def writeV (D : DiskV) (n : Int) (b : List UInt8) : DiskV × Int :=
  if mayV D n ≠ 0 then (D, mayV D n) else if fullB D n = true then (D, 52) else (goesV (putD D n b) 2, if D.cut = 0 then 50 else 0)
/-- What waits is kept, the first k pieces. -/
def pieceAt (W : List (Nat × List UInt8)) (k : Nat) : Nat × List UInt8 := W.getD k (0, [])
def keepK (W : List (Nat × List UInt8)) (s : List UInt8 × List Bool) : Nat → List UInt8 × List Bool
  | 0 => s
  | k + 1 => (splice (keepK W s k).1 ((pieceAt W k).1 * 128) (pieceAt W k).2, (keepK W s k).2.set (pieceAt W k).1 true)
def flushD (D : DiskV) : DiskV := { D with kept := (keepK D.waits (D.kept, D.inuse) D.waits.length).1, inuse := (keepK D.waits (D.kept, D.inuse) D.waits.length).2, waits := [] }
def flushV (D : DiskV) : DiskV × Int := if mayV D 0 ≠ 0 then (D, mayV D 0) else if D.cut = 0 then (goesV D 3, 50) else (flushD (goesV D 3), 0)
/-- Of what waits, so much as the choices say; the first k pieces. -/
def crashK (W : List (Nat × List UInt8)) (cs : List UInt8) (s : List UInt8 × List Bool) : Nat → List UInt8 × List Bool
  | 0 => s
  | k + 1 => (splice (crashK W cs s k).1 ((pieceAt W k).1 * 128) ((pieceAt W k).2.take (min (byteAt cs k) 128)), if 0 < byteAt cs k then (crashK W cs s k).2.set (pieceAt W k).1 true else (crashK W cs s k).2)
def crashE (D : DiskV) (cs : List UInt8) : List UInt8 × List Bool := crashK D.waits cs (D.kept, D.inuse) (min D.waits.length cs.length)
def crashV (D : DiskV) (cs : List UInt8) : DiskV := { D with kept := (crashE D cs).1, inuse := (crashE D cs).2, waits := [], off := false, cut := -1, now := (crashE D cs).1, might := (crashE D cs).2 }
def newV (many : Nat) (room : Int) : DiskV := ⟨many, List.replicate (many * 128) 0, List.replicate (many * 128) 0, List.replicate many false, List.replicate many false, [], room, -1, false, [0, 0, 0, 0, 0, 0]⟩

theorem pieceAt_ok {D : DiskV} (h : D.Ok) {k : Nat} (hk : k < D.waits.length) : (pieceAt D.waits k).1 < D.many ∧ (pieceAt D.waits k).2.length = 128 := by
  unfold pieceAt
  rw [List.getD_eq_getElem?_getD, List.getElem?_eq_getElem hk]
  exact h.waits _ (List.getElem_mem hk)
theorem sec_fits {m n k : Nat} (h : m < n) (hk : k ≤ 128) : m * 128 + k ≤ n * 128 := by omega
theorem keepK_len {D : DiskV} (h : D.Ok) : ∀ k, k ≤ D.waits.length → (keepK D.waits (D.kept, D.inuse) k).1.length = D.many * 128 ∧ (keepK D.waits (D.kept, D.inuse) k).2.length = D.many := by
  intro k
  induction k with
  | zero => intro _; exact ⟨h.kept, h.inuse⟩
  | succ k ih =>
    intro hk
    obtain ⟨h1, h2⟩ := ih (by omega)
    obtain ⟨p1, p2⟩ := pieceAt_ok h (show k < D.waits.length by omega)
    unfold keepK
    refine ⟨?_, by rw [List.length_set]; exact h2⟩
    rw [splice_len (by rw [h1, p2]; omega)]; exact h1
theorem crashK_len {D : DiskV} (h : D.Ok) (cs : List UInt8) : ∀ k, k ≤ D.waits.length → (crashK D.waits cs (D.kept, D.inuse) k).1.length = D.many * 128 ∧ (crashK D.waits cs (D.kept, D.inuse) k).2.length = D.many := by
  intro k
  induction k with
  | zero => intro _; exact ⟨h.kept, h.inuse⟩
  | succ k ih =>
    intro hk
    obtain ⟨h1, h2⟩ := ih (by omega)
    obtain ⟨p1, p2⟩ := pieceAt_ok h (show k < D.waits.length by omega)
    unfold crashK
    refine ⟨?_, by split; rw [List.length_set]; exact h2; exact h2⟩
    rw [splice_len (by rw [h1, List.length_take, p2]; omega)]; exact h1
theorem goesV_ok {D : DiskV} (h : D.Ok) (kind : Int) : (goesV D kind).Ok :=
  ⟨h.many0, h.many1, h.kept, h.now, h.inuse, h.might, h.waits, h.room, by have := h.cut; unfold goesV; simp only; split <;> omega, h.few⟩
theorem putD_ok {D : DiskV} (h : D.Ok) {n : Int} (h0 : 0 ≤ n) (h1 : n < D.many) {b : List UInt8} (hb : b.length = 128) (hw : D.waits.length < 1000000) : (putD D n b).Ok := by
  refine ⟨h.many0, h.many1, h.kept, ?_, h.inuse, by simp [putD]; exact h.might, fun p hp => ?_, h.room, h.cut, by simp [putD]; omega⟩
  · unfold putD; simp only; rw [splice_len (by rw [h.now, hb]; omega)]; exact h.now
  · unfold putD at hp
    rcases List.mem_append.1 hp with q | q
    · exact h.waits p q
    · obtain rfl : p = (n.toNat, b) := by simpa using q
      exact ⟨by show n.toNat < D.many; omega, hb⟩
theorem writeV_ok {D : DiskV} (h : D.Ok) (n : Int) {b : List UInt8} (hb : b.length = 128) (hw : D.waits.length < 1000000) : (writeV D n b).1.Ok := by
  unfold writeV
  split
  · exact h
  · rename_i hm
    split
    · exact h
    · obtain ⟨_, h0, h1⟩ := mayV_zero (D := D) (n := n) (by omega)
      exact goesV_ok (putD_ok h h0 h1 hb hw) 2
theorem flushD_ok {D : DiskV} (h : D.Ok) : (flushD D).Ok :=
  ⟨h.many0, h.many1, (keepK_len h _ (Nat.le_refl _)).1, h.now, (keepK_len h _ (Nat.le_refl _)).2, h.might, fun p hp => (by cases hp), h.room, h.cut, by show 0 ≤ 1000000; omega⟩
theorem flushV_ok {D : DiskV} (h : D.Ok) : (flushV D).1.Ok := by
  unfold flushV
  split
  · exact h
  · split
    · exact goesV_ok h 3
    · exact flushD_ok (goesV_ok h 3)
theorem crashV_ok {D : DiskV} (h : D.Ok) (cs : List UInt8) : (crashV D cs).Ok := by
  have hl := crashK_len h cs (min D.waits.length cs.length) (Nat.min_le_left _ _)
  exact ⟨h.many0, h.many1, hl.1, hl.1, hl.2, hl.2, fun p hp => (by cases hp), h.room, ⟨by show (-1 : Int) ≤ -1; omega, by show (-1 : Int) ≤ _; omega⟩, by show 0 ≤ 1000000; omega⟩
theorem newV_ok {many : Nat} {room : Int} (h0 : 1 ≤ many) (h1 : many ≤ 4096) (r0 : 0 ≤ room) (r1 : room ≤ many) : (newV many room).Ok :=
  ⟨h0, h1, by simp [newV], by simp [newV], by simp [newV], by simp [newV], fun p hp => (by cases hp), ⟨r0, r1⟩, ⟨by show (-1 : Int) ≤ -1; omega, by show (-1 : Int) ≤ _; omega⟩, by show 0 ≤ 1000000; omega⟩
end Go.Proofs.Ytninidpbchcliaa
