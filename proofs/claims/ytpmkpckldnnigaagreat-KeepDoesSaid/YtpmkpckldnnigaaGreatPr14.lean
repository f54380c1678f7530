/- Parts: PlainDisk. -/
import Derived.Test.YtpmkpckldnnigaaGreatPr10
import Derived.Test.YtpmkpckldnnigaaGreatPr13
import Derived.Test.YtpmkpckldnnigaaGreatPr01
import Derived.Test.YtpmkpckldnnigaaGreatPr07
namespace Go.Proofs.YtpmkpckldnnigaaGreat
open Go.RowKit

/-- What a disk has: its sectors' bytes one behind the other, kept and now; what is in use; what waits; its numbers; its counts. -/
structure DiskV where
  many : Nat
  kept : List UInt8
  now : List UInt8
  inuse : List Bool
  might : List Bool
  waits : List (Nat × List UInt8)
  room : Int
  cut : Int
  off : Bool
  ops : List Int
structure DiskV.Ok (D : DiskV) : Prop where
  many0 : 1 ≤ D.many
  many1 : D.many ≤ 4096
  kept : D.kept.length = D.many * 128
  now : D.now.length = D.many * 128
  inuse : D.inuse.length = D.many
  might : D.might.length = D.many
  waits : ∀ p ∈ D.waits, p.1 < D.many ∧ p.2.length = 128
  room : 0 ≤ D.room ∧ D.room ≤ D.many
  cut : -1 ≤ D.cut ∧ D.cut ≤ 9223372036854775807
  few : D.waits.length ≤ 1000000
/-- How many are in use. -/
def trues (l : List Bool) : Nat := (l.filter id).length
theorem trues_le (l : List Bool) : trues l ≤ l.length := List.length_filter_le _ _
/-- Why a sector may not be had. -/
def mayV (D : DiskV) (n : Int) : Int := if D.off then 50 else if n < 0 ∨ (D.many : Int) ≤ n then 51 else 0
theorem mayV_zero {D : DiskV} {n : Int} (h : mayV D n = 0) : D.off = false ∧ 0 ≤ n ∧ n < D.many := by
  unfold mayV at h
  cases ho : D.off
  · rw [ho] at h
    simp only [Bool.false_eq_true, if_false] at h
    by_cases h1 : n < 0 ∨ (D.many : Int) ≤ n
    · rw [if_pos h1] at h; simp at h
    · exact ⟨rfl, by omega, by omega⟩
  · rw [ho] at h; simp at h
theorem mayV_cases (D : DiskV) (n : Int) : mayV D n = 0 ∨ mayV D n = 50 ∨ mayV D n = 51 := by
  unfold mayV
  split
  · exact .inr (.inl rfl)
  split
  · exact .inr (.inr rfl)
  · exact .inl rfl
/-- The power, behind an operation that is counted. -/
def goesV (D : DiskV) (kind : Int) : DiskV := { D with off := D.cut == 0, cut := if 0 ≤ D.cut then D.cut - 1 else D.cut, ops := mAdd D.ops kind 1 }
/-- A sector's bytes. -/
def secOf (l : List UInt8) (n : Int) : List UInt8 := (l.drop (n.toNat * 128)).take 128
theorem secOf_len {l : List UInt8} {n : Int} {s : Nat} (h : l.length = s * 128) (h0 : 0 ≤ n) (h1 : n < s) : (secOf l n).length = 128 := by
  unfold secOf; rw [List.length_take, List.length_drop, h]; omega
theorem splice_len {α : Type} {l k : List α} {off : Nat} (h : off + k.length ≤ l.length) : (splice l off k).length = l.length := by
  simp [splice]; omega
def putD (D : DiskV) (n : Int) (b : List UInt8) : DiskV := { D with waits := D.waits ++ [(n.toNat, b)], now := splice D.now (n.toNat * 128) b, might := D.might.set n.toNat true }
def fullB (D : DiskV) (n : Int) : Bool := !(D.might.getD n.toNat false) && (D.room - (trues D.might : Nat) == 0)
def readV' (D : DiskV) : DiskV := { D with ops := mAdd D.ops 1 1 }
def writeV (D : DiskV) (n : Int) (b : List UInt8) : DiskV × Int :=
  if mayV D n ≠ 0 then (D, mayV D n) else if fullB D n = true then (D, 52) else (goesV (putD D n b) 2, if D.cut = 0 then 50 else 0)
/-- What waits is kept, the first k pieces. -/
def pieceAt (W : List (Nat × List UInt8)) (k : Nat) : Nat × List UInt8 := W.getD k (0, [])
def keepK (W : List (Nat × List UInt8)) (s : List UInt8 × List Bool) : Nat → List UInt8 × List Bool
  | 0 => s
  | k + 1 => (splice (keepK W s k).1 ((pieceAt W k).1 * 128) (pieceAt W k).2, (keepK W s k).2.set (pieceAt W k).1 true)
def flushD (D : DiskV) : DiskV := { D with kept := (keepK D.waits (D.kept, D.inuse) D.waits.length).1, inuse := (keepK D.waits (D.kept, D.inuse) D.waits.length).2, waits := [] }
def flushV (D : DiskV) : DiskV × Int := if mayV D 0 ≠ 0 then (D, mayV D 0) else if D.cut = 0 then (goesV D 3, 50) else (flushD (goesV D 3), 0)
/-- Of what waits, so much as the choices say; the first k pieces. -/
def crashK (W : List (Nat × List UInt8)) (cs : List UInt8) (s : List UInt8 × List Bool) : Nat → List UInt8 × List Bool
  | 0 => s
  | k + 1 => (splice (crashK W cs s k).1 ((pieceAt W k).1 * 128) ((pieceAt W k).2.take (min (byteAt cs k) 128)), if 0 < byteAt cs k then (crashK W cs s k).2.set (pieceAt W k).1 true else (crashK W cs s k).2)
def crashE (D : DiskV) (cs : List UInt8) : List UInt8 × List Bool := crashK D.waits cs (D.kept, D.inuse) (min D.waits.length cs.length)
def crashV (D : DiskV) (cs : List UInt8) : DiskV := { D with kept := (crashE D cs).1, inuse := (crashE D cs).2, waits := [], off := false, cut := -1, now := (crashE D cs).1, might := (crashE D cs).2 }
def newV (many : Nat) (room : Int) : DiskV := ⟨many, List.replicate (many * 128) 0, List.replicate (many * 128) 0, List.replicate many false, List.replicate many false, [], room, -1, false, [0, 0, 0, 0, 0, 0]⟩

theorem pieceAt_ok {D : DiskV} (h : D.Ok) {k : Nat} (hk : k < D.waits.length) : (pieceAt D.waits k).1 < D.many ∧ (pieceAt D.waits k).2.length = 128 := by
  unfold pieceAt
  rw [List.getD_eq_getElem?_getD, List.getElem?_eq_getElem hk]
  exact h.waits _ (List.getElem_mem hk)
theorem keepK_len {D : DiskV} (h : D.Ok) : ∀ k, k ≤ D.waits.length → (keepK D.waits (D.kept, D.inuse) k).1.length = D.many * 128 ∧ (keepK D.waits (D.kept, D.inuse) k).2.length = D.many := by
  intro k
  induction k with
  | zero => intro _; exact ⟨h.kept, h.inuse⟩
  | succ k ih =>
    intro hk
    obtain ⟨h1, h2⟩ := ih (by omega)
    obtain ⟨p1, p2⟩ := pieceAt_ok h (show k < D.waits.length by omega)
    unfold keepK
    refine ⟨?_, by rw [List.length_set]; exact h2⟩
    rw [splice_len (by rw [h1, p2]; omega)]; exact h1
theorem crashK_len {D : DiskV} (h : D.Ok) (cs : List UInt8) : ∀ k, k ≤ D.waits.length → (crashK D.waits cs (D.kept, D.inuse) k).1.length = D.many * 128 ∧ (crashK D.waits cs (D.kept, D.inuse) k).2.length = D.many := by
  intro k
  induction k with
  | zero => intro _; exact ⟨h.kept, h.inuse⟩
  | succ k ih =>
    intro hk
    obtain ⟨h1, h2⟩ := ih (by omega)
    obtain ⟨p1, p2⟩ := pieceAt_ok h (show k < D.waits.length by omega)
    unfold crashK
    refine ⟨?_, by split; rw [List.length_set]; exact h2; exact h2⟩
    rw [splice_len (by rw [h1, List.length_take, p2]; omega)]; exact h1
theorem goesV_ok {D : DiskV} (h : D.Ok) (kind : Int) : (goesV D kind).Ok :=
  ⟨h.many0, h.many1, h.kept, h.now, h.inuse, h.might, h.waits, h.room, by have := h.cut; unfold goesV; simp only; split <;> omega, h.few⟩
theorem putD_ok {D : DiskV} (h : D.Ok) {n : Int} (h0 : 0 ≤ n) (h1 : n < D.many) {b : List UInt8} (hb : b.length = 128) (hw : D.waits.length < 1000000) : (putD D n b).Ok := by
  refine ⟨h.many0, h.many1, h.kept, ?_, h.inuse, by simp [putD]; exact h.might, fun p hp => ?_, h.room, h.cut, by simp [putD]; omega⟩
  · unfold putD; simp only; rw [splice_len (by rw [h.now, hb]; omega)]; exact h.now
  · unfold putD at hp
    rcases List.mem_append.1 hp with q | q
    · exact h.waits p q
    · obtain rfl : p = (n.toNat, b) := by simpa using q
      exact ⟨by show n.toNat < D.many; omega, hb⟩
theorem flushD_ok {D : DiskV} (h : D.Ok) : (flushD D).Ok :=
  ⟨h.many0, h.many1, (keepK_len h _ (Nat.le_refl _)).1, h.now, (keepK_len h _ (Nat.le_refl _)).2, h.might, fun p hp => (by cases hp), h.room, h.cut, by show 0 ≤ 1000000; omega⟩
theorem crashV_ok {D : DiskV} (h : D.Ok) (cs : List UInt8) : (crashV D cs).Ok := by
  have hl := crashK_len h cs (min D.waits.length cs.length) (Nat.min_le_left _ _)
  exact ⟨h.many0, h.many1, hl.1, hl.1, hl.2, hl.2, fun p hp => (by cases hp), h.room, ⟨by show (-1 : Int) ≤ -1; omega, by show (-1 : Int) ≤ _; omega⟩, by show 0 ≤ 1000000; omega⟩
theorem newV_ok {many : Nat} {room : Int} (h0 : 1 ≤ many) (h1 : many ≤ 4096) (r0 : 0 ≤ room) (r1 : room ≤ many) : (newV many room).Ok :=
  ⟨h0, h1, by simp [newV], by simp [newV], by simp [newV], by simp [newV], fun p hp => (by cases hp), ⟨r0, r1⟩, ⟨by show (-1 : Int) ≤ -1; omega, by show (-1 : Int) ≤ _; omega⟩, by show 0 ≤ 1000000; omega⟩
end Go.Proofs.YtpmkpckldnnigaaGreat
namespace Go.Proofs.YtpmkpckldnnigaaGreat
open Go.RowKit

theorem trues_all {l : List Bool} {n : Nat} (hn : n < l.length) (h : l.getD n false = false) : trues l < l.length := by
  induction l generalizing n with
  | nil => simp at hn
  | cons b l ih =>
    cases n with
    | zero =>
      have hb : b = false := by simpa using h
      subst hb
      have := trues_le l
      show (List.filter id (false :: l)).length < _
      rw [List.filter_cons_of_neg (by simp)]
      unfold trues at this
      simp only [List.length_cons]; omega
    | succ n =>
      have := ih (n := n) (by simpa using hn) (by simpa using h)
      unfold trues at this ⊢
      cases b with
      | true => rw [List.filter_cons_of_pos rfl, List.length_cons, List.length_cons]; omega
      | false => rw [List.filter_cons_of_neg (by simp), List.length_cons]; omega
theorem pieceAt_app {W : List (Nat × List UInt8)} (x : Nat × List UInt8) : pieceAt (W ++ [x]) W.length = x := by
  unfold pieceAt; rw [List.getD_eq_getElem?_getD, List.getElem?_append_right (Nat.le_refl _)]; simp
theorem pieceAt_pre {W : List (Nat × List UInt8)} (V : List (Nat × List UInt8)) {k : Nat} (h : k < W.length) : pieceAt (W ++ V) k = pieceAt W k := by
  unfold pieceAt; rw [List.getD_eq_getElem?_getD, List.getD_eq_getElem?_getD, List.getElem?_append_left h]
theorem keepK_pre {W : List (Nat × List UInt8)} (V : List (Nat × List UInt8)) (s : List UInt8 × List Bool) : ∀ k, k ≤ W.length → keepK (W ++ V) s k = keepK W s k := by
  intro k
  induction k with
  | zero => intro _; rfl
  | succ k ih => intro h; unfold keepK; rw [ih (by omega), pieceAt_pre V (by omega)]
theorem keepK_app (W : List (Nat × List UInt8)) (x : Nat × List UInt8) (s : List UInt8 × List Bool) : keepK (W ++ [x]) s (W ++ [x]).length = (splice (keepK W s W.length).1 (x.1 * 128) x.2, (keepK W s W.length).2.set x.1 true) := by
  rw [List.length_append, List.length_singleton]
  show (splice (keepK (W ++ [x]) s W.length).1 _ _, _) = _
  rw [keepK_pre [x] s _ (Nat.le_refl _), pieceAt_app]
/-- The power is on and stays; there is room for all; what is read is what waits, over what is kept. -/
structure Calm (D : DiskV) : Prop where
  ok : D.Ok
  cut : D.cut = -1
  off : D.off = false
  room : D.room = D.many
  now : D.now = (keepK D.waits (D.kept, D.inuse) D.waits.length).1
  might : D.might = (keepK D.waits (D.kept, D.inuse) D.waits.length).2
theorem Calm.full {D : DiskV} (h : Calm D) {n : Int} (h0 : 0 ≤ n) (h1 : n < D.many) : fullB D n = false := by
  unfold fullB
  cases hb : D.might.getD n.toNat false with
  | true => rfl
  | false =>
    have := trues_all (by rw [h.ok.might]; omega) hb
    rw [h.ok.might] at this
    have hr := h.room
    have : (D.room - (trues D.might : Nat) == 0) = false := by rw [beq_eq_false_iff_ne]; omega
    rw [this]; rfl
theorem Calm.may {D : DiskV} (h : Calm D) (n : Int) : mayV D n = if n < 0 ∨ (D.many : Int) ≤ n then 51 else 0 := by
  unfold mayV; rw [h.off]; simp
theorem Calm.write_in {D : DiskV} (h : Calm D) {n : Int} (h0 : 0 ≤ n) (h1 : n < D.many) (b : List UInt8) : writeV D n b = (goesV (putD D n b) 2, 0) := by
  unfold writeV
  have hm : mayV D n = 0 := by rw [h.may, if_neg (by omega)]
  rw [if_neg (by omega), if_neg (by rw [h.full h0 h1]; simp), if_neg (by rw [h.cut]; omega)]
theorem Calm.write_out {D : DiskV} (h : Calm D) {n : Int} (hn : n < 0 ∨ (D.many : Int) ≤ n) (b : List UInt8) : writeV D n b = (D, 51) := by
  unfold writeV
  have hm : mayV D n = 51 := by rw [h.may, if_pos hn]
  rw [hm, if_pos (by omega)]
theorem Calm.goes {D : DiskV} (h : Calm D) (kind : Int) : goesV D kind = { D with ops := mAdd D.ops kind 1 } := by
  unfold goesV
  rw [if_neg (by rw [h.cut]; omega), show (D.cut == 0) = D.off from by rw [h.cut, h.off]; rfl]
theorem Calm.put {D : DiskV} (h : Calm D) {n : Int} (h0 : 0 ≤ n) (h1 : n < D.many) {b : List UInt8} (hb : b.length = 128) (hw : D.waits.length < 1000000) : Calm (goesV (putD D n b) 2) := by
  have hok := goesV_ok (putD_ok h.ok h0 h1 hb hw) 2
  refine ⟨hok, ?_, ?_, h.room, ?_, ?_⟩
  · show (if 0 ≤ D.cut then D.cut - 1 else D.cut) = -1
    rw [h.cut]; rfl
  · show (D.cut == 0) = false
    rw [h.cut]; rfl
  · show splice D.now (n.toNat * 128) b = (keepK (D.waits ++ [(n.toNat, b)]) (D.kept, D.inuse) (D.waits ++ [(n.toNat, b)]).length).1
    rw [keepK_app, ← h.now]
  · show D.might.set n.toNat true = (keepK (D.waits ++ [(n.toNat, b)]) (D.kept, D.inuse) (D.waits ++ [(n.toNat, b)]).length).2
    rw [keepK_app, ← h.might]
theorem Calm.write {D : DiskV} (h : Calm D) (n : Int) {b : List UInt8} (hb : b.length = 128) (hw : D.waits.length < 1000000) : Calm (writeV D n b).1 ∧ (writeV D n b).1.many = D.many ∧ (writeV D n b).1.waits.length ≤ D.waits.length + 1 := by
  by_cases hn : n < 0 ∨ (D.many : Int) ≤ n
  · rw [h.write_out hn]; exact ⟨h, rfl, by simp⟩
  · rw [h.write_in (by omega) (by omega)]; exact ⟨h.put (by omega) (by omega) hb hw, rfl, by simp [goesV, putD]⟩
theorem calm_new {many : Nat} (h0 : 1 ≤ many) (h1 : many ≤ 4096) : Calm (newV many many) := ⟨newV_ok h0 h1 (by omega) (by omega), rfl, rfl, rfl, rfl, rfl⟩
theorem Calm.flush {D : DiskV} (h : Calm D) : flushV D = (flushD (goesV D 3), 0) ∧ Calm (flushD (goesV D 3)) := by
  have hm : mayV D 0 = 0 := by rw [h.may, if_neg (by have := h.ok.many0; omega)]
  refine ⟨by unfold flushV; rw [if_neg (by omega), if_neg (by rw [h.cut]; omega)], ?_⟩
  rw [h.goes]
  refine ⟨flushD_ok (by have := goesV_ok h.ok 3; rw [h.goes] at this; exact this), h.cut, h.off, h.room, ?_, ?_⟩
  · show D.now = _; rw [h.now]; rfl
  · show D.might = _; rw [h.might]; rfl
theorem Calm.crash {D : DiskV} (h : Calm D) (cs : List UInt8) : Calm (crashV D cs) := ⟨crashV_ok h.ok cs, rfl, rfl, h.room, rfl, rfl⟩
/-- A sector that begins with bytes, and goes on with them. -/
def fullL (b : List UInt8) : List UInt8 := (List.range 128).map fun i => if b.length = 0 then 0 else b.getD (i % b.length) 0
theorem fullL_len (b : List UInt8) : (fullL b).length = 128 := by simp [fullL]
def doAt (l : List DoV) (k : Nat) : DoV := l.getD k ⟨0, 0, []⟩
/-- The writes among the first k. -/
def wrK (D : DiskV) (l : List DoV) : Nat → DiskV
  | 0 => D
  | k + 1 => if (doAt l k).kind = 1 then (writeV (wrK D l k) (doAt l k).n (fullL (doAt l k).b)).1 else wrK D l k
theorem wrK_calm {D : DiskV} (h : Calm D) (l : List DoV) : ∀ k, D.waits.length + k < 1000000 → Calm (wrK D l k) ∧ (wrK D l k).many = D.many ∧ (wrK D l k).waits.length ≤ D.waits.length + k := by
  intro k
  induction k with
  | zero => intro _; exact ⟨h, rfl, Nat.le_refl _⟩
  | succ k ih =>
    intro hk
    obtain ⟨h1, h2, h3⟩ := ih (by omega)
    unfold wrK
    split
    · have := h1.write (doAt l k).n (fullL_len (doAt l k).b) (by omega)
      exact ⟨this.1, this.2.1.trans h2, by omega⟩
    · exact ⟨h1, h2, by omega⟩

theorem byteAt_splice {l k : List UInt8} {off : Nat} (h : off + k.length ≤ l.length) (q : Nat) : byteAt (splice l off k) q = if off ≤ q ∧ q < off + k.length then byteAt k (q - off) else byteAt l q := by
  unfold byteAt splice
  rw [List.getD_eq_getElem?_getD, List.getD_eq_getElem?_getD, List.getD_eq_getElem?_getD]
  have ht : (l.take off).length = off := by rw [List.length_take]; omega
  rcases Nat.lt_or_ge q off with h1 | h1
  · rw [if_neg (by omega), List.getElem?_append_left (by omega), List.getElem?_take, if_pos h1]
  · rw [List.getElem?_append_right (by omega), ht]
    rcases Nat.lt_or_ge q (off + k.length) with h2 | h2
    · rw [if_pos ⟨h1, h2⟩, List.getElem?_append_left (by omega)]
    · rw [if_neg (by omega), List.getElem?_append_right (by omega), List.getElem?_drop, show off + k.length + (q - off - k.length) = q by omega]
theorem byteAt_take' {l : List UInt8} {n i : Nat} (h : i < n) : byteAt (l.take n) i = byteAt l i := by
  unfold byteAt; rw [List.getD_eq_getElem?_getD, List.getD_eq_getElem?_getD, List.getElem?_take, if_pos h]
theorem byteAt_sec {l : List UInt8} {n i : Nat} (h : i < 128) : byteAt (secOf l (n : Int)) i = byteAt l (n * 128 + i) := by
  unfold secOf
  rw [byteAt_take' h]
  unfold byteAt; rw [List.getD_eq_getElem?_getD, List.getD_eq_getElem?_getD, List.getElem?_drop, Int.toNat_natCast]
theorem crashK_byte {D : DiskV} (h : D.Ok) (cs : List UInt8) (q : Nat) : ∀ k, k ≤ D.waits.length → byteAt (crashK D.waits cs (D.kept, D.inuse) k).1 q = byteAt D.kept q ∨
    ∃ p ∈ D.waits, p.1 * 128 ≤ q ∧ q < p.1 * 128 + 128 ∧ byteAt p.2 (q - p.1 * 128) = byteAt (crashK D.waits cs (D.kept, D.inuse) k).1 q := by
  intro k
  induction k with
  | zero => intro _; exact .inl rfl
  | succ k ih =>
    intro hk
    obtain ⟨p1, p2⟩ := pieceAt_ok h (show k < D.waits.length by omega)
    have hl := (crashK_len h cs k (by omega)).1
    have hlt : ((pieceAt D.waits k).2.take (min (byteAt cs k) 128)).length = min (byteAt cs k) 128 := by rw [List.length_take, p2]; omega
    unfold crashK
    simp only
    rw [byteAt_splice (by rw [hl, hlt]; omega), hlt]
    by_cases hq : (pieceAt D.waits k).1 * 128 ≤ q ∧ q < (pieceAt D.waits k).1 * 128 + min (byteAt cs k) 128
    · rw [if_pos hq]
      refine .inr ⟨pieceAt D.waits k, ?_, hq.1, by omega, ?_⟩
      · unfold pieceAt; rw [List.getD_eq_getElem?_getD, List.getElem?_eq_getElem (by omega)]; exact List.getElem_mem _
      · rw [byteAt_take' (by omega)]
    · rw [if_neg hq]; exact ih (by omega)
theorem wrK_kept (D : DiskV) (l : List DoV) : ∀ k, (wrK D l k).kept = D.kept := by
  intro k
  induction k with
  | zero => rfl
  | succ k ih =>
    unfold wrK
    split
    · rw [← ih]; unfold writeV; split; rfl; split; rfl; rfl
    · exact ih
theorem wrK_waits (D : DiskV) (l : List DoV) : ∀ k, ∀ p ∈ (wrK D l k).waits, p ∈ D.waits ∨ ∃ j, j < k ∧ (doAt l j).kind = 1 ∧ (doAt l j).n = (p.1 : Int) ∧ p.2 = fullL (doAt l j).b := by
  intro k
  induction k with
  | zero => intro p hp; exact .inl hp
  | succ k ih =>
    intro p hp
    have old : p ∈ (wrK D l k).waits → p ∈ D.waits ∨ ∃ j, j < k + 1 ∧ (doAt l j).kind = 1 ∧ (doAt l j).n = (p.1 : Int) ∧ p.2 = fullL (doAt l j).b := fun h => by
      rcases ih p h with h | ⟨j, h1, h2⟩
      · exact .inl h
      · exact .inr ⟨j, by omega, h2⟩
    unfold wrK at hp
    split at hp
    · rename_i hkind
      unfold writeV at hp
      split at hp
      · exact old hp
      · rename_i hm
        split at hp
        · exact old hp
        · have hm0 : mayV (wrK D l k) (doAt l k).n = 0 := by rcases mayV_cases (wrK D l k) (doAt l k).n with q | q | q <;> omega
          obtain ⟨_, h0, _⟩ := mayV_zero hm0
          rcases List.mem_append.1 (show p ∈ (wrK D l k).waits ++ [((doAt l k).n.toNat, fullL (doAt l k).b)] from hp) with q | q
          · exact old q
          · obtain rfl : p = ((doAt l k).n.toNat, fullL (doAt l k).b) := by simpa using q
            exact .inr ⟨k, by omega, hkind, by show (doAt l k).n = ((doAt l k).n.toNat : Int); omega, rfl⟩
    · exact old hp
/-- What was flushed is kept, but where something that waits is written. -/
theorem keeps {D : DiskV} (h : Calm D) (hw : D.waits = []) (l : List DoV) (k : Nat) (hk : k < 1000) (cs : List UInt8) (n i : Nat) (hn : n < D.many) (hi : i < 128) :
    byteAt (secOf (crashV (wrK D l k) cs).now (n : Int)) i = byteAt (secOf D.now (n : Int)) i ∨ ∃ j, j < k ∧ (doAt l j).kind = 1 ∧ (doAt l j).n = (n : Int) ∧ byteAt (fullL (doAt l j).b) i = byteAt (secOf (crashV (wrK D l k) cs).now (n : Int)) i := by
  obtain ⟨c1, c2, c3⟩ := wrK_calm h l k (by rw [hw]; simp; omega)
  have hnow : D.now = D.kept := by rw [h.now, hw]; rfl
  rw [byteAt_sec hi, byteAt_sec hi, hnow]
  have := crashK_byte c1.ok cs (n * 128 + i) (min (wrK D l k).waits.length cs.length) (Nat.min_le_left _ _)
  rw [wrK_kept] at this
  have e : (crashV (wrK D l k) cs).now = (crashK (wrK D l k).waits cs (D.kept, (wrK D l k).inuse) (min (wrK D l k).waits.length cs.length)).1 := by
    show (crashE (wrK D l k) cs).1 = _
    unfold crashE; rw [wrK_kept]
  rw [e]
  rcases this with h1 | ⟨p, hp, q1, q2, q3⟩
  · exact .inl h1
  · rcases wrK_waits D l k p hp with h2 | ⟨j, j1, j2, j3, j4⟩
    · rw [hw] at h2; cases h2
    · refine .inr ⟨j, j1, j2, by rw [j3]; omega, ?_⟩
      rw [← j4, ← q3]
      have : p.1 = n := by omega
      subst this
      rw [Nat.add_sub_cancel_left]
end Go.Proofs.YtpmkpckldnnigaaGreat
