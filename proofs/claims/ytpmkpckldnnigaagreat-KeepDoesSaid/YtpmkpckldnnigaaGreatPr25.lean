/- Parts: PlainArea. -/
import Derived.Test.YtpmkpckldnnigaaGreatPr20
namespace Go.Proofs.YtpmkpckldnnigaaGreat
open Go.RowKit
theorem secOf_splice {l b : List UInt8} {n k many : Nat} (hl : l.length = many * 128) (hb : b.length = 128) (hn : n < many) (hk : k < many) : secOf (splice l (n * 128) b) (k : Int) = if k = n then b else secOf l (k : Int) := by
  have h1 : (secOf (splice l (n * 128) b) (k : Int)).length = 128 := secOf_len (s := many) (by rw [splice_len (by rw [hl, hb]; omega), hl]) (by omega) (by omega)
  have h2 : (secOf l (k : Int)).length = 128 := secOf_len (s := many) hl (by omega) (by omega)
  have ext : ∀ {x y : List UInt8}, x.length = 128 → y.length = 128 → (∀ i, i < 128 → byteAt x i = byteAt y i) → x = y := by
    intro x y hx hy h
    apply List.ext_getElem (by omega)
    intro i q1 q2
    have := h i (by omega)
    unfold byteAt at this
    rw [List.getD_eq_getElem?_getD, List.getD_eq_getElem?_getD, List.getElem?_eq_getElem q1, List.getElem?_eq_getElem q2] at this
    exact UInt8.toNat_inj.1 this
  split
  · rename_i e
    subst e
    refine ext h1 hb (fun i hi => ?_)
    rw [byteAt_sec hi, byteAt_splice (by rw [hl, hb]; omega), if_pos (by rw [hb]; omega), Nat.add_sub_cancel_left]
  · rename_i e
    refine ext h1 h2 (fun i hi => ?_)
    rw [byteAt_sec hi, byteAt_sec hi, byteAt_splice (by rw [hl, hb]; omega), if_neg (by rw [hb]; omega)]
theorem Calm.write_now {D : DiskV} (h : Calm D) {n : Int} {b : List UInt8} (hb : b.length = 128) {k : Nat} (hk : k < D.many) : secOf (writeV D n b).1.now (k : Int) = if n = (k : Int) then b else secOf D.now (k : Int) := by
  by_cases hn : n < 0 ∨ (D.many : Int) ≤ n
  · rw [h.write_out hn, if_neg (by omega)]
  · rw [h.write_in (by omega) (by omega)]
    show secOf (splice D.now (n.toNat * 128) b) (k : Int) = _
    rw [secOf_splice h.ok.now hb (by omega) hk]
    by_cases e : k = n.toNat
    · rw [if_pos e, if_pos (by omega)]
    · rw [if_neg e, if_neg (by omega)]
/-- Beside an area all is as it was laid. -/
structure Beside (D : DiskV) (f m : Nat) : Prop where
  calm : Calm D
  many : D.many = 12
  fm : f + m ≤ 12
  out : ∀ n : Nat, n < 12 → ¬ (f ≤ n ∧ n < f + m) → secOf D.now (n : Int) = fullL [UInt8.ofNat (n + 1)]
theorem Beside.write {D : DiskV} {f m : Nat} (h : Beside D f m) (n : Int) {b : List UInt8} (hb : b.length = 128) (hw : D.waits.length < 1000000) : Beside (aWriteV D f m n b).1 f m ∧ (aWriteV D f m n b).1.waits.length ≤ D.waits.length + 1 := by
  unfold aWriteV
  split
  · exact ⟨h, by simp⟩
  · rename_i hn
    obtain ⟨c1, c2, c3⟩ := h.calm.write ((f : Int) + n) hb hw
    refine ⟨⟨c1, c2.trans h.many, h.fm, fun k hk hout => ?_⟩, c3⟩
    rw [h.calm.write_now hb (by rw [h.many]; exact hk), if_neg (by omega)]
    exact h.out k hk hout
theorem Beside.put {D : DiskV} {f m : Nat} (h : Beside D f m) (n kind number : Int) (l : List UInt8) (hw : D.waits.length < 1000000) : Beside (aPutV D f m n kind number l).1 f m ∧ (aPutV D f m n kind number l).1.waits.length ≤ D.waits.length + 1 := by
  unfold aPutV
  split
  · exact ⟨h, by simp⟩
  · exact h.write n (makeL_len _ _ _) hw
theorem Beside.flush {D : DiskV} {f m : Nat} (h : Beside D f m) : Beside (flushV D).1 f m ∧ (flushV D).1.waits = [] ∧ (flushV D).2 = 0 := by
  obtain ⟨e, c⟩ := h.calm.flush
  rw [e]
  exact ⟨⟨c, h.many, h.fm, h.out⟩, rfl, rfl⟩
theorem Calm.ops {D : DiskV} (h : Calm D) (o : List Int) : Calm { D with ops := o } := ⟨⟨h.ok.many0, h.ok.many1, h.ok.kept, h.ok.now, h.ok.inuse, h.ok.might, h.ok.waits, h.ok.room, h.ok.cut, h.ok.few⟩, h.cut, h.off, h.room, h.now, h.might⟩
theorem Calm.read {D : DiskV} (h : Calm D) {n : Nat} (hn : n < D.many) : readV D (n : Int) = (readV' D, secOf D.now (n : Int), 0) := by
  unfold readV
  rw [if_neg]
  rw [h.may, if_neg (by omega)]; simp
theorem Beside.read {D : DiskV} {f m : Nat} (h : Beside D f m) {n : Nat} (hn : n < 12) : readV D (n : Int) = (readV' D, secOf D.now (n : Int), 0) ∧ Beside (readV' D) f m :=
  ⟨h.calm.read (by rw [h.many]; exact hn), h.calm.ops _, h.many, h.fm, h.out⟩
end Go.Proofs.YtpmkpckldnnigaaGreat
set_option linter.unusedVariables false
namespace Go.Proofs.YtpmkpckldnnigaaGreat
open Go.RowKit
/-- The first k sectors of an image, and noughts. -/
def imgK (img : List UInt8) (many k : Nat) : List UInt8 := img.take (k * 128) ++ List.replicate (many * 128 - min img.length (k * 128)) 0
def trueK (many k : Nat) : List Bool := List.replicate k true ++ List.replicate (many - k) false
def loadD (many : Nat) (room : Int) (img : List UInt8) (k : Nat) : DiskV := { newV many room with kept := imgK img many k, now := imgK img many k, inuse := trueK many k, might := trueK many k }
theorem imgK_len {img : List UInt8} {many k : Nat} (h : img.length ≤ many * 128) : (imgK img many k).length = many * 128 := by
  unfold imgK; rw [List.length_append, List.length_take, List.length_replicate]; omega
theorem trueK_len {many k : Nat} (h : k ≤ many) : (trueK many k).length = many := by unfold trueK; rw [List.length_append, List.length_replicate, List.length_replicate]; omega
theorem imgK_zero (img : List UInt8) (many : Nat) : imgK img many 0 = List.replicate (many * 128) 0 := by simp [imgK]
theorem loadD_zero (many : Nat) (room : Int) (img : List UInt8) : loadD many room img 0 = newV many room := by
  unfold loadD; rw [imgK_zero]
  have : trueK many 0 = List.replicate many false := by simp [trueK]
  rw [this]; rfl
theorem byte_ext {x y : List UInt8} (hx : x.length = y.length) (h : ∀ i, i < y.length → byteAt x i = byteAt y i) : x = y := by
  apply List.ext_getElem (by omega)
  intro i q1 q2
  have := h i (by omega)
  unfold byteAt at this
  rw [List.getD_eq_getElem?_getD, List.getD_eq_getElem?_getD, List.getElem?_eq_getElem q1, List.getElem?_eq_getElem q2] at this
  exact UInt8.toNat_inj.1 this
theorem loadD_ok {many : Nat} {room : Int} {img : List UInt8} {k : Nat} (h0 : 1 ≤ many) (h1 : many ≤ 4096) (r0 : 0 ≤ room) (r1 : room ≤ many) (h : img.length ≤ many * 128) (hk : k ≤ many) : (loadD many room img k).Ok :=
  ⟨h0, h1, imgK_len h, imgK_len h, trueK_len hk, trueK_len hk, fun p hp => (by cases hp), ⟨r0, r1⟩, ⟨by show (-1 : Int) ≤ -1; omega, by show (-1 : Int) ≤ _; omega⟩, by show 0 ≤ 1000000; omega⟩
end Go.Proofs.YtpmkpckldnnigaaGreat
