/- Plain: a disk with something on it. -/
import Derived.Test.YtninidpbchcliaaPlainArea
set_option linter.unusedVariables false
namespace Go.Proofs.Ytninidpbchcliaa
open Go.RowKit
/-- The first k sectors of an image, and noughts. -/
def imgK (img : List UInt8) (many k : Nat) : List UInt8 := img.take (k * 128) ++ List.replicate (many * 128 - min img.length (k * 128)) 0
def trueK (many k : Nat) : List Bool := List.replicate k true ++ List.replicate (many - k) false
def loadD (many : Nat) (room : Int) (img : List UInt8) (k : Nat) : DiskV := { newV many room with kept := imgK img many k, now := imgK img many k, inuse := trueK many k, might := trueK many k }
def usedN (img : List UInt8) : Nat := (img.length + 127) / 128
theorem imgK_len {img : List UInt8} {many k : Nat} (h : img.length ≤ many * 128) : (imgK img many k).length = many * 128 := by
  unfold imgK; rw [List.length_append, List.length_take, List.length_replicate]; omega
theorem trueK_len {many k : Nat} (h : k ≤ many) : (trueK many k).length = many := by unfold trueK; rw [List.length_append, List.length_replicate, List.length_replicate]; omega
theorem trueK_succ {many k : Nat} (h : k < many) : (trueK many k).set k true = trueK many (k + 1) := by
  unfold trueK
  rw [List.set_append_right _ _ (by simp), List.length_replicate, Nat.sub_self, show many - k = (many - (k + 1)) + 1 by omega, List.replicate_succ, List.set_cons_zero, List.replicate_succ']
  simp
theorem imgK_zero (img : List UInt8) (many : Nat) : imgK img many 0 = List.replicate (many * 128) 0 := by simp [imgK]
theorem loadD_zero (many : Nat) (room : Int) (img : List UInt8) : loadD many room img 0 = newV many room := by
  unfold loadD; rw [imgK_zero]
  have : trueK many 0 = List.replicate many false := by simp [trueK]
  rw [this]; rfl
theorem imgK_succ {img : List UInt8} {many k : Nat} (h : img.length ≤ many * 128) (hk : k * 128 < img.length) : splice (imgK img many k) (k * 128) ((img.drop (k * 128)).take 128) = imgK img many (k + 1) := by
  unfold splice imgK
  have h1 : (img.take (k * 128)).length = k * 128 := by rw [List.length_take]; omega
  have h2 : ((img.drop (k * 128)).take 128).length = min 128 (img.length - k * 128) := by rw [List.length_take, List.length_drop]
  rw [List.take_append_of_le_length (by omega), List.take_of_length_le (by omega), h2, List.drop_append, h1, List.drop_of_length_le (show (img.take (k * 128)).length ≤ k * 128 + min 128 (img.length - k * 128) by omega), List.nil_append, List.drop_replicate, ← List.append_assoc]
  congr 1
  · rw [show (k + 1) * 128 = k * 128 + 128 by omega, List.take_add]
  · congr 1; omega
theorem imgK_byte {img : List UInt8} {many k q : Nat} (h : img.length ≤ many * 128) (hq : q < many * 128) : byteAt (imgK img many k) q = if q < k * 128 then byteAt img q else 0 := by
  unfold byteAt imgK
  rw [List.getD_eq_getElem?_getD, List.getD_eq_getElem?_getD]
  by_cases h1 : q < min img.length (k * 128)
  · rw [List.getElem?_append_left (by rw [List.length_take]; omega), List.getElem?_take, if_pos (by omega), if_pos (by omega)]
  · rw [List.getElem?_append_right (by rw [List.length_take]; omega), List.getElem?_replicate, List.length_take]
    have e0 : ∀ b : Bool, ((if b = true then some (0 : UInt8) else none).getD 0).toNat = 0 := fun b => by cases b <;> rfl
    have e1 := e0 (decide (q - min (k * 128) img.length < many * 128 - min img.length (k * 128)))
    simp only [decide_eq_true_eq] at e1
    rw [e1]
    split
    · rw [List.getElem?_eq_none (by omega)]; rfl
    · rfl
theorem byte_ext {x y : List UInt8} (hx : x.length = y.length) (h : ∀ i, i < y.length → byteAt x i = byteAt y i) : x = y := by
  apply List.ext_getElem (by omega)
  intro i q1 q2
  have := h i (by omega)
  unfold byteAt at this
  rw [List.getD_eq_getElem?_getD, List.getD_eq_getElem?_getD, List.getElem?_eq_getElem q1, List.getElem?_eq_getElem q2] at this
  exact UInt8.toNat_inj.1 this
theorem imgK_sec {img : List UInt8} {many k : Nat} (h : img.length ≤ many * 128) (hk : k < many) : splice (imgK img many k) (k * 128) (secOf (imgK img many (k + 1)) (k : Int)) = imgK img many (k + 1) := by
  have hs : (secOf (imgK img many (k + 1)) (k : Int)).length = 128 := secOf_len (imgK_len h) (by omega) (by omega)
  have hl := imgK_len (k := k) h
  have hl1 := imgK_len (k := k + 1) h
  refine byte_ext (by rw [splice_len (by omega), hl, hl1]) (fun i hi => ?_)
  rw [hl1] at hi
  rw [byteAt_splice (by omega), hs]
  split
  · rename_i hq
    rw [byteAt_sec (by omega), show k * 128 + (i - k * 128) = i by omega]
  · rename_i hq
    rw [imgK_byte h hi, imgK_byte h hi]
    by_cases q : i < k * 128
    · rw [if_pos q, if_pos (by omega)]
    · rw [if_neg q, if_neg (by omega)]
theorem loadD_ok {many : Nat} {room : Int} {img : List UInt8} {k : Nat} (h0 : 1 ≤ many) (h1 : many ≤ 4096) (r0 : 0 ≤ room) (r1 : room ≤ many) (h : img.length ≤ many * 128) (hk : k ≤ many) : (loadD many room img k).Ok :=
  ⟨h0, h1, imgK_len h, imgK_len h, trueK_len hk, trueK_len hk, fun p hp => (by cases hp), ⟨r0, r1⟩, ⟨by show (-1 : Int) ≤ -1; omega, by show (-1 : Int) ≤ _; omega⟩, by show 0 ≤ 1000000; omega⟩
end Go.Proofs.Ytninidpbchcliaa
