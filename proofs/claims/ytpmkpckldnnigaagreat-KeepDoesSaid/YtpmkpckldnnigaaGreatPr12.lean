/- Parts: PlainSeal. -/
import Derived.Test.YtpmkpckldnnigaaGreatPr02
import Derived.Test.YtpmkpckldnnigaaGreatPr11
import Derived.Laws.CopyOwn
namespace Go.Proofs.YtpmkpckldnnigaaGreat
open Go.RowKit

def zerosL : List UInt8 := List.replicate 128 0
theorem zerosL_len : zerosL.length = 128 := by simp [zerosL]
def le4 (s : Nat) : List UInt8 := tabB 4 (fun i => s / 256 ^ i % 256)
theorem le4_len (s : Nat) : (le4 s).length = 4 := by simp [le4, tabB_len]
/-- The first 123 bytes of a sealed sector. -/
def sealBody (kind n : Nat) (load : List UInt8) : List UInt8 :=
  UInt8.ofNat kind :: (putL n ++ (UInt8.ofNat load.length :: (load ++ List.replicate (113 - load.length) 0)))
def sealL (kind n : Nat) (load : List UInt8) : List UInt8 := sealBody kind n load ++ (le4 (crcSum [sealBody kind n load]) ++ [215])
theorem sealBody_len (kind n : Nat) (load : List UInt8) (h : load.length ≤ 113) : (sealBody kind n load).length = 123 := by
  simp [sealBody, putL_len]; omega
theorem sealL_len (kind n : Nat) (load : List UInt8) (h : load.length ≤ 113) : (sealL kind n load).length = 128 := by
  simp [sealL, sealBody_len kind n load h, le4_len]
theorem sealL_first (kind n : Nat) (load : List UInt8) (h : kind < 256) : byteAt (sealL kind n load) 0 = kind := by
  simp only [sealL, sealBody, byteAt, List.cons_append, List.getD_cons_zero]
  exact UInt8.toNat_ofNat_of_lt' (by simp [UInt8.size]; omega)
theorem sealL_last (kind n : Nat) (load : List UInt8) (h : load.length ≤ 113) : byteAt (sealL kind n load) 127 = 215 := by
  have h1 := sealBody_len kind n load h
  simp only [sealL, byteAt, List.getD_eq_getElem?_getD]
  rw [List.getElem?_append_right (by omega), List.getElem?_append_right (by rw [le4_len]; omega), h1, le4_len]
  rfl
theorem sealL_size (kind n : Nat) (load : List UInt8) (h : load.length ≤ 113) : byteAt (sealL kind n load) 9 = load.length := by
  have h0 := putL_len n
  simp only [sealL, sealBody, byteAt, List.cons_append, List.getD_eq_getElem?_getD, List.append_assoc]
  rw [List.getElem?_cons_succ, List.getElem?_append_right (by omega), h0]
  simp only [Nat.sub_self, List.getElem?_cons_zero, Option.getD_some]
  exact UInt8.toNat_ofNat_of_lt' (by simp [UInt8.size]; omega)
theorem sealL_num (kind n : Nat) (load : List UInt8) : ((sealL kind n load).drop 1).take 8 = putL n := by
  have h0 := putL_len n
  simp only [sealL, sealBody, List.cons_append, List.drop_succ_cons, List.drop_zero, List.append_assoc]
  rw [List.take_append_of_le_length (by omega), List.take_of_length_le (by omega)]
theorem sealL_load (kind n : Nat) (load : List UInt8) : ((sealL kind n load).drop 10).take load.length = load := by
  have h0 := putL_len n
  simp only [sealL, sealBody, List.cons_append, List.append_assoc]
  rw [show 10 = 9 + 1 from rfl, List.drop_succ_cons, show 9 = (putL n).length + 1 from by omega, List.drop_append, List.drop_of_length_le (by omega), List.nil_append, show (putL n).length + 1 - (putL n).length = 1 from by omega, List.drop_succ_cons, List.drop_zero, List.take_append_of_le_length (by omega), List.take_of_length_le (by omega)]
/-- What is opened: kind, the bytes; the number, the load. -/
def openNum (b : List UInt8) : Nat := getL ((b.drop 1).take 8)
def openLoad (b : List UInt8) : List UInt8 := (b.drop 10).take (byteAt b 9)
def opens (b : List UInt8) (kind : Int) : Bool :=
  decide (1 ≤ kind) && decide (kind ≤ 255) && decide (openNum b < 9223372036854775808) && decide (byteAt b 9 ≤ 113) && decide (sealL kind.toNat (openNum b) (openLoad b) = b)
theorem opens_parts {b : List UInt8} {kind : Int} (h : opens b kind = true) : 1 ≤ kind ∧ kind ≤ 255 ∧ openNum b < 9223372036854775808 ∧ byteAt b 9 ≤ 113 ∧ sealL kind.toNat (openNum b) (openLoad b) = b := by
  simpa [opens, and_assoc] using h
theorem opens_mk {b : List UInt8} {kind : Int} (h1 : 1 ≤ kind) (h2 : kind ≤ 255) (h3 : openNum b < 9223372036854775808) (h4 : byteAt b 9 ≤ 113) (h5 : sealL kind.toNat (openNum b) (openLoad b) = b) : opens b kind = true := by
  simp [opens, h1, h2, h3, h4, h5]
theorem opens_seal {kind : Int} {n : Nat} {load : List UInt8} (h1 : 1 ≤ kind) (h2 : kind ≤ 255) (h3 : n < 9223372036854775808) (h4 : load.length ≤ 113) :
    opens (sealL kind.toNat n load) kind = true ∧ openNum (sealL kind.toNat n load) = n ∧ openLoad (sealL kind.toNat n load) = load := by
  have e1 : openNum (sealL kind.toNat n load) = n := by unfold openNum; rw [sealL_num, getL_putL _ (by omega)]
  have e2 : openLoad (sealL kind.toNat n load) = load := by unfold openLoad; rw [sealL_size _ _ _ h4, sealL_load]
  exact ⟨opens_mk h1 h2 (by rw [e1]; exact h3) (by rw [sealL_size _ _ _ h4]; exact h4) (by rw [e1, e2]), e1, e2⟩
theorem opens_kind {b : List UInt8} {kind : Int} (h : opens b kind = true) : (byteAt b 0 : Int) = kind ∧ byteAt b 127 = 215 ∧ b.length = 128 := by
  obtain ⟨h1, h2, h3, h4, h5⟩ := opens_parts h
  by_cases hl : (openLoad b).length ≤ 113
  · rw [← h5, sealL_first _ _ _ (by omega), sealL_last _ _ _ hl, sealL_len _ _ _ hl]; omega
  · have := List.length_take_le (byteAt b 9) (b.drop 10)
    unfold openLoad at hl
    omega

end Go.Proofs.YtpmkpckldnnigaaGreat
