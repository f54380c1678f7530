/- Plain functions of package digest: the digest of bytes, hexadecimal digits. No program in sight. -/
import Derived.Test.YthplicnidknphaaPlainNumC
namespace Go.Proofs.Ythplicnidknphaa
open Go.RowKit

def fnvStep (h c : Nat) : Nat := 1099511628211 * (h ^^^ c) % 18446744073709551616
def fnvFold (h : Nat) (l : List UInt8) : Nat := l.foldl (fun h c => fnvStep h c.toNat) h
def fnv (l : List UInt8) : Nat := fnvFold 14695981039346656037 l
theorem fnvStep_lt (h c : Nat) : fnvStep h c < 18446744073709551616 := by unfold fnvStep; omega
theorem fnvFold_snoc (h : Nat) (a : List UInt8) (x : UInt8) : fnvFold h (a ++ [x]) = fnvStep (fnvFold h a) x.toNat := by simp only [fnvFold, List.foldl_append, List.foldl_cons, List.foldl_nil]
theorem fnv_take (l : List UInt8) (k : Nat) (h : k < l.length) : fnv (l.take (k + 1)) = fnvStep (fnv (l.take k)) (byteAt l k) := by
  unfold fnv byteAt; rw [take_succ_byte l k h, fnvFold_snoc]
theorem fnvFold_lt (l : List UInt8) : ∀ {h : Nat}, h < 18446744073709551616 → fnvFold h l < 18446744073709551616 := by
  induction l with
  | nil => intro h hh; exact hh
  | cons c l ih => intro h hh; exact ih (fnvStep_lt _ _)
theorem fnv_lt (l : List UInt8) : fnv l < 18446744073709551616 := fnvFold_lt l (by decide)

/-- A digit's letter; a letter's digit. -/
def hexC (d : Nat) : Nat := if d < 10 then 48 + d else 87 + d
def hexD (c : Nat) : Nat := if 48 ≤ c ∧ c ≤ 57 then c - 48 else if 97 ≤ c ∧ c ≤ 102 then c - 87 else 16
theorem hexC_lt {d : Nat} (h : d < 16) : hexC d < 128 := by unfold hexC; split <;> omega
theorem hexD_hexC {d : Nat} (h : d < 16) : hexD (hexC d) = d := by unfold hexC hexD; split <;> (try split) <;> (try split) <;> omega
theorem hexC_hexD {c : Nat} (h : hexD c < 16) : hexC (hexD c) = c := by
  unfold hexD at h ⊢
  unfold hexC
  split at h
  · rename_i h1; rw [if_pos h1]; split <;> omega
  · rename_i h1
    rw [if_neg h1]
    split at h
    · rename_i h2; rw [if_pos h2]; split <;> omega
    · omega
theorem hexD_le (c : Nat) : hexD c ≤ 16 := by unfold hexD; split <;> (try split) <;> omega
def textL (u : Nat) : List UInt8 := tabB 16 (fun i => hexC (u / 16 ^ (15 - i) % 16))
theorem textL_len (u : Nat) : (textL u).length = 16 := by simp [textL, tabB_len]

/-- The number of digits, the lowest first. -/
def getH : List UInt8 → Nat
  | [] => 0
  | c :: l => hexD c.toNat + 16 * getH l
def hexN (l : List UInt8) : Nat := getH l.reverse
def hexOk (l : List UInt8) : Bool := l.all (fun c => decide (hexD c.toNat < 16))
theorem hexOk_at {l : List UInt8} (h : hexOk l = true) (k : Nat) (hk : k < l.length) : hexD (byteAt l k) < 16 := by
  unfold hexOk at h
  rw [List.all_eq_true] at h
  have := h l[k] (List.getElem_mem hk)
  unfold byteAt
  rw [List.getD_eq_getElem?_getD, List.getElem?_eq_getElem hk]
  simpa using this
theorem hexOk_of {l : List UInt8} (h : ∀ k, k < l.length → hexD (byteAt l k) < 16) : hexOk l = true := by
  unfold hexOk
  rw [List.all_eq_true]
  intro x hx
  obtain ⟨k, hk, rfl⟩ := List.getElem_of_mem hx
  have := h k hk
  unfold byteAt at this
  rw [List.getD_eq_getElem?_getD, List.getElem?_eq_getElem hk] at this
  simpa using this
theorem hexOk_take {l : List UInt8} (h : hexOk l = true) (k : Nat) : hexOk (l.take k) = true := by
  unfold hexOk at h ⊢
  rw [List.all_eq_true] at h ⊢
  exact fun x hx => h x (List.mem_of_mem_take hx)
theorem hexN_take (l : List UInt8) (k : Nat) (h : k < l.length) : hexN (l.take (k + 1)) = 16 * hexN (l.take k) + hexD (byteAt l k) := by
  rw [take_succ_byte l k h]
  unfold hexN
  rw [List.reverse_append]
  simp only [List.reverse_cons, List.reverse_nil, List.nil_append, List.singleton_append, getH]
  show hexD (byteAt l k) + _ = _
  omega
theorem getH_lt (l : List UInt8) (h : hexOk l = true) : getH l < 16 ^ l.length := by
  induction l with
  | nil => simp [getH]
  | cons c l ih =>
    have h2 : hexD c.toNat < 16 ∧ hexOk l = true := by
      unfold hexOk at h ⊢
      rw [List.all_cons, Bool.and_eq_true] at h
      exact ⟨by simpa using h.1, h.2⟩
    have := ih h2.2
    simp only [getH, List.length_cons, Nat.pow_succ]
    omega
theorem hexOk_rev {l : List UInt8} (h : hexOk l = true) : hexOk l.reverse = true := by
  unfold hexOk at h ⊢; rw [List.all_reverse]; exact h
theorem hexN_lt (l : List UInt8) (h : hexOk l = true) : hexN l < 16 ^ l.length := by
  have := getH_lt _ (hexOk_rev h)
  rwa [List.length_reverse] at this
theorem getH_at (l : List UInt8) : ∀ k, hexOk l = true → k < l.length → getH l / 16 ^ k % 16 = hexD (byteAt l k) := by
  induction l with
  | nil => intro k _ h; simp at h
  | cons c l ih =>
    intro k h hk
    have h2 : hexD c.toNat < 16 ∧ hexOk l = true := by
      unfold hexOk at h ⊢
      rw [List.all_cons, Bool.and_eq_true] at h
      exact ⟨by simpa using h.1, h.2⟩
    cases k with
    | zero => simp only [getH, Nat.pow_zero, Nat.div_one]; show _ = hexD c.toNat; omega
    | succ k =>
      have := ih k h2.2 (by simpa using hk)
      simp only [getH]
      rw [Nat.pow_succ, Nat.mul_comm (16 ^ k) 16, ← Nat.div_div_eq_div_mul, show (hexD c.toNat + 16 * getH l) / 16 = getH l from by omega, this]
      rfl
theorem byteAt_rev (l : List UInt8) (k : Nat) (h : k < l.length) : byteAt l.reverse k = byteAt l (l.length - 1 - k) := by
  unfold byteAt
  rw [List.getD_eq_getElem?_getD, List.getD_eq_getElem?_getD, List.getElem?_reverse h]
theorem hexN_at (l : List UInt8) (k : Nat) (h : hexOk l = true) (hk : k < l.length) : hexN l / 16 ^ (l.length - 1 - k) % 16 = hexD (byteAt l k) := by
  unfold hexN
  rw [getH_at _ _ (hexOk_rev h) (by rw [List.length_reverse]; omega), byteAt_rev _ _ (by omega), show l.length - 1 - (l.length - 1 - k) = k from by omega]
theorem byteAt_inj' {l m : List UInt8} (h : l.length = m.length) (hall : ∀ i, i < l.length → byteAt l i = byteAt m i) : l = m := by
  apply List.ext_getElem h
  intro i h1 h2
  have := hall i h1
  unfold byteAt at this
  simp only [List.getD_eq_getElem?_getD, List.getElem?_eq_getElem h1, List.getElem?_eq_getElem h2, Option.getD_some] at this
  exact UInt8.toNat_inj.1 this
theorem textL_at (u k : Nat) (h : k < 16) : byteAt (textL u) k = hexC (u / 16 ^ (15 - k) % 16) := by
  unfold textL
  exact tabB_at _ h (by have := hexC_lt (d := u / 16 ^ (15 - k) % 16) (by omega); omega)
theorem text_hexN (l : List UInt8) (h : l.length = 16) (hok : hexOk l = true) : textL (hexN l) = l := by
  apply byteAt_inj' (by rw [textL_len, h])
  intro i hi
  rw [textL_len] at hi
  have := hexN_at l i hok (by omega)
  rw [h] at this
  rw [textL_at _ _ hi, this, hexC_hexD (hexOk_at hok i (by omega))]
theorem textL_ok (u : Nat) : hexOk (textL u) = true := hexOk_of fun k hk => by
  rw [textL_len] at hk
  rw [textL_at _ _ hk, hexD_hexC (by omega)]; omega
theorem getH_ext (n : Nat) : ∀ (l : List UInt8) (u : Nat), l.length = n → (∀ k, k < n → hexD (byteAt l k) = u / 16 ^ k % 16) → getH l = u % 16 ^ n := by
  induction n with
  | zero => intro l u h _; rw [List.length_eq_zero_iff.1 h]; simp [getH, Nat.mod_one]
  | succ n ih =>
    intro l u h hall
    cases l with
    | nil => simp at h
    | cons c l =>
      have h0 := hall 0 (by omega)
      have e := ih l (u / 16) (by simpa using h) fun k hk => by
        have := hall (k + 1) (by omega)
        rw [Nat.pow_succ, Nat.mul_comm (16 ^ k) 16, ← Nat.div_div_eq_div_mul] at this
        exact this
      simp only [getH]
      rw [e, Nat.pow_succ, Nat.mul_comm (16 ^ n) 16, Nat.mod_mul]
      have : hexD c.toNat = u % 16 := by rw [Nat.pow_zero, Nat.div_one] at h0; exact h0
      omega
theorem hexN_text (u : Nat) (h : u < 18446744073709551616) : hexN (textL u) = u := by
  unfold hexN
  rw [getH_ext 16 _ u (by rw [List.length_reverse, textL_len]) fun k hk => by
    rw [byteAt_rev _ _ (by rw [textL_len]; omega), textL_len, textL_at _ _ (by omega), hexD_hexC (by omega), show 15 - (16 - 1 - k) = k from by omega]]
  exact Nat.mod_eq_of_lt (by omega)
end Go.Proofs.Ythplicnidknphaa
