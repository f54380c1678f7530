/- Lists of numbers by their places; an own slice of them. -/
import Derived.Test.YtninidpbchcliaaMem
namespace Go.Proofs.Ytninidpbchcliaa
open Go.RowKit

/-- Numbers, by their places. -/
def tab (n : Nat) (f : Nat → Nat) : List Int := (List.range n).map fun i => (f i : Int)
def bit (x i : Nat) : Nat := x / 2 ^ i % 2
theorem tab_len (n : Nat) (f : Nat → Nat) : (tab n f).length = n := by simp [tab]
theorem tab_at {n k : Nat} (f : Nat → Nat) (h : k < n) : intAt (tab n f) k = (f k : Int) := by simp [intAt, tab, List.getD_eq_getElem?_getD, h]
theorem tab_succ (n : Nat) (f : Nat → Nat) : tab n f ++ [(f n : Int)] = tab (n + 1) f := by simp [tab, List.range_succ]
theorem tab_set {n k : Nat} (f : Nat → Nat) (v : Nat) (h : k < n) : (tab n f).set k (v : Int) = tab n (fun i => if i = k then v else f i) := by
  apply List.ext_getElem?
  intro i
  by_cases hi : i = k
  · subst hi
    rw [List.getElem?_set_self (by rw [tab_len]; exact h)]
    simp [tab, h]
  · rw [List.getElem?_set_ne (by omega)]
    rcases Nat.lt_or_ge i n with h1 | h1
    · simp [tab, h1, hi]
    · rw [List.getElem?_eq_none (by rw [tab_len]; exact h1), List.getElem?_eq_none (by rw [tab_len]; exact h1)]
theorem tab_congr {n : Nat} {f g : Nat → Nat} (h : ∀ i, i < n → f i = g i) : tab n f = tab n g := by
  unfold tab; apply List.map_congr_left; intro i hi; rw [h i (List.mem_range.1 hi)]

theorem bit_le (x i : Nat) : bit x i ≤ 1 := by unfold bit; omega
theorem bit_half (x i : Nat) : bit (x / 2) i = bit x (i + 1) := by unfold bit; rw [Nat.div_div_eq_div_mul, Nat.pow_succ, Nat.mul_comm]
theorem bit_xor (x y i : Nat) : bit (x ^^^ y) i = (bit x i + bit y i) % 2 := by
  unfold bit
  have h := Nat.testBit_xor x y i
  simp only [Nat.testBit_eq_decide_div_mod_eq] at h
  rcases Nat.mod_two_eq_zero_or_one (x / 2 ^ i) with hx | hx <;> rcases Nat.mod_two_eq_zero_or_one (y / 2 ^ i) with hy | hy <;> rcases Nat.mod_two_eq_zero_or_one ((x ^^^ y) / 2 ^ i) with hz | hz <;> simp [hx, hy, hz] at h ⊢
theorem bit_high {x n i : Nat} (h : x < 2 ^ n) (hi : n ≤ i) : bit x i = 0 := by
  unfold bit; rw [Nat.div_eq_of_lt (Nat.lt_of_lt_of_le h (Nat.pow_le_pow_right (by omega) hi))]

section
variable {w : World} {base g n c : Nat} {e : TypeId} {f : Nat → Nat}
theorem Ow.tab_cell (h : Ow iv w base e (some ⟨g, 0, none⟩) n c (tab n f)) {k : Nat} (hk : k < n) : w.cell? ⟨g, k, none⟩ = some (.int .i64 (f k : Nat)) := by
  obtain ⟨b, o, hA, _, hc⟩ := h.rd.ri.at_ hk
  injection hA with hA
  injection hA with h1 h2 _
  subst h1 h2
  rw [Nat.zero_add] at hc
  rw [hc, tab_at f hk]
theorem Ow.tab_set (h : Ow iv w base e (some ⟨g, 0, none⟩) n c (tab n f)) {f' : Nat → Nat} (k : Nat) (v : Nat) (u : Value) (hk : k < n) (hu : u = .int .i64 (v : Nat)) (hf : ∀ i, i < n → (if i = k then v else f i) = f' i) :
    Ow iv (w.setCell ⟨g, k, none⟩ u) base e (some ⟨g, 0, none⟩) n c (tab n f') := by
  have := h.set k ((v : Nat) : Int) u hu
  rwa [Go.Proofs.Ytninidpbchcliaa.tab_set f v hk, tab_congr hf] at this
theorem Ow.drew' {α : Type} {enc : α → Value} {A : Option Addr} {l : List α} (h : Ow enc w base e A n c l) : Ow enc w.drew base e A n c l := h
end
end Go.Proofs.Ytninidpbchcliaa
