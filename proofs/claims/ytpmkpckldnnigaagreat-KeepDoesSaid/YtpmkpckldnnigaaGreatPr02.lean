/- Parts: Tab, PlainNum. -/
import Derived.Test.YtpmkpckldnnigaaGreatPr01
import Derived.Laws.MakeOwn
namespace Go.Proofs.YtpmkpckldnnigaaGreat
open Go.RowKit

section
variable {w : World} {base g n c : Nat} {e : TypeId} {f : Nat → Nat}
end
end Go.Proofs.YtpmkpckldnnigaaGreat
namespace Go.Proofs.YtpmkpckldnnigaaGreat
open Go.RowKit

def tabB (n : Nat) (f : Nat → Nat) : List UInt8 := (List.range n).map fun i => UInt8.ofNat (f i)
theorem tabB_len (n : Nat) (f : Nat → Nat) : (tabB n f).length = n := by simp [tabB]
section
variable {w : World} {base g n c : Nat} {e : TypeId} {f : Nat → Nat}
end

theorem Ow.made {α : Type} {enc : α → Value} (w : World) (e : TypeId) (x : α) (z : Value) (n : Nat) (hz : z.cells = #[enc x]) (hm : n ≤ maxLen) :
    Ow enc (w.alloc (.cells (madeCells z.cells n) e)) w.heap.size e (some ⟨w.heap.size, 0, none⟩) n n (List.replicate n x) := by
  have := Ow.new (enc := enc) w e (madeCells z.cells n) (List.replicate n x) (by rw [hz, toList_madeCells_one]; simp) (by simpa using hm)
  simpa using this
end Go.Proofs.YtpmkpckldnnigaaGreat
namespace Go.Proofs.YtpmkpckldnnigaaGreat
open Go.RowKit

/-- A number as one without a sign, of 64 bits; and back. -/
def un (n : Int) : Nat := (n % 18446744073709551616).toNat
def sg (u : Nat) : Int := if u < 9223372036854775808 then (u : Int) else (u : Int) - 18446744073709551616
theorem un_lt (n : Int) : un n < 18446744073709551616 := by unfold un; omega
theorem sg_un {n : Int} (h0 : -9223372036854775808 ≤ n) (h1 : n ≤ 9223372036854775807) : sg (un n) = n := by unfold sg un; split <;> omega
/-- Eight bytes, the lowest first. -/
def putL (u : Nat) : List UInt8 := tabB 8 (fun i => u / 256 ^ i % 256)
/-- The number of bytes, the lowest first. -/
def getL : List UInt8 → Nat
  | [] => 0
  | c :: l => c.toNat + 256 * getL l
theorem putL_len (u : Nat) : (putL u).length = 8 := by simp [putL, tabB_len]
theorem getL_tab (u n : Nat) : getL (tabB n (fun i => u / 256 ^ i % 256)) = u % 256 ^ n := by
  induction n generalizing u with
  | zero => simp [tabB, getL, Nat.mod_one]
  | succ n ih =>
    have e : tabB (n + 1) (fun i => u / 256 ^ i % 256) = UInt8.ofNat (u % 256) :: tabB n (fun i => u / 256 / 256 ^ i % 256) := by
      unfold tabB
      rw [List.range_succ_eq_map, List.map_cons, List.map_map]
      congr 1
      · simp
      · apply List.map_congr_left
        intro i _
        simp only [Function.comp, Nat.succ_eq_add_one]
        rw [Nat.div_div_eq_div_mul, Nat.pow_succ, Nat.mul_comm 256]
    rw [e]
    simp only [getL]
    rw [ih, UInt8.toNat_ofNat_of_lt' (by simp [UInt8.size]; omega), Nat.pow_succ, Nat.mul_comm (256 ^ n) 256, Nat.mod_mul]
theorem getL_putL (u : Nat) (h : u < 18446744073709551616) : getL (putL u) = u := by
  unfold putL; rw [getL_tab]; exact Nat.mod_eq_of_lt (by omega)

/-- A number's digits, the lowest first: all but the last have 128 more. -/
def digL : Nat → Nat → List UInt8
  | 0, n => [UInt8.ofNat n]
  | f + 1, n => if n < 128 then [UInt8.ofNat n] else UInt8.ofNat (n % 128 + 128) :: digL f (n / 128)
/-- A number, turned: natural ones are doubled. -/
def zz (n : Int) : Nat := if 0 ≤ n then (2 * n).toNat else (-2 * n - 1).toNat
/-! ### What the readers answer -/
end Go.Proofs.YtpmkpckldnnigaaGreat
