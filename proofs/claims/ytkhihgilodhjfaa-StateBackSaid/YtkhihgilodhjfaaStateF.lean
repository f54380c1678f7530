/- The contract of the reference's Read of state. -/
import Derived.Test.YtkhihgilodhjfaaStateE
namespace Go.Proofs.Ytkhihgilodhjfaa
open Go.RowKit

theorem run_cut_mid {P : Program} {t e : TypeId} {z : Value} {size bytes : Nat} (hE : ElemOf P t e z size bytes) (A : Option Addr) (len cap lo hi : Nat) (h : lo ≤ hi) (h2 : hi ≤ cap) (W : World) :
    (Instr.slice t (.slice A len cap) (some (.int .i64 (lo : Int))) (some (.int .i64 (hi : Int))) none).run P W = .ok (.slice (if cap = lo then A else A.map (·.add (lo * size))) (hi - lo) (cap - lo)) W := by
  obtain ⟨ht, ⟨i, hi', _, hs, _⟩, _⟩ := hE
  have hb : (0 : Int) ≤ (lo : Int) ∧ (lo : Int) ≤ (hi : Int) := by omega
  have hb2 : (0 : Int) ≤ (hi : Int) ∧ (hi : Int) ≤ (cap : Int) := by omega
  simp [Instr.slice, run_underlying ht, Instr.sliceBounds, Instr.sliceBound, hb, hb2, sizeOf, typeInfo, hi', asIntOf, hs]
  rw [if_pos h2, if_pos h]
theorem mid_rb {w : World} {A : Option Addr} {n c k m : Nat} {l : List UInt8} (h : RB w A n l) (hk : k + m ≤ n) (hc : n ≤ c) : RB w (if c = k then A else A.map (·.add (k * 1))) m ((l.drop k).take m) :=
  (cut_rb h (by omega) hc).less (by omega)
theorem cut_ri {w : World} {A : Option Addr} {n c k : Nat} {l : List Int} (h : RI w A n l) (hk : k ≤ n) (hc : n ≤ c) : RI w (if c = k then A else A.map (·.add (k * 1))) (n - k) (l.drop k) := by
  refine ⟨by rw [List.length_drop, h.1], ?_⟩
  have := h.2.cut hk hc
  rw [Nat.mul_one]
  exact this.congr fun i hi => by unfold intAt; simp [List.getD_eq_getElem?_getD]
def numsK (bs : List UInt8) (k : Nat) : List Int := (List.range k).map fun k => numAt bs (8 * k)
theorem numsK_split (bs : List UInt8) (n : Nat) : numsK bs (n + 2) = numAt bs 0 :: numAt bs 8 :: cellsK bs n := by
  unfold numsK cellsK
  rw [List.range_succ_eq_map, List.range_succ_eq_map]
  simp only [List.map_cons, List.map_map, Nat.mul_zero]
  congr 2
  apply List.map_congr_left
  intro k _
  show numAt bs (8 * (k + 1 + 1)) = numAt bs (16 + 8 * k)
  congr 1; omega

end Go.Proofs.Ytkhihgilodhjfaa
