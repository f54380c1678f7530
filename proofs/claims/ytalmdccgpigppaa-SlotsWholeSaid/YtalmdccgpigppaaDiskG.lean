/- Contracts of the disk's law: Full, Few. -/
import Derived.Test.YtalmdccgpigppaaPlainDisk
import Derived.Test.YtalmdccgpigppaaMem
namespace Go.Proofs.Ytalmdccgpigppaa
open Go.RowKit
set_option linter.unusedVariables false
set_option linter.unusedSimpArgs false

theorem results_arr1 {P : Program} {w : World} {fn : Func} {p : Tmp} {ty : TypeId} (h : fn.results = #[.cell p ty]) (tmps : Array Value) {g n : Nat} {t e : TypeId} {cs : List Value}
    (hp : tmps.getD p undef = .pointer (some ⟨g, 0, none⟩)) (hb : Blk w g t cs) (hu : P.underlying ty = some (.array n e)) (hi : (P.info? ty).map (·.size) = some n) (hl : cs.length = n) :
    (results fn tmps).run P w = .ok (.agg cs.toArray) w := by
  have hp' : tmps[p]?.getD undef = .pointer (some ⟨g, 0, none⟩) := by simpa using hp
  simp [results, h, hp', asAddr, run_load_arr hb hu hi hl (by rw [List.drop_zero, List.take_of_length_le (by omega)])]
def fK (b : List UInt8) (k : Nat) : List UInt8 := (fullL b).take k ++ zerosL.drop k
theorem fK_len (b : List UInt8) {k : Nat} (h : k ≤ 128) : (fK b k).length = 128 := by
  unfold fK; rw [List.length_append, List.length_take, List.length_drop, fullL_len, zerosL_len]; omega
theorem fK_zero (b : List UInt8) : fK b 0 = zerosL := by simp [fK]
theorem fK_all (b : List UInt8) : fK b 128 = fullL b := by
  unfold fK; rw [List.take_of_length_le (by rw [fullL_len]; omega), List.drop_of_length_le (by rw [zerosL_len]; omega), List.append_nil]
theorem fK_succ (b : List UInt8) {k : Nat} (h : k < 128) : (fK b k).set k ((fullL b).getD k 0) = fK b (k + 1) := by
  unfold fK
  have h1 : ((fullL b).take k).length = k := by rw [List.length_take, fullL_len]; omega
  rw [List.set_append_right _ _ (by omega), h1, Nat.sub_self, List.drop_eq_getElem_cons (show k < zerosL.length by rw [zerosL_len]; omega), List.set_cons_zero, List.take_succ_eq_append_getElem (by rw [fullL_len]; exact h), List.append_assoc]
  congr 1
  rw [List.getD_eq_getElem?_getD, List.getElem?_eq_getElem (by rw [fullL_len]; exact h)]
  rfl
theorem fullL_at (b : List UInt8) {k : Nat} (h : k < 128) (hb : 0 < b.length) : (fullL b).getD k 0 = b.getD (k % b.length) 0 := by
  unfold fullL
  rw [List.getD_eq_getElem?_getD, List.getElem?_map, List.getElem?_range h]
  show (if b.length = 0 then 0 else b.getD (k % b.length) 0) = _
  rw [if_neg (by omega)]
theorem fullL_nil {b : List UInt8} (hb : b.length = 0) : fullL b = zerosL := by
  unfold fullL zerosL
  simp only [hb, if_true]
  rw [List.map_const', List.length_range]
/-- What a law goes through with. -/
def few6B (l : List DoV) : Bool := l.all (fun x => decide (x.b.length ≤ 200)) && decide (l.length ≤ 40)
theorem few6B_true {l : List DoV} (h : few6B l = true) : l.length ≤ 40 ∧ ∀ x ∈ l, x.b.length ≤ 200 := by
  unfold few6B at h
  rw [Bool.and_eq_true, List.all_eq_true, decide_eq_true_eq] at h
  exact ⟨h.2, fun x hx => of_decide_eq_true (h.1 x hx)⟩
theorem few6B_no {l : List DoV} {k : Nat} {x : DoV} (hx : l[k]? = some x) (h : 200 < x.b.length) : few6B l = false := by
  cases hq : few6B l with
  | false => rfl
  | true => have := (few6B_true hq).2 x (List.mem_of_getElem? hx); omega
theorem few6B_all {l : List DoV} (h : ∀ (k : Nat) (x : DoV), l[k]? = some x → x.b.length ≤ 200) : few6B l = decide (l.length ≤ 40) := by
  unfold few6B
  rw [show l.all (fun x => decide (x.b.length ≤ 200)) = true from by
    rw [List.all_eq_true]
    intro x hx
    obtain ⟨k, hk⟩ := List.getElem?_of_mem hx
    exact decide_eq_true (h k x hk), Bool.true_and]
end Go.Proofs.Ytalmdccgpigppaa
