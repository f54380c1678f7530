/- Lists of bytes by their places; an own slice of them; make. -/
import Derived.Test.YtninidpbchcliaaTab
import Derived.Laws.MakeOwn
namespace Go.Proofs.Ytninidpbchcliaa
open Go.RowKit

def tabB (n : Nat) (f : Nat → Nat) : List UInt8 := (List.range n).map fun i => UInt8.ofNat (f i)
theorem tabB_len (n : Nat) (f : Nat → Nat) : (tabB n f).length = n := by simp [tabB]
theorem tabB_at {n k : Nat} (f : Nat → Nat) (h : k < n) (hf : f k < 256) : byteAt (tabB n f) k = f k := by
  simp only [byteAt, tabB, List.getD_eq_getElem?_getD, List.getElem?_map, List.getElem?_range h, Option.map_some, Option.getD_some]
  exact UInt8.toNat_ofNat_of_lt' (by simp [UInt8.size]; omega)
theorem tabB_succ (n : Nat) (f : Nat → Nat) : tabB n f ++ [UInt8.ofNat (f n)] = tabB (n + 1) f := by simp [tabB, List.range_succ]
theorem tabB_congr {n : Nat} {f g : Nat → Nat} (h : ∀ i, i < n → f i = g i) : tabB n f = tabB n g := by
  unfold tabB; apply List.map_congr_left; intro i hi; rw [h i (List.mem_range.1 hi)]
theorem tabB_set {n k : Nat} (f : Nat → Nat) (v : Nat) (h : k < n) : (tabB n f).set k (UInt8.ofNat v) = tabB n (fun i => if i = k then v else f i) := by
  apply List.ext_getElem?
  intro i
  by_cases hi : i = k
  · subst hi
    rw [List.getElem?_set_self (by rw [tabB_len]; exact h)]
    simp [tabB, h]
  · rw [List.getElem?_set_ne (by omega)]
    rcases Nat.lt_or_ge i n with h1 | h1
    · simp [tabB, h1, hi]
    · rw [List.getElem?_eq_none (by rw [tabB_len]; exact h1), List.getElem?_eq_none (by rw [tabB_len]; exact h1)]
theorem tabB_take {n m : Nat} (f : Nat → Nat) (h : m ≤ n) : (tabB n f).take m = tabB m f := by
  unfold tabB; rw [← List.map_take, List.take_range]; congr 2; omega
theorem bv_ofNat {v : Nat} (h : v < 256) : bv (UInt8.ofNat v) = .int .u8 (v : Nat) := by
  unfold bv; rw [UInt8.toNat_ofNat_of_lt' (by simp [UInt8.size]; omega)]
section
variable {w : World} {base g n c : Nat} {e : TypeId} {f : Nat → Nat}
theorem Ow.tabB_set (h : Ow bv w base e (some ⟨g, 0, none⟩) n c (tabB n f)) {f' : Nat → Nat} (k : Nat) (v : Nat) (u : Value) (hk : k < n) (hv : v < 256) (hu : u = .int .u8 (v : Nat)) (hf : ∀ i, i < n → (if i = k then v else f i) = f' i) :
    Ow bv (w.setCell ⟨g, k, none⟩ u) base e (some ⟨g, 0, none⟩) n c (tabB n f') := by
  have := h.set k (UInt8.ofNat v) u (by rw [bv_ofNat hv]; exact hu)
  rwa [Go.Proofs.Ytninidpbchcliaa.tabB_set f v hk, tabB_congr hf] at this
end

theorem run_make_one {P : Program} {t e : TypeId} {z : Value} {bytes : Nat} (hE : ElemOf P t e z 1 bytes) (n : Nat) (hb : bytes * n ≤ 281474976710656) (h63 : n ≤ 9223372036854775807) (W : World) :
    (Instr.makeSlice t (.int .i64 (n : Int)) (.int .i64 (n : Int))).run P W = .ok (.slice (some ⟨W.heap.size, 0, none⟩) n n) (W.alloc (.cells (madeCells z.cells n) e)) := by
  obtain ⟨ht, ⟨i, hi, hz, hs, hby⟩, hzs, _⟩ := hE
  have h : (i.bytes : Int) * (n : Int) ≤ 281474976710656 := by
    rw [hby]
    have : ((bytes * n : Nat) : Int) ≤ 281474976710656 := by omega
    rwa [Int.natCast_mul] at this
  have hr := run_make (P := P) W t e i z ht hi hz .i64 .i64 n n (by omega) (by omega) h (by omega)
  simp only [Int.toNat_natCast, hs, Nat.mul_one] at hr
  exact hr
theorem Ow.made {α : Type} {enc : α → Value} (w : World) (e : TypeId) (x : α) (z : Value) (n : Nat) (hz : z.cells = #[enc x]) (hm : n ≤ maxLen) :
    Ow enc (w.alloc (.cells (madeCells z.cells n) e)) w.heap.size e (some ⟨w.heap.size, 0, none⟩) n n (List.replicate n x) := by
  have := Ow.new (enc := enc) w e (madeCells z.cells n) (List.replicate n x) (by rw [hz, toList_madeCells_one]; simp) (by simpa using hm)
  simpa using this
theorem tabB_zero (n : Nat) : List.replicate n (0 : UInt8) = tabB n (fun _ => 0) := by simp [tabB, List.map_const']
theorem tab_zero (n : Nat) : List.replicate n (0 : Int) = tab n (fun _ => 0) := by simp [tab, List.map_const']
end Go.Proofs.Ytninidpbchcliaa
