/- Parts: MeterB, Tab, PlainNum. -/
import Derived.Test.YtalmdccgpigppaaGreatPr01
import Derived.Laws.LoneSync
import Derived.Deep.WholeRow
import Derived.Test.YtalmdccgpigppaaGreatPr02
import Derived.Laws.MakeOwn
namespace Go.Proofs.YtalmdccgpigppaaGreat
open Go.RowKit

section
variable {P : Program} {f : FuncId} {fn : Func}
end

theorem aadd_any (g k : Nat) (x y : Int) (w : World) (hc : w.cell? ⟨g, k, none⟩ = some (.int .i64 x)) (hz : w.frozen? ⟨g, k, none⟩ = false) :
    Calls Tryz.prog 237 #[.pointer (some ⟨g, k, none⟩), .int .i64 y] w fun e w' => e = .returned (.int .i64 (wrap64 (x + y))) ∧ w.setCell ⟨g, k, none⟩ (.int .i64 (wrap64 (x + y))) = w' := by
  have hl := run_call_add (P := Tryz.prog) Tryz.func253 (by kernel_rfl) (by kernel_rfl) (by kernel_rfl) .i64 (by kernel_rfl) (y := y) (s := wrap64 (x + y)) hc hz (by simp [go_sem, wrap64, IntKind.wrap_i64])
  generalize wrap64 (x + y) = z at *
  go_enter Tryz.func237, Tryz.ntmps237
  go_wp2
  go_ret
  exact ⟨rfl, rfl⟩
theorem has_yes (g : Nat) (kind : Int) (w : World) (h1 : 1 ≤ kind) (h2 : kind ≤ 6) : Calls Tryz.prog 236 #[.pointer (some ⟨g, 0, none⟩), .int .i64 kind] w fun e w' => e = .returned (.bool true) ∧ w = w' := by
  go_enter Tryz.func236, Tryz.ntmps236
  go_wp2
  go_ret
  exact ⟨rfl, rfl⟩
theorem has_no (g : Nat) (kind : Int) (w : World) (h : ¬ (1 ≤ kind ∧ kind ≤ 6)) : Calls Tryz.prog 236 #[.pointer (some ⟨g, 0, none⟩), .int .i64 kind] w fun e w' => e = .returned (.bool false) ∧ w = w' := by
  have h' : kind < 1 ∨ (1 ≤ kind ∧ 6 < kind) := by omega
  clear h
  rcases h' with h | ⟨h1, h2⟩
  all_goals
    go_enter Tryz.func236, Tryz.ntmps236
    go_wp2
    go_ret
    exact ⟨ret_bool (by first | (simp; done) | (simp; omega)), rfl⟩
theorem has_nil (kind : Int) (w : World) : Calls Tryz.prog 236 #[.pointer none, .int .i64 kind] w fun e w' => e = .returned (.bool false) ∧ w = w' := by
  go_enter Tryz.func236, Tryz.ntmps236
  go_wp2
  go_ret
  exact ⟨rfl, rfl⟩

def MeterAt (w : World) (g : Nat) (l : List Int) : Prop := l.length = 6 ∧ Blk w g 311 (l.map iv)
def mPut (l : List Int) (kind x : Int) : List Int := l.set (kind - 1).toNat x
def mGet (l : List Int) (kind : Int) : Int := l.getD (kind - 1).toNat 0
theorem mPut_len (l : List Int) (kind x : Int) : (mPut l kind x).length = l.length := by simp [mPut]
theorem MeterAt.cell {w : World} {g : Nat} {l : List Int} (h : MeterAt w g l) (k : Nat) (hk : k < 6) : w.cell? ⟨g, k, none⟩ = some (.int .i64 (mGet l ((k : Int) + 1))) := by
  rw [h.2.cell]
  have : k < l.length := by rw [h.1]; exact hk
  unfold mGet iv
  rw [show ((k : Int) + 1 - 1).toNat = k from by omega]
  simp [List.getD_eq_getElem?_getD, this]
theorem MeterAt.put {w : World} {g : Nat} {l : List Int} (h : MeterAt w g l) (k : Nat) (x : Int) : MeterAt (w.setCell ⟨g, k, none⟩ (.int .i64 x)) g (mPut l ((k : Int) + 1) x) := by
  refine ⟨by rw [mPut_len]; exact h.1, ?_⟩
  unfold mPut
  rw [show ((k : Int) + 1 - 1).toNat = k from by omega, List.map_set]
  exact h.2.set_ k _
theorem newmeter_any (w : World) : Calls Tryz.prog 172 #[] w fun e w' => e = .returned (.pointer (some ⟨w.heap.size, 0, none⟩)) ∧ MeterAt w' w.heap.size [0, 0, 0, 0, 0, 0] ∧ Below w.heap.size w w' ∧ w'.heap.size = w.heap.size + 1 := by
  have hbu : ∀ w : World, (Instr.build 311 #[]).run Tryz.prog w = .ok (.agg #[.int .i64 0, .int .i64 0, .int .i64 0, .int .i64 0, .int .i64 0, .int .i64 0]) w := fun w => run_build w _ _ _ (by kernel_rfl)
  go_enter Tryz.func172, Tryz.ntmps172
  go_wp2
  go_ret
  exact ⟨rfl, ⟨rfl, Blk.top _ rfl rfl⟩, (by (repeat' (first | (with_reducible exact Below.refl _ _) | (with_reducible assumption) | (with_reducible refine Below.drew ?_) | (with_reducible refine below_drewN ?_ _) | (with_reducible refine Below.alloc ?_ ?_ _) | (with_reducible refine Below.setCell ?_ ?_ _) | omega | (simp; done) | (simp; omega)))), by simp⟩

theorem add_yes (g : Nat) (l : List Int) (kind n : Int) (w : World) (hm : MeterAt w g l) (h1 : 1 ≤ kind) (h2 : kind ≤ 6) :
    Calls Tryz.prog 227 #[.pointer (some ⟨g, 0, none⟩), .int .i64 kind, .int .i64 n] w fun e w' => e = .returned (.bool true) ∧ MeterAt w' g (mPut l kind (wrap64 (mGet l kind + n))) ∧ w.grownBy w' (some g) ∧ w'.heap.size = w.heap.size := by
  obtain ⟨k, rfl⟩ : ∃ k : Nat, kind = (k : Int) + 1 := ⟨(kind - 1).toNat, by omega⟩
  have hk : k < 6 := by omega
  have hc := hm.cell k hk
  have hz := hm.2.frozen k
  have hp := fun x => Lib.hid (hm.put k x)
  generalize mGet l ((k : Int) + 1) = x at *
  have hput : ∀ x, Hid (MeterAt (w.setCell ⟨g, k, none⟩ (.int .i64 x)) g (mPut l ((k : Int) + 1) x)) := hp
  clear hp
  go_enter Tryz.func227, Tryz.ntmps227
  go_wp2_with (first
    | (go_at_call 236; (with_reducible refine (has_yes _ _ _ h1 h2).mono ?_); rintro e w1 ⟨rfl, rfl⟩)
    | (go_at_call 237; (with_reducible refine (aadd_any _ _ _ _ _ hc hz).mono ?_); rintro e w1 ⟨rfl, rfl⟩))
  go_ret
  exact ⟨rfl, (hput _).out, grown_setCell _, by simp [World.setCell]⟩
/-- A kind that there is not, or a meter that is none. -/
def NoKind (A : Option Addr) (kind : Int) : Prop := (∃ g, A = some ⟨g, 0, none⟩ ∧ ¬ (1 ≤ kind ∧ kind ≤ 6)) ∨ A = none
theorem has_not (A : Option Addr) (kind : Int) (w : World) (h : NoKind A kind) : Calls Tryz.prog 236 #[.pointer A, .int .i64 kind] w fun e w' => e = .returned (.bool false) ∧ w = w' := by
  rcases h with ⟨g, rfl, h⟩ | rfl
  · exact has_no g kind w h
  · exact has_nil kind w
theorem add_no (A : Option Addr) (kind n : Int) (w : World) (h : NoKind A kind) : Calls Tryz.prog 227 #[.pointer A, .int .i64 kind, .int .i64 n] w fun e w' => e = .returned (.bool false) ∧ w = w' := by
  go_enter Tryz.func227, Tryz.ntmps227
  go_wp2_with (go_at_call 236; (with_reducible refine (has_not _ _ _ h).mono ?_); rintro e w1 ⟨rfl, rfl⟩)
  go_ret
  exact ⟨rfl, rfl⟩
end Go.Proofs.YtalmdccgpigppaaGreat
namespace Go.Proofs.YtalmdccgpigppaaGreat
open Go.RowKit
theorem MeterAt.alloc {w : World} {g : Nat} {l : List Int} (h : MeterAt w g l) (o : Obj) : MeterAt (w.alloc o) g l := ⟨h.1, h.2.alloc o⟩
theorem MeterAt.below {w w' : World} {g B : Nat} {l : List Int} (h : MeterAt w g l) (hb : Below B w w') (hg : g < B) : MeterAt w' g l := ⟨h.1, h.2.below hb hg⟩
theorem MeterAt.grown {w w' : World} {g : Nat} {row : Option Nat} {l : List Int} (h : MeterAt w g l) (hb : w.grownBy w' row) (hg : row ≠ some g) : MeterAt w' g l := ⟨h.1, h.2.grown hb hg⟩
theorem MeterAt.drewN {w : World} {g : Nat} {l : List Int} (h : MeterAt w g l) (n : Nat) : MeterAt (w.drewN n) g l := ⟨h.1, h.2.drewN n⟩
/-- Counts whatever the kind. -/
def inK (kind : Int) : Bool := decide (1 ≤ kind ∧ kind ≤ 6)
def mAdd (l : List Int) (kind n : Int) : List Int := if inK kind then mPut l kind (wrap64 (mGet l kind + n)) else l
theorem inK_yes {kind : Int} (h : inK kind = true) : 1 ≤ kind ∧ kind ≤ 6 := by simpa [inK] using h
theorem inK_no {kind : Int} {g : Nat} (h : inK kind = false) : NoKind (some ⟨g, 0, none⟩) kind := .inl ⟨g, rfl, by simpa [inK] using h⟩
theorem add_any (g : Nat) (l : List Int) (kind n : Int) (w : World) (hm : MeterAt w g l) :
    Calls Tryz.prog 227 #[.pointer (some ⟨g, 0, none⟩), .int .i64 kind, .int .i64 n] w fun e w' => e = .returned (.bool (inK kind)) ∧ MeterAt w' g (mAdd l kind n) ∧ w.grownBy w' (some g) ∧ w'.heap.size = w.heap.size := by
  cases h : inK kind with
  | true => unfold mAdd; rw [if_pos h]; exact add_yes g l kind n w hm (inK_yes h).1 (inK_yes h).2
  | false => unfold mAdd; rw [if_neg (by simp [h])]; exact (add_no _ kind n w (inK_no h)).mono fun e w' ⟨he, hw⟩ => by subst hw; exact ⟨he, hm, World.grownBy.refl _ _, rfl⟩
end Go.Proofs.YtalmdccgpigppaaGreat
namespace Go.Proofs.YtalmdccgpigppaaGreat
open Go.RowKit

/-- Numbers, by their places. -/
def tab (n : Nat) (f : Nat → Nat) : List Int := (List.range n).map fun i => (f i : Int)
def bit (x i : Nat) : Nat := x / 2 ^ i % 2
theorem tab_len (n : Nat) (f : Nat → Nat) : (tab n f).length = n := by simp [tab]
theorem tab_at {n k : Nat} (f : Nat → Nat) (h : k < n) : intAt (tab n f) k = (f k : Int) := by simp [intAt, tab, List.getD_eq_getElem?_getD, h]
theorem tab_succ (n : Nat) (f : Nat → Nat) : tab n f ++ [(f n : Int)] = tab (n + 1) f := by simp [tab, List.range_succ]
theorem tab_set {n k : Nat} (f : Nat → Nat) (v : Nat) (h : k < n) : (tab n f).set k (v : Int) = tab n (fun i => if i = k then v else f i) := by
  apply List.ext_getElem?
  intro i
  by_cases hi : i = k
  · subst hi
    rw [List.getElem?_set_self (by rw [tab_len]; exact h)]
    simp [tab, h]
  · rw [List.getElem?_set_ne (by omega)]
    rcases Nat.lt_or_ge i n with h1 | h1
    · simp [tab, h1, hi]
    · rw [List.getElem?_eq_none (by rw [tab_len]; exact h1), List.getElem?_eq_none (by rw [tab_len]; exact h1)]
theorem tab_congr {n : Nat} {f g : Nat → Nat} (h : ∀ i, i < n → f i = g i) : tab n f = tab n g := by
  unfold tab; apply List.map_congr_left; intro i hi; rw [h i (List.mem_range.1 hi)]

theorem bit_le (x i : Nat) : bit x i ≤ 1 := by unfold bit; omega
theorem bit_half (x i : Nat) : bit (x / 2) i = bit x (i + 1) := by unfold bit; rw [Nat.div_div_eq_div_mul, Nat.pow_succ, Nat.mul_comm]
theorem bit_xor (x y i : Nat) : bit (x ^^^ y) i = (bit x i + bit y i) % 2 := by
  unfold bit
  have h := Nat.testBit_xor x y i
  simp only [Nat.testBit_eq_decide_div_mod_eq] at h
  rcases Nat.mod_two_eq_zero_or_one (x / 2 ^ i) with hx | hx <;> rcases Nat.mod_two_eq_zero_or_one (y / 2 ^ i) with hy | hy <;> rcases Nat.mod_two_eq_zero_or_one ((x ^^^ y) / 2 ^ i) with hz | hz <;> simp [hx, hy, hz] at h ⊢
theorem bit_high {x n i : Nat} (h : x < 2 ^ n) (hi : n ≤ i) : bit x i = 0 := by
  unfold bit; rw [Nat.div_eq_of_lt (Nat.lt_of_lt_of_le h (Nat.pow_le_pow_right (by omega) hi))]

section
variable {w : World} {base g n c : Nat} {e : TypeId} {f : Nat → Nat}
theorem Ow.tab_cell (h : Ow iv w base e (some ⟨g, 0, none⟩) n c (tab n f)) {k : Nat} (hk : k < n) : w.cell? ⟨g, k, none⟩ = some (.int .i64 (f k : Nat)) := by
  obtain ⟨b, o, hA, _, hc⟩ := h.rd.ri.at_ hk
  injection hA with hA
  injection hA with h1 h2 _
  subst h1 h2
  rw [Nat.zero_add] at hc
  rw [hc, tab_at f hk]
theorem Ow.tab_set (h : Ow iv w base e (some ⟨g, 0, none⟩) n c (tab n f)) {f' : Nat → Nat} (k : Nat) (v : Nat) (u : Value) (hk : k < n) (hu : u = .int .i64 (v : Nat)) (hf : ∀ i, i < n → (if i = k then v else f i) = f' i) :
    Ow iv (w.setCell ⟨g, k, none⟩ u) base e (some ⟨g, 0, none⟩) n c (tab n f') := by
  have := h.set k ((v : Nat) : Int) u hu
  rwa [Go.Proofs.YtalmdccgpigppaaGreat.tab_set f v hk, tab_congr hf] at this
theorem Ow.drew' {α : Type} {enc : α → Value} {A : Option Addr} {l : List α} (h : Ow enc w base e A n c l) : Ow enc w.drew base e A n c l := h
end
end Go.Proofs.YtalmdccgpigppaaGreat
namespace Go.Proofs.YtalmdccgpigppaaGreat
open Go.RowKit

def tabB (n : Nat) (f : Nat → Nat) : List UInt8 := (List.range n).map fun i => UInt8.ofNat (f i)
theorem tabB_len (n : Nat) (f : Nat → Nat) : (tabB n f).length = n := by simp [tabB]
theorem tabB_at {n k : Nat} (f : Nat → Nat) (h : k < n) (hf : f k < 256) : byteAt (tabB n f) k = f k := by
  simp only [byteAt, tabB, List.getD_eq_getElem?_getD, List.getElem?_map, List.getElem?_range h, Option.map_some, Option.getD_some]
  exact UInt8.toNat_ofNat_of_lt' (by simp [UInt8.size]; omega)
theorem tabB_succ (n : Nat) (f : Nat → Nat) : tabB n f ++ [UInt8.ofNat (f n)] = tabB (n + 1) f := by simp [tabB, List.range_succ]
theorem tabB_congr {n : Nat} {f g : Nat → Nat} (h : ∀ i, i < n → f i = g i) : tabB n f = tabB n g := by
  unfold tabB; apply List.map_congr_left; intro i hi; rw [h i (List.mem_range.1 hi)]
theorem tabB_set {n k : Nat} (f : Nat → Nat) (v : Nat) (h : k < n) : (tabB n f).set k (UInt8.ofNat v) = tabB n (fun i => if i = k then v else f i) := by
  apply List.ext_getElem?
  intro i
  by_cases hi : i = k
  · subst hi
    rw [List.getElem?_set_self (by rw [tabB_len]; exact h)]
    simp [tabB, h]
  · rw [List.getElem?_set_ne (by omega)]
    rcases Nat.lt_or_ge i n with h1 | h1
    · simp [tabB, h1, hi]
    · rw [List.getElem?_eq_none (by rw [tabB_len]; exact h1), List.getElem?_eq_none (by rw [tabB_len]; exact h1)]
theorem tabB_take {n m : Nat} (f : Nat → Nat) (h : m ≤ n) : (tabB n f).take m = tabB m f := by
  unfold tabB; rw [← List.map_take, List.take_range]; congr 2; omega
theorem bv_ofNat {v : Nat} (h : v < 256) : bv (UInt8.ofNat v) = .int .u8 (v : Nat) := by
  unfold bv; rw [UInt8.toNat_ofNat_of_lt' (by simp [UInt8.size]; omega)]
section
variable {w : World} {base g n c : Nat} {e : TypeId} {f : Nat → Nat}
theorem Ow.tabB_set (h : Ow bv w base e (some ⟨g, 0, none⟩) n c (tabB n f)) {f' : Nat → Nat} (k : Nat) (v : Nat) (u : Value) (hk : k < n) (hv : v < 256) (hu : u = .int .u8 (v : Nat)) (hf : ∀ i, i < n → (if i = k then v else f i) = f' i) :
    Ow bv (w.setCell ⟨g, k, none⟩ u) base e (some ⟨g, 0, none⟩) n c (tabB n f') := by
  have := h.set k (UInt8.ofNat v) u (by rw [bv_ofNat hv]; exact hu)
  rwa [Go.Proofs.YtalmdccgpigppaaGreat.tabB_set f v hk, tabB_congr hf] at this
end

theorem run_make_one {P : Program} {t e : TypeId} {z : Value} {bytes : Nat} (hE : ElemOf P t e z 1 bytes) (n : Nat) (hb : bytes * n ≤ 281474976710656) (h63 : n ≤ 9223372036854775807) (W : World) :
    (Instr.makeSlice t (.int .i64 (n : Int)) (.int .i64 (n : Int))).run P W = .ok (.slice (some ⟨W.heap.size, 0, none⟩) n n) (W.alloc (.cells (madeCells z.cells n) e)) := by
  obtain ⟨ht, ⟨i, hi, hz, hs, hby⟩, hzs, _⟩ := hE
  have h : (i.bytes : Int) * (n : Int) ≤ 281474976710656 := by
    rw [hby]
    have : ((bytes * n : Nat) : Int) ≤ 281474976710656 := by omega
    rwa [Int.natCast_mul] at this
  have hr := run_make (P := P) W t e i z ht hi hz .i64 .i64 n n (by omega) (by omega) h (by omega)
  simp only [Int.toNat_natCast, hs, Nat.mul_one] at hr
  exact hr
theorem Ow.made {α : Type} {enc : α → Value} (w : World) (e : TypeId) (x : α) (z : Value) (n : Nat) (hz : z.cells = #[enc x]) (hm : n ≤ maxLen) :
    Ow enc (w.alloc (.cells (madeCells z.cells n) e)) w.heap.size e (some ⟨w.heap.size, 0, none⟩) n n (List.replicate n x) := by
  have := Ow.new (enc := enc) w e (madeCells z.cells n) (List.replicate n x) (by rw [hz, toList_madeCells_one]; simp) (by simpa using hm)
  simpa using this
theorem tabB_zero (n : Nat) : List.replicate n (0 : UInt8) = tabB n (fun _ => 0) := by simp [tabB, List.map_const']
end Go.Proofs.YtalmdccgpigppaaGreat
namespace Go.Proofs.YtalmdccgpigppaaGreat
open Go.RowKit

/-- A number as one without a sign, of 64 bits; and back. -/
def un (n : Int) : Nat := (n % 18446744073709551616).toNat
def sg (u : Nat) : Int := if u < 9223372036854775808 then (u : Int) else (u : Int) - 18446744073709551616
theorem un_lt (n : Int) : un n < 18446744073709551616 := by unfold un; omega
theorem sg_un {n : Int} (h0 : -9223372036854775808 ≤ n) (h1 : n ≤ 9223372036854775807) : sg (un n) = n := by unfold sg un; split <;> omega
theorem un_sg {u : Nat} (h : u < 18446744073709551616) : un (sg u) = u := by unfold sg un; split <;> omega
theorem sg_bd {u : Nat} (h : u < 18446744073709551616) : -9223372036854775808 ≤ sg u ∧ sg u ≤ 9223372036854775807 := by unfold sg; split <;> omega
theorem wrap_un (n : Int) : IntKind.u64.wrap n = (un n : Nat) := by rw [IntKind.wrap_u64]; unfold un; omega
theorem wrap_sg {u : Nat} (h : u < 18446744073709551616) : IntKind.i64.wrap (u : Int) = sg u := by rw [IntKind.wrap_i64]; unfold sg; split <;> omega

/-- Eight bytes, the lowest first. -/
def putL (u : Nat) : List UInt8 := tabB 8 (fun i => u / 256 ^ i % 256)
/-- The number of bytes, the lowest first. -/
def getL : List UInt8 → Nat
  | [] => 0
  | c :: l => c.toNat + 256 * getL l
theorem getL_lt (l : List UInt8) : getL l < 256 ^ l.length := by
  induction l with
  | nil => simp [getL]
  | cons c l ih =>
    have := c.toNat_lt
    simp only [getL, List.length_cons, Nat.pow_succ]
    omega
theorem putL_len (u : Nat) : (putL u).length = 8 := by simp [putL, tabB_len]
theorem getL_tab (u n : Nat) : getL (tabB n (fun i => u / 256 ^ i % 256)) = u % 256 ^ n := by
  induction n generalizing u with
  | zero => simp [tabB, getL, Nat.mod_one]
  | succ n ih =>
    have e : tabB (n + 1) (fun i => u / 256 ^ i % 256) = UInt8.ofNat (u % 256) :: tabB n (fun i => u / 256 / 256 ^ i % 256) := by
      unfold tabB
      rw [List.range_succ_eq_map, List.map_cons, List.map_map]
      congr 1
      · simp
      · apply List.map_congr_left
        intro i _
        simp only [Function.comp, Nat.succ_eq_add_one]
        rw [Nat.div_div_eq_div_mul, Nat.pow_succ, Nat.mul_comm 256]
    rw [e]
    simp only [getL]
    rw [ih, UInt8.toNat_ofNat_of_lt' (by simp [UInt8.size]; omega), Nat.pow_succ, Nat.mul_comm (256 ^ n) 256, Nat.mod_mul]
theorem getL_putL (u : Nat) (h : u < 18446744073709551616) : getL (putL u) = u := by
  unfold putL; rw [getL_tab]; exact Nat.mod_eq_of_lt (by omega)

/-- How many bytes a number's short bytes have that a list begins with, at most so many, from place i on; the error. -/
def endsL (most : Nat) : Nat → List UInt8 → Nat × Nat
  | i, [] => (0, if i < most then 10 else 11)
  | i, c :: l => if most ≤ i then (0, 11) else if c.toNat < 128 then (if 0 < i ∧ c.toNat = 0 then (0, 11) else (i + 1, 0)) else endsL most (i + 1) l
/-- The number of digits to the base 128, the lowest first. -/
def sevL : List UInt8 → Nat
  | [] => 0
  | c :: l => c.toNat % 128 + 128 * sevL l
/-- A number's digits, the lowest first: all but the last have 128 more. -/
def digL : Nat → Nat → List UInt8
  | 0, n => [UInt8.ofNat n]
  | f + 1, n => if n < 128 then [UInt8.ofNat n] else UInt8.ofNat (n % 128 + 128) :: digL f (n / 128)
/-- A number, turned: natural ones are doubled. -/
def zz (n : Int) : Nat := if 0 ≤ n then (2 * n).toNat else (-2 * n - 1).toNat
def unzz (u : Nat) : Int := if u % 2 = 0 then ((u / 2 : Nat) : Int) else -((u / 2 : Nat) : Int) - 1
theorem unzz_zz (n : Int) : unzz (zz n) = n := by
  unfold unzz zz
  by_cases h : 0 ≤ n
  · rw [if_pos h, if_pos (by omega)]; omega
  · rw [if_neg h, if_neg (by omega)]; omega
theorem zz_unzz (u : Nat) : zz (unzz u) = u := by
  unfold unzz
  by_cases h : u % 2 = 0
  · rw [if_pos h]; unfold zz; rw [if_pos (by omega)]; omega
  · rw [if_neg h]; unfold zz; rw [if_neg (by omega)]; omega
theorem zz_lt {n : Int} (h0 : -9223372036854775808 ≤ n) (h1 : n ≤ 9223372036854775807) : zz n < 18446744073709551616 := by unfold zz; split <;> omega
theorem unzz_bd {u : Nat} (h : u < 18446744073709551616) : -9223372036854775808 ≤ unzz u ∧ unzz u ≤ 9223372036854775807 := by unfold unzz; split <;> omega
theorem sevL_append (a b : List UInt8) : sevL (a ++ b) = sevL a + 128 ^ a.length * sevL b := by
  induction a with
  | nil => simp [sevL]
  | cons c a ih =>
    simp only [List.cons_append, sevL, List.length_cons, ih, Nat.pow_succ, Nat.mul_add]
    rw [← Nat.mul_assoc, Nat.mul_comm 128 (128 ^ a.length)]; omega
theorem sevL_lt (l : List UInt8) : sevL l < 128 ^ l.length := by
  induction l with
  | nil => simp [sevL]
  | cons c l ih => simp only [sevL, List.length_cons, Nat.pow_succ]; omega
theorem digL_lt' {f n : Nat} (h : n < 128) : digL f n = [UInt8.ofNat n] := by
  cases f with
  | zero => rfl
  | succ f => unfold digL; rw [if_pos h]
theorem digL_len (f : Nat) : ∀ n, (digL f n).length ≤ f + 1 ∧ 1 ≤ (digL f n).length := by
  induction f with
  | zero => intro n; simp [digL]
  | succ f ih =>
    intro n
    unfold digL
    split
    · simp
    · have := ih (n / 128); simp; omega

/-! ### What the readers answer -/
theorem endsL_le (most : Nat) (l : List UInt8) : ∀ i, (endsL most i l).2 = 0 → i < (endsL most i l).1 ∧ (endsL most i l).1 ≤ most ∧ (endsL most i l).1 ≤ i + l.length := by
  induction l with
  | nil => intro i h; unfold endsL at h; split at h <;> simp at h
  | cons c l ih =>
    intro i h
    unfold endsL at h ⊢
    by_cases h1 : most ≤ i
    · simp [h1] at h
    · rw [if_neg h1] at h ⊢
      by_cases h2 : c.toNat < 128
      · rw [if_pos h2] at h ⊢
        by_cases h3 : 0 < i ∧ c.toNat = 0
        · rw [if_pos h3] at h; simp at h
        · rw [if_neg h3]; simp only [List.length_cons]; omega
      · rw [if_neg h2] at h ⊢
        have := ih (i + 1) h
        simp only [List.length_cons]; omega
theorem endsL_err (most : Nat) (l : List UInt8) : ∀ i, (endsL most i l).2 ≠ 0 → (endsL most i l).1 = 0 ∧ ((endsL most i l).2 = 10 ∨ (endsL most i l).2 = 11) := by
  induction l with
  | nil => intro i _; unfold endsL; split <;> simp
  | cons c l ih =>
    intro i h
    unfold endsL at h ⊢
    by_cases h1 : most ≤ i
    · simp [h1]
    · rw [if_neg h1] at h ⊢
      by_cases h2 : c.toNat < 128
      · rw [if_pos h2] at h ⊢
        by_cases h3 : 0 < i ∧ c.toNat = 0
        · rw [if_pos h3]; simp
        · rw [if_neg h3] at h; simp at h
      · rw [if_neg h2] at h ⊢
        exact ih (i + 1) h
end Go.Proofs.YtalmdccgpigppaaGreat
