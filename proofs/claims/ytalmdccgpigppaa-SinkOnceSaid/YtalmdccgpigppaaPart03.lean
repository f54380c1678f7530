/- Parts: Tab, PlainNum, NumA, PlainA, Crc, PlainSeal. -/
import Derived.Test.YtalmdccgpigppaaPart01
import Derived.Laws.MakeOwn
import Derived.WalkKit
import Derived.Test.YtalmdccgpigppaaPart00
import Derived.Laws.CopyOwn
namespace Go.Proofs.Ytalmdccgpigppaa
open Go.RowKit

/-- Numbers, by their places. -/
def tab (n : Nat) (f : Nat → Nat) : List Int := (List.range n).map fun i => (f i : Int)
def bit (x i : Nat) : Nat := x / 2 ^ i % 2
theorem tab_len (n : Nat) (f : Nat → Nat) : (tab n f).length = n := by simp [tab]
theorem tab_at {n k : Nat} (f : Nat → Nat) (h : k < n) : intAt (tab n f) k = (f k : Int) := by simp [intAt, tab, List.getD_eq_getElem?_getD, h]
theorem tab_succ (n : Nat) (f : Nat → Nat) : tab n f ++ [(f n : Int)] = tab (n + 1) f := by simp [tab, List.range_succ]
theorem tab_set {n k : Nat} (f : Nat → Nat) (v : Nat) (h : k < n) : (tab n f).set k (v : Int) = tab n (fun i => if i = k then v else f i) := by
  apply List.ext_getElem?
  intro i
  by_cases hi : i = k
  · subst hi
    rw [List.getElem?_set_self (by rw [tab_len]; exact h)]
    simp [tab, h]
  · rw [List.getElem?_set_ne (by omega)]
    rcases Nat.lt_or_ge i n with h1 | h1
    · simp [tab, h1, hi]
    · rw [List.getElem?_eq_none (by rw [tab_len]; exact h1), List.getElem?_eq_none (by rw [tab_len]; exact h1)]
theorem tab_congr {n : Nat} {f g : Nat → Nat} (h : ∀ i, i < n → f i = g i) : tab n f = tab n g := by
  unfold tab; apply List.map_congr_left; intro i hi; rw [h i (List.mem_range.1 hi)]

theorem bit_le (x i : Nat) : bit x i ≤ 1 := by unfold bit; omega
theorem bit_half (x i : Nat) : bit (x / 2) i = bit x (i + 1) := by unfold bit; rw [Nat.div_div_eq_div_mul, Nat.pow_succ, Nat.mul_comm]
theorem bit_xor (x y i : Nat) : bit (x ^^^ y) i = (bit x i + bit y i) % 2 := by
  unfold bit
  have h := Nat.testBit_xor x y i
  simp only [Nat.testBit_eq_decide_div_mod_eq] at h
  rcases Nat.mod_two_eq_zero_or_one (x / 2 ^ i) with hx | hx <;> rcases Nat.mod_two_eq_zero_or_one (y / 2 ^ i) with hy | hy <;> rcases Nat.mod_two_eq_zero_or_one ((x ^^^ y) / 2 ^ i) with hz | hz <;> simp [hx, hy, hz] at h ⊢
theorem bit_high {x n i : Nat} (h : x < 2 ^ n) (hi : n ≤ i) : bit x i = 0 := by
  unfold bit; rw [Nat.div_eq_of_lt (Nat.lt_of_lt_of_le h (Nat.pow_le_pow_right (by omega) hi))]

section
variable {w : World} {base g n c : Nat} {e : TypeId} {f : Nat → Nat}
theorem Ow.tab_cell (h : Ow iv w base e (some ⟨g, 0, none⟩) n c (tab n f)) {k : Nat} (hk : k < n) : w.cell? ⟨g, k, none⟩ = some (.int .i64 (f k : Nat)) := by
  obtain ⟨b, o, hA, _, hc⟩ := h.rd.ri.at_ hk
  injection hA with hA
  injection hA with h1 h2 _
  subst h1 h2
  rw [Nat.zero_add] at hc
  rw [hc, tab_at f hk]
theorem Ow.tab_set (h : Ow iv w base e (some ⟨g, 0, none⟩) n c (tab n f)) {f' : Nat → Nat} (k : Nat) (v : Nat) (u : Value) (hk : k < n) (hu : u = .int .i64 (v : Nat)) (hf : ∀ i, i < n → (if i = k then v else f i) = f' i) :
    Ow iv (w.setCell ⟨g, k, none⟩ u) base e (some ⟨g, 0, none⟩) n c (tab n f') := by
  have := h.set k ((v : Nat) : Int) u hu
  rwa [Go.Proofs.Ytalmdccgpigppaa.tab_set f v hk, tab_congr hf] at this
theorem Ow.drew' {α : Type} {enc : α → Value} {A : Option Addr} {l : List α} (h : Ow enc w base e A n c l) : Ow enc w.drew base e A n c l := h
end
end Go.Proofs.Ytalmdccgpigppaa
namespace Go.Proofs.Ytalmdccgpigppaa
open Go.RowKit

def tabB (n : Nat) (f : Nat → Nat) : List UInt8 := (List.range n).map fun i => UInt8.ofNat (f i)
theorem tabB_len (n : Nat) (f : Nat → Nat) : (tabB n f).length = n := by simp [tabB]
theorem tabB_at {n k : Nat} (f : Nat → Nat) (h : k < n) (hf : f k < 256) : byteAt (tabB n f) k = f k := by
  simp only [byteAt, tabB, List.getD_eq_getElem?_getD, List.getElem?_map, List.getElem?_range h, Option.map_some, Option.getD_some]
  exact UInt8.toNat_ofNat_of_lt' (by simp [UInt8.size]; omega)
theorem tabB_succ (n : Nat) (f : Nat → Nat) : tabB n f ++ [UInt8.ofNat (f n)] = tabB (n + 1) f := by simp [tabB, List.range_succ]
theorem tabB_congr {n : Nat} {f g : Nat → Nat} (h : ∀ i, i < n → f i = g i) : tabB n f = tabB n g := by
  unfold tabB; apply List.map_congr_left; intro i hi; rw [h i (List.mem_range.1 hi)]
theorem tabB_set {n k : Nat} (f : Nat → Nat) (v : Nat) (h : k < n) : (tabB n f).set k (UInt8.ofNat v) = tabB n (fun i => if i = k then v else f i) := by
  apply List.ext_getElem?
  intro i
  by_cases hi : i = k
  · subst hi
    rw [List.getElem?_set_self (by rw [tabB_len]; exact h)]
    simp [tabB, h]
  · rw [List.getElem?_set_ne (by omega)]
    rcases Nat.lt_or_ge i n with h1 | h1
    · simp [tabB, h1, hi]
    · rw [List.getElem?_eq_none (by rw [tabB_len]; exact h1), List.getElem?_eq_none (by rw [tabB_len]; exact h1)]
theorem tabB_take {n m : Nat} (f : Nat → Nat) (h : m ≤ n) : (tabB n f).take m = tabB m f := by
  unfold tabB; rw [← List.map_take, List.take_range]; congr 2; omega
theorem bv_ofNat {v : Nat} (h : v < 256) : bv (UInt8.ofNat v) = .int .u8 (v : Nat) := by
  unfold bv; rw [UInt8.toNat_ofNat_of_lt' (by simp [UInt8.size]; omega)]
section
variable {w : World} {base g n c : Nat} {e : TypeId} {f : Nat → Nat}
theorem Ow.tabB_set (h : Ow bv w base e (some ⟨g, 0, none⟩) n c (tabB n f)) {f' : Nat → Nat} (k : Nat) (v : Nat) (u : Value) (hk : k < n) (hv : v < 256) (hu : u = .int .u8 (v : Nat)) (hf : ∀ i, i < n → (if i = k then v else f i) = f' i) :
    Ow bv (w.setCell ⟨g, k, none⟩ u) base e (some ⟨g, 0, none⟩) n c (tabB n f') := by
  have := h.set k (UInt8.ofNat v) u (by rw [bv_ofNat hv]; exact hu)
  rwa [Go.Proofs.Ytalmdccgpigppaa.tabB_set f v hk, tabB_congr hf] at this
end

theorem run_make_one {P : Program} {t e : TypeId} {z : Value} {bytes : Nat} (hE : ElemOf P t e z 1 bytes) (n : Nat) (hb : bytes * n ≤ 281474976710656) (h63 : n ≤ 9223372036854775807) (W : World) :
    (Instr.makeSlice t (.int .i64 (n : Int)) (.int .i64 (n : Int))).run P W = .ok (.slice (some ⟨W.heap.size, 0, none⟩) n n) (W.alloc (.cells (madeCells z.cells n) e)) := by
  obtain ⟨ht, ⟨i, hi, hz, hs, hby⟩, hzs, _⟩ := hE
  have h : (i.bytes : Int) * (n : Int) ≤ 281474976710656 := by
    rw [hby]
    have : ((bytes * n : Nat) : Int) ≤ 281474976710656 := by omega
    rwa [Int.natCast_mul] at this
  have hr := run_make (P := P) W t e i z ht hi hz .i64 .i64 n n (by omega) (by omega) h (by omega)
  simp only [Int.toNat_natCast, hs, Nat.mul_one] at hr
  exact hr
theorem Ow.made {α : Type} {enc : α → Value} (w : World) (e : TypeId) (x : α) (z : Value) (n : Nat) (hz : z.cells = #[enc x]) (hm : n ≤ maxLen) :
    Ow enc (w.alloc (.cells (madeCells z.cells n) e)) w.heap.size e (some ⟨w.heap.size, 0, none⟩) n n (List.replicate n x) := by
  have := Ow.new (enc := enc) w e (madeCells z.cells n) (List.replicate n x) (by rw [hz, toList_madeCells_one]; simp) (by simpa using hm)
  simpa using this
theorem tabB_zero (n : Nat) : List.replicate n (0 : UInt8) = tabB n (fun _ => 0) := by simp [tabB, List.map_const']
theorem tab_zero (n : Nat) : List.replicate n (0 : Int) = tab n (fun _ => 0) := by simp [tab, List.map_const']
end Go.Proofs.Ytalmdccgpigppaa
namespace Go.Proofs.Ytalmdccgpigppaa
open Go.RowKit

/-- A number as one without a sign, of 64 bits; and back. -/
def un (n : Int) : Nat := (n % 18446744073709551616).toNat
def sg (u : Nat) : Int := if u < 9223372036854775808 then (u : Int) else (u : Int) - 18446744073709551616
theorem un_lt (n : Int) : un n < 18446744073709551616 := by unfold un; omega
theorem sg_un {n : Int} (h0 : -9223372036854775808 ≤ n) (h1 : n ≤ 9223372036854775807) : sg (un n) = n := by unfold sg un; split <;> omega
theorem un_sg {u : Nat} (h : u < 18446744073709551616) : un (sg u) = u := by unfold sg un; split <;> omega
theorem sg_bd {u : Nat} (h : u < 18446744073709551616) : -9223372036854775808 ≤ sg u ∧ sg u ≤ 9223372036854775807 := by unfold sg; split <;> omega
theorem wrap_un (n : Int) : IntKind.u64.wrap n = (un n : Nat) := by rw [IntKind.wrap_u64]; unfold un; omega
theorem wrap_sg {u : Nat} (h : u < 18446744073709551616) : IntKind.i64.wrap (u : Int) = sg u := by rw [IntKind.wrap_i64]; unfold sg; split <;> omega

/-- Eight bytes, the lowest first. -/
def putL (u : Nat) : List UInt8 := tabB 8 (fun i => u / 256 ^ i % 256)
/-- The number of bytes, the lowest first. -/
def getL : List UInt8 → Nat
  | [] => 0
  | c :: l => c.toNat + 256 * getL l
theorem getL_lt (l : List UInt8) : getL l < 256 ^ l.length := by
  induction l with
  | nil => simp [getL]
  | cons c l ih =>
    have := c.toNat_lt
    simp only [getL, List.length_cons, Nat.pow_succ]
    omega
theorem putL_len (u : Nat) : (putL u).length = 8 := by simp [putL, tabB_len]
theorem getL_tab (u n : Nat) : getL (tabB n (fun i => u / 256 ^ i % 256)) = u % 256 ^ n := by
  induction n generalizing u with
  | zero => simp [tabB, getL, Nat.mod_one]
  | succ n ih =>
    have e : tabB (n + 1) (fun i => u / 256 ^ i % 256) = UInt8.ofNat (u % 256) :: tabB n (fun i => u / 256 / 256 ^ i % 256) := by
      unfold tabB
      rw [List.range_succ_eq_map, List.map_cons, List.map_map]
      congr 1
      · simp
      · apply List.map_congr_left
        intro i _
        simp only [Function.comp, Nat.succ_eq_add_one]
        rw [Nat.div_div_eq_div_mul, Nat.pow_succ, Nat.mul_comm 256]
    rw [e]
    simp only [getL]
    rw [ih, UInt8.toNat_ofNat_of_lt' (by simp [UInt8.size]; omega), Nat.pow_succ, Nat.mul_comm (256 ^ n) 256, Nat.mod_mul]
theorem getL_putL (u : Nat) (h : u < 18446744073709551616) : getL (putL u) = u := by
  unfold putL; rw [getL_tab]; exact Nat.mod_eq_of_lt (by omega)

/-- How many bytes a number's short bytes have that a list begins with, at most so many, from place i on; the error. -/
def endsL (most : Nat) : Nat → List UInt8 → Nat × Nat
  | i, [] => (0, if i < most then 10 else 11)
  | i, c :: l => if most ≤ i then (0, 11) else if c.toNat < 128 then (if 0 < i ∧ c.toNat = 0 then (0, 11) else (i + 1, 0)) else endsL most (i + 1) l
/-- The number of digits to the base 128, the lowest first. -/
def sevL : List UInt8 → Nat
  | [] => 0
  | c :: l => c.toNat % 128 + 128 * sevL l
/-- A number's digits, the lowest first: all but the last have 128 more. -/
def digL : Nat → Nat → List UInt8
  | 0, n => [UInt8.ofNat n]
  | f + 1, n => if n < 128 then [UInt8.ofNat n] else UInt8.ofNat (n % 128 + 128) :: digL f (n / 128)
/-- A number, turned: natural ones are doubled. -/
def zz (n : Int) : Nat := if 0 ≤ n then (2 * n).toNat else (-2 * n - 1).toNat
def unzz (u : Nat) : Int := if u % 2 = 0 then ((u / 2 : Nat) : Int) else -((u / 2 : Nat) : Int) - 1
theorem unzz_zz (n : Int) : unzz (zz n) = n := by
  unfold unzz zz
  by_cases h : 0 ≤ n
  · rw [if_pos h, if_pos (by omega)]; omega
  · rw [if_neg h, if_neg (by omega)]; omega
theorem zz_unzz (u : Nat) : zz (unzz u) = u := by
  unfold unzz
  by_cases h : u % 2 = 0
  · rw [if_pos h]; unfold zz; rw [if_pos (by omega)]; omega
  · rw [if_neg h]; unfold zz; rw [if_neg (by omega)]; omega
theorem zz_lt {n : Int} (h0 : -9223372036854775808 ≤ n) (h1 : n ≤ 9223372036854775807) : zz n < 18446744073709551616 := by unfold zz; split <;> omega
theorem unzz_bd {u : Nat} (h : u < 18446744073709551616) : -9223372036854775808 ≤ unzz u ∧ unzz u ≤ 9223372036854775807 := by unfold unzz; split <;> omega
theorem sevL_append (a b : List UInt8) : sevL (a ++ b) = sevL a + 128 ^ a.length * sevL b := by
  induction a with
  | nil => simp [sevL]
  | cons c a ih =>
    simp only [List.cons_append, sevL, List.length_cons, ih, Nat.pow_succ, Nat.mul_add]
    rw [← Nat.mul_assoc, Nat.mul_comm 128 (128 ^ a.length)]; omega
theorem sevL_lt (l : List UInt8) : sevL l < 128 ^ l.length := by
  induction l with
  | nil => simp [sevL]
  | cons c l ih => simp only [sevL, List.length_cons, Nat.pow_succ]; omega
theorem digL_lt' {f n : Nat} (h : n < 128) : digL f n = [UInt8.ofNat n] := by
  cases f with
  | zero => rfl
  | succ f => unfold digL; rw [if_pos h]
theorem digL_len (f : Nat) : ∀ n, (digL f n).length ≤ f + 1 ∧ 1 ≤ (digL f n).length := by
  induction f with
  | zero => intro n; simp [digL]
  | succ f ih =>
    intro n
    unfold digL
    split
    · simp
    · have := ih (n / 128); simp; omega

/-! ### What the readers answer -/
def longL (l : List UInt8) : Nat × Nat × Nat :=
  if (endsL 9 0 l).2 = 0 then (sevL (l.take (endsL 9 0 l).1), (endsL 9 0 l).1, 0) else (0, 0, (endsL 9 0 l).2)
def zagL (l : List UInt8) : Int × Nat × Nat :=
  if (endsL 10 0 l).2 = 0 then (if (endsL 10 0 l).1 = 10 ∧ 1 < byteAt l 9 then (0, 0, 11) else (unzz (sevL (l.take (endsL 10 0 l).1)), (endsL 10 0 l).1, 0)) else (0, 0, (endsL 10 0 l).2)

theorem endsL_le (most : Nat) (l : List UInt8) : ∀ i, (endsL most i l).2 = 0 → i < (endsL most i l).1 ∧ (endsL most i l).1 ≤ most ∧ (endsL most i l).1 ≤ i + l.length := by
  induction l with
  | nil => intro i h; unfold endsL at h; split at h <;> simp at h
  | cons c l ih =>
    intro i h
    unfold endsL at h ⊢
    by_cases h1 : most ≤ i
    · simp [h1] at h
    · rw [if_neg h1] at h ⊢
      by_cases h2 : c.toNat < 128
      · rw [if_pos h2] at h ⊢
        by_cases h3 : 0 < i ∧ c.toNat = 0
        · rw [if_pos h3] at h; simp at h
        · rw [if_neg h3]; simp only [List.length_cons]; omega
      · rw [if_neg h2] at h ⊢
        have := ih (i + 1) h
        simp only [List.length_cons]; omega
theorem endsL_err (most : Nat) (l : List UInt8) : ∀ i, (endsL most i l).2 ≠ 0 → (endsL most i l).1 = 0 ∧ ((endsL most i l).2 = 10 ∨ (endsL most i l).2 = 11) := by
  induction l with
  | nil => intro i _; unfold endsL; split <;> simp
  | cons c l ih =>
    intro i h
    unfold endsL at h ⊢
    by_cases h1 : most ≤ i
    · simp [h1]
    · rw [if_neg h1] at h ⊢
      by_cases h2 : c.toNat < 128
      · rw [if_pos h2] at h ⊢
        by_cases h3 : 0 < i ∧ c.toNat = 0
        · rw [if_pos h3]; simp
        · rw [if_neg h3] at h; simp at h
      · rw [if_neg h2] at h ⊢
        exact ih (i + 1) h
end Go.Proofs.Ytalmdccgpigppaa
namespace Go.Proofs.Ytalmdccgpigppaa
open Go.RowKit

theorem put_any (n : Int) (w : World) : Calls Try.prog 56 #[.int .i64 n] w fun e w' => ∃ A c, e = .returned (.slice A 8 c) ∧ OB w' w.heap.size 5 A 8 c (putL (un n)) ∧ Below w.heap.size w w' := by
  have hw := wrap_un n
  have hu := un_lt n
  generalize un n = U at *
  have hmk : ∀ W : World, (Instr.makeSlice 26 (.int .i64 8) (.int .i64 8)).run Try.prog W = .ok (.slice (some ⟨W.heap.size, 0, none⟩) 8 8) (W.alloc (.cells (madeCells (Value.int .u8 0).cells 8) 5)) := run_make_one elemU8 8 (by omega) (by omega)
  have hown0 : Ow bv (w.alloc (.cells (madeCells (Value.int .u8 0).cells 8) 5)) w.heap.size 5 (some ⟨w.heap.size, 0, none⟩) 8 8 (tabB 8 (fun i => if i < 0 then U / 256 ^ i % 256 else 0)) := by
    have := Ow.made (enc := bv) w 5 0 (.int .u8 0) 8 rfl (by decide)
    rwa [tabB_zero] at this
  have hb0 : Below w.heap.size w (w.alloc (.cells (madeCells (Value.int .u8 0).cells 8) 5)) := (by (repeat' (first | (with_reducible exact Below.refl _ _) | (with_reducible assumption) | (with_reducible refine Below.drew ?_) | (with_reducible refine below_drewN ?_ _) | (with_reducible refine Below.alloc ?_ ?_ _) | (with_reducible refine Below.setCell ?_ ?_ _) | omega | (simp; done) | (simp; omega))))
  go_enter Try.func56, Try.ntmps56
  go_wp2
  go_loopw [4, 11] (fun uu kk wr => ∃ k u, k ≤ 8 ∧ kk = .int .i64 (k : Nat) ∧ uu = .int .u64 (u : Nat) ∧ Hid (u = U / 256 ^ k) ∧ u < 18446744073709551616 ∧ Ow bv wr w.heap.size 5 (some ⟨w.heap.size, 0, none⟩) 8 8 (tabB 8 (fun i => if i < k then U / 256 ^ i % 256 else 0)) ∧ Below w.heap.size w wr) (fun _ kk _ => 8 - (intOf kk).toNat)
  case atStart => exact ⟨0, U, by omega, rfl, rfl, by show U = U / 256 ^ 0; omega, hu, hown0, hb0⟩
  case round =>
    obtain ⟨k, u, hk, rfl, rfl, hU, hu, hown, hb⟩ := hrel
    have hbs := hb.size
    by_cases hk8 : k < 8
    · have hfree := hown.free k
      have hset := fun v hv => Lib.hid (hown.tabB_set (f' := fun i => if i < k + 1 then U / 256 ^ i % 256 else 0) k (u % 256) v hk8 (by omega) hv (fun i hi => by
        by_cases h1 : i = k
        · subst h1; simp [hU.out]
        · by_cases h2 : i < k
          · simp [h1, h2, Nat.lt_succ_of_lt h2]
          · simp [h1, h2, show ¬ i < k + 1 from by omega]))
      have hU2 : Hid (u / 256 = U / 256 ^ (k + 1)) := by
        show _ = _
        rw [hU.out, Nat.div_div_eq_div_mul, Nat.pow_succ]
      obtain ⟨b1, o1, hA, _, hc⟩ := hown.rd.rb.at_ hk8
      injection hA with hA
      injection hA with h1 h2 _
      subst h1 h2
      rw [Nat.zero_add] at hc
      clear hown
      go_wp2
      go_roundw
      case rel => exact ⟨k + 1, u / 256, by omega, by go_num, by go_num, hU2, by omega, (hset _ (by first | rfl | (congr 1; omega))).out, (by (repeat' (first | (with_reducible exact Below.refl _ _) | (with_reducible assumption) | (with_reducible refine Below.drew ?_) | (with_reducible refine below_drewN ?_ _) | (with_reducible refine Below.alloc ?_ ?_ _) | (with_reducible refine Below.setCell ?_ ?_ _) | omega | (simp; done) | (simp; omega))))⟩
      case measure => simp [intOf]; omega
    · have hk9 : k = 8 := by omega
      subst hk9
      go_wp2
      go_ret
      refine ⟨_, 8, rfl, ?_, hb⟩
      unfold putL
      rw [tabB_congr (g := fun i => U / 256 ^ i % 256)] at hown
      · exact hown
      · intro i hi; simp [hi]
theorem get_short (A : Option Addr) (n c : Nat) (w : World) (h : n < 8) : Calls Try.prog 80 #[.slice A n c] w fun e w' => e = .returned (.tuple #[.int .i64 0, .int .i64 10]) ∧ w = w' := by
  have h1 : decide ((n : Int) < 8) = true := by simp; omega
  go_enter Try.func80, Try.ntmps80
  go_wp2
  go_ret2
  exact ⟨rfl, rfl⟩
theorem get_long (A : Option Addr) (n c : Nat) (w : World) (h : 8 < n) (hn : n ≤ maxLen) : Calls Try.prog 80 #[.slice A n c] w fun e w' => e = .returned (.tuple #[.int .i64 0, .int .i64 12]) ∧ w = w' := by
  unfold maxLen at hn
  have h1 : decide ((n : Int) < 8) = false := by simp; omega
  have h2 : decide ((8 : Int) < n) = true := by simp; omega
  go_enter Try.func80, Try.ntmps80
  go_wp2
  go_ret2
  exact ⟨rfl, rfl⟩
theorem ofInt_u64' (a : Nat) (ha : a < 18446744073709551616) : (BitVec.ofInt 64 (a : Int)).toNat = a := by
  rw [BitVec.ofInt_natCast, BitVec.toNat_ofNat]; exact Nat.mod_eq_of_lt (by omega)
theorem u64_shl8_or (u y : Nat) (hu : u ≤ 72057594037927935) (hy : y < 256) : bits .or .u64 ((u : Int) * 256) (y : Int) = ((y + 256 * u : Nat) : Int) := by
  have h := Nat.two_pow_add_eq_or_of_lt (i := 8) (b := y) (by omega) u
  show IntKind.u64.wrap ((BitVec.ofInt 64 ((u * 256 : Nat) : Int) ||| BitVec.ofInt 64 (y : Int)).toNat : Int) = _
  rw [BitVec.toNat_or, ofInt_u64' _ (by omega), ofInt_u64' y (by omega), IntKind.wrap_u64, show u * 256 = 2 ^ 8 * u from by omega, ← h]
  omega
theorem getL_drop (l : List UInt8) (k : Nat) (h : k < l.length) : getL (l.drop k) = byteAt l k + 256 * getL (l.drop (k + 1)) := by
  rw [List.drop_eq_getElem_cons h]; simp [getL, byteAt, List.getD_eq_getElem?_getD, h]
theorem get_any (A : Option Addr) (c : Nat) (l : List UInt8) (w : World) (hl : RB w A 8 l) : Calls Try.prog 80 #[.slice A 8 c] w fun e w' => e = .returned (.tuple #[.int .i64 (sg (getL l)), .int .i64 0]) ∧ w = w' := by
  have hlt : getL l < 18446744073709551616 := by have := getL_lt l; rw [hl.1] at this; omega
  have hwr := wrap_sg hlt
  have hlen := Lib.hid hl.1
  generalize hz : sg (getL l) = z at *
  clear hz
  go_enter Try.func80, Try.ntmps80
  go_wp2
  go_loop [4, 5] (fun uu kk => ∃ k u, k ≤ 8 ∧ kk = .int .i64 (8 - (k : Nat)) ∧ uu = .int .u64 (u : Nat) ∧ Hid (u = getL (l.drop (8 - k)))) (fun _ kk => (intOf kk).toNat)
  case atStart => exact ⟨0, 0, by omega, rfl, rfl, by show 0 = _; rw [List.drop_of_length_le (by rw [hlen.out]; omega)]; rfl⟩
  case round =>
    obtain ⟨k, u, hk, rfl, rfl, hU⟩ := hrel
    by_cases hk8 : k < 8
    · obtain ⟨b, o, rfl, _, hc⟩ := hl.at_ (k := 7 - k) (by omega)
      rw [show o + (7 - k) = o + (8 - k - 1) from by omega] at hc
      have hb := byteAt_lt l (7 - k)
      have hd := getL_drop l (7 - k) (by rw [hlen.out]; omega)
      rw [show 7 - k + 1 = 8 - k from by omega, ← hU.out] at hd
      have hd2 : Hid (getL (l.drop (8 - (k + 1))) = byteAt l (7 - k) + 256 * u) := by rw [show 8 - (k + 1) = 7 - k from by omega]; exact hd
      clear hd
      have hu : u ≤ 72057594037927935 := by
        rw [hU.out]
        have h1 := getL_lt (l.drop (8 - k))
        have h2 : (l.drop (8 - k)).length ≤ 7 := by rw [List.length_drop, hlen.out]; omega
        have h3 : 256 ^ (l.drop (8 - k)).length ≤ 256 ^ 7 := Nat.pow_le_pow_right (by omega) h2
        omega
      generalize byteAt l (7 - k) = y at *
      have hor := u64_shl8_or u y hu hb
      go_wp2
      go_round
      case rel => exact ⟨k + 1, y + 256 * u, by omega, by go_num, by go_num, hd2.out.symm⟩
      case measure => simp [intOf]; omega
    · have hk9 : k = 8 := by omega
      subst hk9
      have hU2 : u = getL l := hU.out
      rw [← hU2] at hwr
      clear hU hU2
      go_wp2
      go_ret2
      exact ⟨rfl, rfl⟩
end Go.Proofs.Ytalmdccgpigppaa
namespace Go.Proofs.Ytalmdccgpigppaa
open Go.RowKit

def crcBit (x : Nat) : Nat := if x % 2 = 1 then (x / 2) ^^^ 3988292384 else x / 2
def crcBits : Nat → Nat → Nat
  | 0, x => x
  | k + 1, x => crcBits k (crcBit x)
def crcStep (c b : Nat) : Nat := crcBits 8 (c ^^^ b)
def crcFold (c : Nat) (l : List UInt8) : Nat := l.foldl (fun c b => crcStep c b.toNat) c
def crcMore (s : Nat) (l : List UInt8) : Nat := 4294967295 - crcFold (4294967295 - s) l
def crcSum (ls : List (List UInt8)) : Nat := ls.foldl crcMore 0

theorem u32_lt_xor {a b : Nat} (ha : a < 4294967296) (hb : b < 4294967296) : a ^^^ b < 4294967296 := Nat.xor_lt_two_pow (n := 32) ha hb
theorem crcBit_lt {x : Nat} (h : x < 4294967296) : crcBit x < 4294967296 := by
  unfold crcBit; split
  · exact u32_lt_xor (by omega) (by omega)
  · omega
theorem crcBits_lt (k : Nat) : ∀ {x : Nat}, x < 4294967296 → crcBits k x < 4294967296 := by
  induction k with
  | zero => intro x h; exact h
  | succ k ih => intro x h; exact ih (crcBit_lt h)
theorem crcStep_lt {c b : Nat} (hc : c < 4294967296) (hb : b < 256) : crcStep c b < 4294967296 := crcBits_lt 8 (u32_lt_xor hc (by omega))
theorem crcFold_lt (l : List UInt8) : ∀ {c : Nat}, c < 4294967296 → crcFold c l < 4294967296 := by
  induction l with
  | nil => intro c h; exact h
  | cons x l ih => intro c h; exact ih (crcStep_lt h x.toNat_lt)
theorem crcMore_lt (s : Nat) (l : List UInt8) : crcMore s l < 4294967296 := by unfold crcMore; omega
theorem crcFold_append (c : Nat) (a b : List UInt8) : crcFold c (a ++ b) = crcFold (crcFold c a) b := by simp [crcFold]
theorem crcFold_snoc (c : Nat) (a : List UInt8) (x : UInt8) : crcFold c (a ++ [x]) = crcStep (crcFold c a) x.toNat := by simp [crcFold]

theorem crcSum_take (ls : List (List UInt8)) (k : Nat) (h : k < ls.length) : crcSum (ls.take (k + 1)) = crcMore (crcSum (ls.take k)) (ls.getD k []) := by
  unfold crcSum
  rw [List.take_succ_eq_append_getElem h, List.foldl_append, List.getD_eq_getElem?_getD, List.getElem?_eq_getElem h]; rfl
theorem crcSum_lt (ls : List (List UInt8)) : crcSum ls < 4294967296 := by
  rcases List.eq_nil_or_concat ls with rfl | ⟨l, x, rfl⟩
  · decide
  · have : crcSum (l ++ [x]) = crcMore (crcSum l) x := by simp [crcSum]
    simp only [List.concat_eq_append, this]; exact crcMore_lt _ _
theorem IntKind.wrap_u32' (n : Int) : IntKind.u32.wrap n = n % 4294967296 := by simp [IntKind.wrap, IntKind.bits, IntKind.signed]
theorem ofInt_u32 (a : Nat) (ha : a < 4294967296) : (BitVec.ofInt 32 (a : Int)).toNat = a := by
  rw [BitVec.ofInt_natCast, BitVec.toNat_ofNat]; exact Nat.mod_eq_of_lt (by omega)
theorem u32_xor (a b : Nat) (ha : a < 4294967296) (hb : b < 4294967296) : bits .xor .u32 (a : Int) (b : Int) = ((a ^^^ b : Nat) : Int) := by
  have hx := u32_lt_xor ha hb
  show IntKind.u32.wrap ((BitVec.ofInt 32 (a : Int) ^^^ BitVec.ofInt 32 (b : Int)).toNat : Int) = _
  rw [BitVec.toNat_xor, ofInt_u32 a ha, ofInt_u32 b hb, IntKind.wrap_u32']
  omega
theorem u32_and_one (a : Nat) (ha : a < 4294967296) : bits .and .u32 (a : Int) 1 = ((a % 2 : Nat) : Int) := by
  show IntKind.u32.wrap ((BitVec.ofInt 32 (a : Int) &&& BitVec.ofInt 32 ((1 : Nat) : Int)).toNat : Int) = _
  rw [BitVec.toNat_and, ofInt_u32 a ha, ofInt_u32 1 (by omega), IntKind.wrap_u32', Nat.and_one_is_mod]
  omega
theorem u32_turn (x : Nat) (hx : x < 4294967296) : bits .xor .u32 ((x : Int) / 2) 3988292384 = ((x / 2 ^^^ 3988292384 : Nat) : Int) := by
  have := u32_xor (x / 2) 3988292384 (by omega) (by omega)
  rw [← this]; rfl
theorem u32_not (s : Nat) (hs : s < 4294967296) : bits .xor .u32 IntKind.u32.max (s : Int) = ((4294967295 - s : Nat) : Int) := by
  show IntKind.u32.wrap ((BitVec.ofInt 32 IntKind.u32.max ^^^ BitVec.ofInt 32 (s : Int)).toNat : Int) = _
  have h1 : BitVec.ofInt 32 IntKind.u32.max = BitVec.allOnes 32 := by decide
  rw [h1, BitVec.allOnes_xor, BitVec.toNat_not, ofInt_u32 s hs, IntKind.wrap_u32']
  omega
theorem u8_xor (a b : Nat) (ha : a < 256) (hb : b < 256) : bits .xor .u8 (a : Int) (b : Int) = ((a ^^^ b : Nat) : Int) := by
  have hx : a ^^^ b < 2 ^ 8 := Nat.xor_lt_two_pow (by omega) (by omega)
  have h1 : (BitVec.ofInt 8 (a : Int)).toNat = a := by
    rw [BitVec.ofInt_natCast, BitVec.toNat_ofNat]; exact Nat.mod_eq_of_lt (by omega)
  have h2 : (BitVec.ofInt 8 (b : Int)).toNat = b := by
    rw [BitVec.ofInt_natCast, BitVec.toNat_ofNat]; exact Nat.mod_eq_of_lt (by omega)
  show IntKind.u8.wrap ((BitVec.ofInt 8 (a : Int) ^^^ BitVec.ofInt 8 (b : Int)).toNat : Int) = _
  rw [BitVec.toNat_xor, h1, h2]
  simp [IntKind.wrap, IntKind.bits, IntKind.signed]
  omega
end Go.Proofs.Ytalmdccgpigppaa
namespace Go.Proofs.Ytalmdccgpigppaa
open Go.RowKit

theorem step_any (c b : Nat) (w : World) (hc : c < 4294967296) (hb : b < 256) :
    Calls Try.prog 113 #[.int .u32 c, .int .u8 b] w fun e w' => e = .returned (.int .u32 (crcStep c b)) ∧ w = w' := by
  have hx := u32_xor c b hc (by omega)
  have hlt : c ^^^ b < 4294967296 := u32_lt_xor hc (by omega)
  have hd : crcStep c b = crcBits 8 (c ^^^ b) := rfl
  generalize hz : crcStep c b = z at *
  generalize hy : c ^^^ b = y at *
  have Hd := Lib.hid hd; clear hd hz hy
  go_enter Try.func113, Try.ntmps113
  go_wp2
  go_loop [0, 9] (fun c i => ∃ k : Nat, ∃ x : Nat, k ≤ 8 ∧ x < 4294967296 ∧ Hid (z = crcBits (8 - k) x) ∧ i = .int .i64 k ∧ c = .int .u32 x) (fun _ i => 8 - (intOf i).toNat)
  case atStart => exact ⟨0, y, Nat.zero_le _, hlt, Hd, rfl, rfl⟩
  case round =>
    obtain ⟨k, x, hk, hx, HX, rfl, rfl⟩ := hrel
    have ha := u32_and_one x hx
    have ht := u32_turn x hx
    have hb := @crcBit_lt x hx
    by_cases hlt : k < 8
    · have HB : Hid (crcBits (8 - k) x = crcBits (8 - (k + 1)) (crcBit x)) := by rw [show 8 - k = (8 - (k + 1)) + 1 from by omega]; rfl
      by_cases h1 : x % 2 = 1
      · have HC : Hid (crcBit x = x / 2 ^^^ 3988292384) := if_pos h1
        have h2 : (((x % 2 : Nat) : Int) == 1) = true := by rw [beq_iff_eq]; omega
        clear h1
        go_wp2
        go_round
        case rel => exact ⟨k + 1, _, by omega, hb, HX.out.trans HB.out, by go_num, by rw [HC.out]⟩
        case measure => simp [intOf]; omega
      · have HC : Hid (crcBit x = x / 2) := if_neg h1
        have h2 : (((x % 2 : Nat) : Int) == 1) = false := by rw [beq_eq_false_iff_ne]; omega
        clear h1
        go_wp2
        go_round
        case rel => exact ⟨k + 1, _, by omega, hb, HX.out.trans HB.out, by go_num, by rw [HC.out]; rfl⟩
        case measure => simp [intOf]; omega
    · go_wp2
      go_ret
      refine ⟨?_, rfl⟩
      have e : 8 - k = 0 := by omega
      rw [HX.out, e]; rfl
theorem crcFold_take (c : Nat) (l : List UInt8) (k : Nat) (h : k < l.length) : crcFold c (l.take (k + 1)) = crcStep (crcFold c (l.take k)) (byteAt l k) := by
  rw [take_succ_byte l k h, crcFold_snoc]; rfl

theorem more_any (s : Nat) (a : Option Addr) (n c : Nat) (l : List UInt8) (w : World) (hs : s < 4294967296) (hl : RB w a n l) (hn : n ≤ maxLen) :
    Calls Try.prog 85 #[.int .u32 s, .slice a n c] w fun e w' => e = .returned (.int .u32 (crcMore s l)) ∧ w = w' := by
  unfold maxLen at hn
  have hd : crcMore s l = 4294967295 - crcFold (4294967295 - s) l := rfl
  have hlen : l.length = n := hl.1
  generalize hz : crcMore s l = z at *
  have HL := Lib.hid hlen; clear hlen
  have Hd := Lib.hid hd; clear hd hz
  have hsg : IntKind.u32.signed = false := rfl
  have hnot := u32_not s hs
  go_enter Try.func85, Try.ntmps85
  go_wp2
  go_loop [5, 12] (fun c i => ∃ k : Nat, ∃ x : Nat, k ≤ n ∧ x < 4294967296 ∧ Hid (x = crcFold (4294967295 - s) (l.take k)) ∧ i = .int .i64 k ∧ c = .int .u32 x) (fun _ i => n - (intOf i).toNat)
  case atStart => exact ⟨0, 4294967295 - s, Nat.zero_le _, by omega, rfl, rfl, rfl⟩
  case round =>
    obtain ⟨k, x, hk, hx, HX, rfl, rfl⟩ := hrel
    clear hnot
    by_cases hlt : k < n
    · have HF : Hid (crcFold (4294967295 - s) (l.take (k + 1)) = crcStep x (byteAt l k)) := by rw [HX.out]; exact crcFold_take _ _ _ (by rw [HL.out]; exact hlt)
      obtain ⟨b, o, rfl, hb, hc⟩ := hl.at_ hlt
      have h8 := byteAt_lt l k
      have hy := crcStep_lt hx h8
      go_wp2_with (go_at_call 113; (with_reducible refine (step_any _ _ _ hx h8).mono ?_); rintro e w' ⟨rfl, rfl⟩)
      go_round
      case rel => exact ⟨k + 1, _, by omega, hy, HF.out.symm, by go_num, rfl⟩
      case measure => simp [intOf]; omega
    · have hnot := u32_not x hx
      go_wp2
      go_ret
      exact ⟨ret_nat (by rw [Hd.out, HX.out, List.take_of_length_le (by rw [HL.out]; omega)]), rfl⟩

theorem more_zero (a : Option Addr) (n c : Nat) (l : List UInt8) (w : World) (hl : RB w a n l) (hn : n ≤ maxLen) :
    Calls Try.prog 85 #[.int .u32 0, .slice a n c] w fun e w' => e = .returned (.int .u32 (crcMore 0 l)) ∧ w = w' := more_any 0 a n c l w (by omega) hl hn

/-- A row of slices, each of which reads as a list of bytes. -/
def RBs (w : World) (a : Option Addr) (n : Nat) (ls : List (List UInt8)) : Prop :=
  ls.length = n ∧ ∃ V : Nat → Option Addr × Nat × Nat, Row w a ls.length (fun i => .slice (V i).1 (V i).2.1 (V i).2.2) ∧ ∀ i, i < ls.length → RB w (V i).1 (V i).2.1 (ls.getD i []) ∧ (V i).2.1 ≤ maxLen

theorem sum_any (a : Option Addr) (n c : Nat) (ls : List (List UInt8)) (w : World) (hl : RBs w a n ls) (hm : n ≤ maxLen) :
    Calls Try.prog 54 #[.slice a n c] w fun e w' => e = .returned (.int .u32 (crcSum ls)) ∧ w = w' := by
  unfold maxLen at hm
  obtain ⟨hn, V, hrow, hV⟩ := hl
  generalize hz : crcSum ls = z at *
  have Hn := Lib.hid hn
  rw [hn] at hrow
  clear hn
  have Hz := Lib.hid hz; clear hz
  go_enter Try.func54, Try.ntmps54
  go_wp2
  go_loop [3, 8] (fun c i => ∃ k : Nat, ∃ x : Nat, k ≤ n ∧ x < 4294967296 ∧ Hid (x = crcSum (ls.take k)) ∧ i = .int .i64 k ∧ c = .int .u32 x) (fun _ i => n - (intOf i).toNat)
  case atStart => exact ⟨0, 0, Nat.zero_le _, by omega, rfl, rfl, rfl⟩
  case round =>
    obtain ⟨k, x, hk, hx, HX, rfl, rfl⟩ := hrel
    by_cases hlt : k < n
    · have HF : Hid (crcSum (ls.take (k + 1)) = crcMore x (ls.getD k [])) := by rw [HX.out]; exact crcSum_take _ _ (by rw [Hn.out]; exact hlt)
      obtain ⟨b, o, rfl, hb, hc⟩ := hrow.at_ hlt
      obtain ⟨hr, hm2⟩ := hV k (by rw [Hn.out]; exact hlt)
      have hy := crcMore_lt x (ls.getD k [])
      generalize ls.getD k [] = lk at *
      go_wp2_with (go_at_call 85; (with_reducible refine (more_any _ _ _ _ lk _ hx hr hm2).mono ?_); rintro e w' ⟨rfl, rfl⟩)
      go_round
      case rel => exact ⟨k + 1, _, by omega, hy, HF.out.symm, by go_num, rfl⟩
      case measure => simp [intOf]; omega
    · go_wp2
      go_ret
      exact ⟨ret_nat (by rw [HX.out, ← Hz.out, List.take_of_length_le (by rw [Hn.out]; omega)]), rfl⟩
theorem RBs.one {w : World} {g : Nat} {t : TypeId} {fr : Nat × Nat} {A : Option Addr} {n c : Nat} {l : List UInt8} (hg : w.heap[g]? = some (.cells #[.slice A n c] t fr)) (h : RB w A n l) (hn : n ≤ maxLen) :
    RBs w (some ⟨g, 0, none⟩) 1 [l] :=
  ⟨rfl, fun _ => (A, n, c), Row.of_block hg 0 (fun i hi => by
    have : i = 0 := by simp at hi; exact hi
    subst this; rfl), fun i hi => by
    have : i = 0 := by simp at hi; exact hi
    subst this; exact ⟨h, hn⟩⟩
theorem RBs.two {w : World} {g : Nat} {t : TypeId} {fr : Nat × Nat} {A B : Option Addr} {n c m d : Nat} {l k : List UInt8} (hg : w.heap[g]? = some (.cells #[.slice A n c, .slice B m d] t fr)) (h : RB w A n l) (hn : n ≤ maxLen) (h' : RB w B m k) (hm : m ≤ maxLen) :
    RBs w (some ⟨g, 0, none⟩) 2 [l, k] :=
  ⟨rfl, fun i => if i = 0 then (A, n, c) else (B, m, d), Row.of_block hg 0 (fun i hi => by
    rcases (by simp at hi; omega : i = 0 ∨ i = 1) with rfl | rfl <;> rfl), fun i hi => by
    rcases (by simp at hi; omega : i = 0 ∨ i = 1) with rfl | rfl
    · exact ⟨h, hn⟩
    · exact ⟨h', hm⟩⟩
end Go.Proofs.Ytalmdccgpigppaa
namespace Go.Proofs.Ytalmdccgpigppaa
open Go.RowKit

def zerosL : List UInt8 := List.replicate 128 0
theorem zerosL_len : zerosL.length = 128 := by simp [zerosL]
def le4 (s : Nat) : List UInt8 := tabB 4 (fun i => s / 256 ^ i % 256)
theorem le4_len (s : Nat) : (le4 s).length = 4 := by simp [le4, tabB_len]
/-- The first 123 bytes of a sealed sector. -/
def sealBody (kind n : Nat) (load : List UInt8) : List UInt8 :=
  UInt8.ofNat kind :: (putL n ++ (UInt8.ofNat load.length :: (load ++ List.replicate (113 - load.length) 0)))
def sealL (kind n : Nat) (load : List UInt8) : List UInt8 := sealBody kind n load ++ (le4 (crcSum [sealBody kind n load]) ++ [215])
theorem sealBody_len (kind n : Nat) (load : List UInt8) (h : load.length ≤ 113) : (sealBody kind n load).length = 123 := by
  simp [sealBody, putL_len]; omega
theorem sealL_len (kind n : Nat) (load : List UInt8) (h : load.length ≤ 113) : (sealL kind n load).length = 128 := by
  simp [sealL, sealBody_len kind n load h, le4_len]
theorem sealL_first (kind n : Nat) (load : List UInt8) (h : kind < 256) : byteAt (sealL kind n load) 0 = kind := by
  simp only [sealL, sealBody, byteAt, List.cons_append, List.getD_cons_zero]
  exact UInt8.toNat_ofNat_of_lt' (by simp [UInt8.size]; omega)
theorem sealL_last (kind n : Nat) (load : List UInt8) (h : load.length ≤ 113) : byteAt (sealL kind n load) 127 = 215 := by
  have h1 := sealBody_len kind n load h
  simp only [sealL, byteAt, List.getD_eq_getElem?_getD]
  rw [List.getElem?_append_right (by omega), List.getElem?_append_right (by rw [le4_len]; omega), h1, le4_len]
  rfl
theorem sealL_size (kind n : Nat) (load : List UInt8) (h : load.length ≤ 113) : byteAt (sealL kind n load) 9 = load.length := by
  have h0 := putL_len n
  simp only [sealL, sealBody, byteAt, List.cons_append, List.getD_eq_getElem?_getD, List.append_assoc]
  rw [List.getElem?_cons_succ, List.getElem?_append_right (by omega), h0]
  simp only [Nat.sub_self, List.getElem?_cons_zero, Option.getD_some]
  exact UInt8.toNat_ofNat_of_lt' (by simp [UInt8.size]; omega)
theorem sealL_num (kind n : Nat) (load : List UInt8) : ((sealL kind n load).drop 1).take 8 = putL n := by
  have h0 := putL_len n
  simp only [sealL, sealBody, List.cons_append, List.drop_succ_cons, List.drop_zero, List.append_assoc]
  rw [List.take_append_of_le_length (by omega), List.take_of_length_le (by omega)]
theorem sealL_load (kind n : Nat) (load : List UInt8) : ((sealL kind n load).drop 10).take load.length = load := by
  have h0 := putL_len n
  simp only [sealL, sealBody, List.cons_append, List.append_assoc]
  rw [show 10 = 9 + 1 from rfl, List.drop_succ_cons, show 9 = (putL n).length + 1 from by omega, List.drop_append, List.drop_of_length_le (by omega), List.nil_append, show (putL n).length + 1 - (putL n).length = 1 from by omega, List.drop_succ_cons, List.drop_zero, List.take_append_of_le_length (by omega), List.take_of_length_le (by omega)]
theorem sealL_body {kind n : Nat} {load : List UInt8} (h : load.length ≤ 113) : (sealL kind n load).take 123 = sealBody kind n load := by
  have h1 := sealBody_len kind n load h
  unfold sealL
  rw [List.take_append_of_le_length (by omega), List.take_of_length_le (by omega)]

/-- What is opened: kind, the bytes; the number, the load. -/
def openNum (b : List UInt8) : Nat := getL ((b.drop 1).take 8)
def openLoad (b : List UInt8) : List UInt8 := (b.drop 10).take (byteAt b 9)
def opens (b : List UInt8) (kind : Int) : Bool :=
  decide (1 ≤ kind) && decide (kind ≤ 255) && decide (openNum b < 9223372036854775808) && decide (byteAt b 9 ≤ 113) && decide (sealL kind.toNat (openNum b) (openLoad b) = b)
theorem openNum_lt (b : List UInt8) : openNum b < 18446744073709551616 := by
  unfold openNum
  have h1 := getL_lt ((b.drop 1).take 8)
  have h2 : ((b.drop 1).take 8).length ≤ 8 := List.length_take_le _ _
  have h3 : 256 ^ ((b.drop 1).take 8).length ≤ 256 ^ 8 := Nat.pow_le_pow_right (by omega) h2
  omega
theorem openLoad_len {b : List UInt8} (h : b.length = 128) (h9 : byteAt b 9 ≤ 113) : (openLoad b).length = byteAt b 9 := by
  simp [openLoad, h]; omega
theorem opens_parts {b : List UInt8} {kind : Int} (h : opens b kind = true) : 1 ≤ kind ∧ kind ≤ 255 ∧ openNum b < 9223372036854775808 ∧ byteAt b 9 ≤ 113 ∧ sealL kind.toNat (openNum b) (openLoad b) = b := by
  simpa [opens, and_assoc] using h
theorem opens_mk {b : List UInt8} {kind : Int} (h1 : 1 ≤ kind) (h2 : kind ≤ 255) (h3 : openNum b < 9223372036854775808) (h4 : byteAt b 9 ≤ 113) (h5 : sealL kind.toNat (openNum b) (openLoad b) = b) : opens b kind = true := by
  simp [opens, h1, h2, h3, h4, h5]
theorem opens_seal {kind : Int} {n : Nat} {load : List UInt8} (h1 : 1 ≤ kind) (h2 : kind ≤ 255) (h3 : n < 9223372036854775808) (h4 : load.length ≤ 113) :
    opens (sealL kind.toNat n load) kind = true ∧ openNum (sealL kind.toNat n load) = n ∧ openLoad (sealL kind.toNat n load) = load := by
  have e1 : openNum (sealL kind.toNat n load) = n := by unfold openNum; rw [sealL_num, getL_putL _ (by omega)]
  have e2 : openLoad (sealL kind.toNat n load) = load := by unfold openLoad; rw [sealL_size _ _ _ h4, sealL_load]
  exact ⟨opens_mk h1 h2 (by rw [e1]; exact h3) (by rw [sealL_size _ _ _ h4]; exact h4) (by rw [e1, e2]), e1, e2⟩
theorem opens_kind {b : List UInt8} {kind : Int} (h : opens b kind = true) : (byteAt b 0 : Int) = kind ∧ byteAt b 127 = 215 ∧ b.length = 128 := by
  obtain ⟨h1, h2, h3, h4, h5⟩ := opens_parts h
  by_cases hl : (openLoad b).length ≤ 113
  · rw [← h5, sealL_first _ _ _ (by omega), sealL_last _ _ _ hl, sealL_len _ _ _ hl]; omega
  · have := List.length_take_le (byteAt b 9) (b.drop 10)
    unfold openLoad at hl
    omega

theorem splice_cut {α : Type} (a b c k : List α) (h : b.length = k.length) : splice (a ++ (b ++ c)) a.length k = a ++ (k ++ c) := by
  unfold splice
  rw [List.take_left', List.drop_append, List.drop_of_length_le (by omega), List.nil_append, show a.length + k.length - a.length = b.length from by omega, List.drop_left']
  · rfl
  · rfl
theorem seal_L3 (a b : UInt8) (p l : List UInt8) (hp : p.length = 8) (hl : l.length ≤ 113) :
    splice (splice (((zerosL.set 0 a).set 9 b).set 127 215) 1 p) 10 l = [a] ++ (p ++ ([b] ++ (l ++ (List.replicate (117 - l.length) 0 ++ [215])))) := by
  have e1 : (((zerosL.set 0 a).set 9 b).set 127 215) = [a] ++ (List.replicate 8 0 ++ ([b] ++ (List.replicate 117 0 ++ [215]))) := rfl
  have e2 : splice ([a] ++ (List.replicate 8 0 ++ ([b] ++ (List.replicate 117 0 ++ [215])))) 1 p = [a] ++ (p ++ ([b] ++ (List.replicate 117 0 ++ [215]))) :=
    splice_cut [a] (List.replicate 8 0) _ p (by rw [hp]; simp)
  have e3 : List.replicate 117 (0 : UInt8) = List.replicate l.length 0 ++ List.replicate (117 - l.length) 0 := by rw [List.replicate_append_replicate]; congr 1; omega
  rw [e1, e2, e3]
  have e4 : [a] ++ (p ++ ([b] ++ (List.replicate l.length 0 ++ List.replicate (117 - l.length) 0 ++ [215]))) = ([a] ++ (p ++ [b])) ++ (List.replicate l.length 0 ++ (List.replicate (117 - l.length) 0 ++ [215])) := by simp only [List.append_assoc]
  rw [e4]
  have := splice_cut ([a] ++ (p ++ [b])) (List.replicate l.length 0) (List.replicate (117 - l.length) 0 ++ [215]) l (by simp)
  rw [show ([a] ++ (p ++ [b])).length = 10 from by simp [hp]] at this
  rw [this]
  simp only [List.append_assoc]
theorem seal_L3_body (kind n : Nat) (l : List UInt8) (hl : l.length ≤ 113) :
    ([UInt8.ofNat kind] ++ (putL n ++ ([UInt8.ofNat l.length] ++ (l ++ (List.replicate (117 - l.length) 0 ++ [215]))))) = sealBody kind n l ++ ([0, 0, 0, 0] ++ [215]) := by
  have e3 : List.replicate (117 - l.length) (0 : UInt8) = List.replicate (113 - l.length) 0 ++ [0, 0, 0, 0] := by
    have h4 : ([0, 0, 0, 0] : List UInt8) = List.replicate 4 0 := rfl
    rw [h4, List.replicate_append_replicate]; congr 1; omega
  rw [e3]
  simp [sealBody]
theorem seal_L3_take (kind n : Nat) (l : List UInt8) (hl : l.length ≤ 113) : (sealBody kind n l ++ ([0, 0, 0, 0] ++ [215])).take 123 = sealBody kind n l := by
  have h := sealBody_len kind n l hl
  rw [List.take_append_of_le_length (by omega), List.take_of_length_le (by omega)]
theorem seal_L4 (kind n : Nat) (l : List UInt8) (hl : l.length ≤ 113) : splice (sealBody kind n l ++ ([0, 0, 0, 0] ++ [215])) 123 (le4 (crcSum [sealBody kind n l])) = sealL kind n l := by
  have h := sealBody_len kind n l hl
  have := splice_cut (sealBody kind n l) [0, 0, 0, 0] [215] (le4 (crcSum [sealBody kind n l])) (by rw [le4_len]; rfl)
  rw [h] at this
  rw [this]; rfl
end Go.Proofs.Ytalmdccgpigppaa
