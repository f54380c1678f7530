/- Parts: Tab, PlainNum, NumA. -/
import Derived.Test.YtalmdccgpigppaaPr01
import Derived.Laws.MakeOwn
namespace Go.Proofs.Ytalmdccgpigppaa
open Go.RowKit

/-- Numbers, by their places. -/
def tab (n : Nat) (f : Nat → Nat) : List Int := (List.range n).map fun i => (f i : Int)
def bit (x i : Nat) : Nat := x / 2 ^ i % 2
theorem tab_len (n : Nat) (f : Nat → Nat) : (tab n f).length = n := by simp [tab]
theorem tab_at {n k : Nat} (f : Nat → Nat) (h : k < n) : intAt (tab n f) k = (f k : Int) := by simp [intAt, tab, List.getD_eq_getElem?_getD, h]
theorem tab_succ (n : Nat) (f : Nat → Nat) : tab n f ++ [(f n : Int)] = tab (n + 1) f := by simp [tab, List.range_succ]
theorem tab_set {n k : Nat} (f : Nat → Nat) (v : Nat) (h : k < n) : (tab n f).set k (v : Int) = tab n (fun i => if i = k then v else f i) := by
  apply List.ext_getElem?
  intro i
  by_cases hi : i = k
  · subst hi
    rw [List.getElem?_set_self (by rw [tab_len]; exact h)]
    simp [tab, h]
  · rw [List.getElem?_set_ne (by omega)]
    rcases Nat.lt_or_ge i n with h1 | h1
    · simp [tab, h1, hi]
    · rw [List.getElem?_eq_none (by rw [tab_len]; exact h1), List.getElem?_eq_none (by rw [tab_len]; exact h1)]
theorem tab_congr {n : Nat} {f g : Nat → Nat} (h : ∀ i, i < n → f i = g i) : tab n f = tab n g := by
  unfold tab; apply List.map_congr_left; intro i hi; rw [h i (List.mem_range.1 hi)]

theorem bit_le (x i : Nat) : bit x i ≤ 1 := by unfold bit; omega
theorem bit_xor (x y i : Nat) : bit (x ^^^ y) i = (bit x i + bit y i) % 2 := by
  unfold bit
  have h := Nat.testBit_xor x y i
  simp only [Nat.testBit_eq_decide_div_mod_eq] at h
  rcases Nat.mod_two_eq_zero_or_one (x / 2 ^ i) with hx | hx <;> rcases Nat.mod_two_eq_zero_or_one (y / 2 ^ i) with hy | hy <;> rcases Nat.mod_two_eq_zero_or_one ((x ^^^ y) / 2 ^ i) with hz | hz <;> simp [hx, hy, hz] at h ⊢
theorem bit_high {x n i : Nat} (h : x < 2 ^ n) (hi : n ≤ i) : bit x i = 0 := by
  unfold bit; rw [Nat.div_eq_of_lt (Nat.lt_of_lt_of_le h (Nat.pow_le_pow_right (by omega) hi))]

section
variable {w : World} {base g n c : Nat} {e : TypeId} {f : Nat → Nat}
theorem Ow.tab_cell (h : Ow iv w base e (some ⟨g, 0, none⟩) n c (tab n f)) {k : Nat} (hk : k < n) : w.cell? ⟨g, k, none⟩ = some (.int .i64 (f k : Nat)) := by
  obtain ⟨b, o, hA, _, hc⟩ := h.rd.ri.at_ hk
  injection hA with hA
  injection hA with h1 h2 _
  subst h1 h2
  rw [Nat.zero_add] at hc
  rw [hc, tab_at f hk]
theorem Ow.tab_set (h : Ow iv w base e (some ⟨g, 0, none⟩) n c (tab n f)) {f' : Nat → Nat} (k : Nat) (v : Nat) (u : Value) (hk : k < n) (hu : u = .int .i64 (v : Nat)) (hf : ∀ i, i < n → (if i = k then v else f i) = f' i) :
    Ow iv (w.setCell ⟨g, k, none⟩ u) base e (some ⟨g, 0, none⟩) n c (tab n f') := by
  have := h.set k ((v : Nat) : Int) u hu
  rwa [Go.Proofs.Ytalmdccgpigppaa.tab_set f v hk, tab_congr hf] at this
theorem Ow.drew' {α : Type} {enc : α → Value} {A : Option Addr} {l : List α} (h : Ow enc w base e A n c l) : Ow enc w.drew base e A n c l := h
end
end Go.Proofs.Ytalmdccgpigppaa
namespace Go.Proofs.Ytalmdccgpigppaa
open Go.RowKit

def tabB (n : Nat) (f : Nat → Nat) : List UInt8 := (List.range n).map fun i => UInt8.ofNat (f i)
theorem tabB_len (n : Nat) (f : Nat → Nat) : (tabB n f).length = n := by simp [tabB]
theorem tabB_at {n k : Nat} (f : Nat → Nat) (h : k < n) (hf : f k < 256) : byteAt (tabB n f) k = f k := by
  simp only [byteAt, tabB, List.getD_eq_getElem?_getD, List.getElem?_map, List.getElem?_range h, Option.map_some, Option.getD_some]
  exact UInt8.toNat_ofNat_of_lt' (by simp [UInt8.size]; omega)
theorem tabB_succ (n : Nat) (f : Nat → Nat) : tabB n f ++ [UInt8.ofNat (f n)] = tabB (n + 1) f := by simp [tabB, List.range_succ]
theorem tabB_congr {n : Nat} {f g : Nat → Nat} (h : ∀ i, i < n → f i = g i) : tabB n f = tabB n g := by
  unfold tabB; apply List.map_congr_left; intro i hi; rw [h i (List.mem_range.1 hi)]
theorem tabB_set {n k : Nat} (f : Nat → Nat) (v : Nat) (h : k < n) : (tabB n f).set k (UInt8.ofNat v) = tabB n (fun i => if i = k then v else f i) := by
  apply List.ext_getElem?
  intro i
  by_cases hi : i = k
  · subst hi
    rw [List.getElem?_set_self (by rw [tabB_len]; exact h)]
    simp [tabB, h]
  · rw [List.getElem?_set_ne (by omega)]
    rcases Nat.lt_or_ge i n with h1 | h1
    · simp [tabB, h1, hi]
    · rw [List.getElem?_eq_none (by rw [tabB_len]; exact h1), List.getElem?_eq_none (by rw [tabB_len]; exact h1)]
theorem tabB_take {n m : Nat} (f : Nat → Nat) (h : m ≤ n) : (tabB n f).take m = tabB m f := by
  unfold tabB; rw [← List.map_take, List.take_range]; congr 2; omega
theorem bv_ofNat {v : Nat} (h : v < 256) : bv (UInt8.ofNat v) = .int .u8 (v : Nat) := by
  unfold bv; rw [UInt8.toNat_ofNat_of_lt' (by simp [UInt8.size]; omega)]
section
variable {w : World} {base g n c : Nat} {e : TypeId} {f : Nat → Nat}
theorem Ow.tabB_set (h : Ow bv w base e (some ⟨g, 0, none⟩) n c (tabB n f)) {f' : Nat → Nat} (k : Nat) (v : Nat) (u : Value) (hk : k < n) (hv : v < 256) (hu : u = .int .u8 (v : Nat)) (hf : ∀ i, i < n → (if i = k then v else f i) = f' i) :
    Ow bv (w.setCell ⟨g, k, none⟩ u) base e (some ⟨g, 0, none⟩) n c (tabB n f') := by
  have := h.set k (UInt8.ofNat v) u (by rw [bv_ofNat hv]; exact hu)
  rwa [Go.Proofs.Ytalmdccgpigppaa.tabB_set f v hk, tabB_congr hf] at this
end

theorem run_make_one {P : Program} {t e : TypeId} {z : Value} {bytes : Nat} (hE : ElemOf P t e z 1 bytes) (n : Nat) (hb : bytes * n ≤ 281474976710656) (h63 : n ≤ 9223372036854775807) (W : World) :
    (Instr.makeSlice t (.int .i64 (n : Int)) (.int .i64 (n : Int))).run P W = .ok (.slice (some ⟨W.heap.size, 0, none⟩) n n) (W.alloc (.cells (madeCells z.cells n) e)) := by
  obtain ⟨ht, ⟨i, hi, hz, hs, hby⟩, hzs, _⟩ := hE
  have h : (i.bytes : Int) * (n : Int) ≤ 281474976710656 := by
    rw [hby]
    have : ((bytes * n : Nat) : Int) ≤ 281474976710656 := by omega
    rwa [Int.natCast_mul] at this
  have hr := run_make (P := P) W t e i z ht hi hz .i64 .i64 n n (by omega) (by omega) h (by omega)
  simp only [Int.toNat_natCast, hs, Nat.mul_one] at hr
  exact hr
theorem Ow.made {α : Type} {enc : α → Value} (w : World) (e : TypeId) (x : α) (z : Value) (n : Nat) (hz : z.cells = #[enc x]) (hm : n ≤ maxLen) :
    Ow enc (w.alloc (.cells (madeCells z.cells n) e)) w.heap.size e (some ⟨w.heap.size, 0, none⟩) n n (List.replicate n x) := by
  have := Ow.new (enc := enc) w e (madeCells z.cells n) (List.replicate n x) (by rw [hz, toList_madeCells_one]; simp) (by simpa using hm)
  simpa using this
theorem tabB_zero (n : Nat) : List.replicate n (0 : UInt8) = tabB n (fun _ => 0) := by simp [tabB, List.map_const']
theorem tab_zero (n : Nat) : List.replicate n (0 : Int) = tab n (fun _ => 0) := by simp [tab, List.map_const']
end Go.Proofs.Ytalmdccgpigppaa
namespace Go.Proofs.Ytalmdccgpigppaa
open Go.RowKit

/-- A number as one without a sign, of 64 bits; and back. -/
def un (n : Int) : Nat := (n % 18446744073709551616).toNat
def sg (u : Nat) : Int := if u < 9223372036854775808 then (u : Int) else (u : Int) - 18446744073709551616
theorem un_lt (n : Int) : un n < 18446744073709551616 := by unfold un; omega
theorem sg_un {n : Int} (h0 : -9223372036854775808 ≤ n) (h1 : n ≤ 9223372036854775807) : sg (un n) = n := by unfold sg un; split <;> omega
theorem un_sg {u : Nat} (h : u < 18446744073709551616) : un (sg u) = u := by unfold sg un; split <;> omega
theorem wrap_un (n : Int) : IntKind.u64.wrap n = (un n : Nat) := by rw [IntKind.wrap_u64]; unfold un; omega
theorem wrap_sg {u : Nat} (h : u < 18446744073709551616) : IntKind.i64.wrap (u : Int) = sg u := by rw [IntKind.wrap_i64]; unfold sg; split <;> omega

/-- Eight bytes, the lowest first. -/
def putL (u : Nat) : List UInt8 := tabB 8 (fun i => u / 256 ^ i % 256)
/-- The number of bytes, the lowest first. -/
def getL : List UInt8 → Nat
  | [] => 0
  | c :: l => c.toNat + 256 * getL l
theorem getL_lt (l : List UInt8) : getL l < 256 ^ l.length := by
  induction l with
  | nil => simp [getL]
  | cons c l ih =>
    have := c.toNat_lt
    simp only [getL, List.length_cons, Nat.pow_succ]
    omega
theorem putL_len (u : Nat) : (putL u).length = 8 := by simp [putL, tabB_len]
theorem getL_tab (u n : Nat) : getL (tabB n (fun i => u / 256 ^ i % 256)) = u % 256 ^ n := by
  induction n generalizing u with
  | zero => simp [tabB, getL, Nat.mod_one]
  | succ n ih =>
    have e : tabB (n + 1) (fun i => u / 256 ^ i % 256) = UInt8.ofNat (u % 256) :: tabB n (fun i => u / 256 / 256 ^ i % 256) := by
      unfold tabB
      rw [List.range_succ_eq_map, List.map_cons, List.map_map]
      congr 1
      · simp
      · apply List.map_congr_left
        intro i _
        simp only [Function.comp, Nat.succ_eq_add_one]
        rw [Nat.div_div_eq_div_mul, Nat.pow_succ, Nat.mul_comm 256]
    rw [e]
    simp only [getL]
    rw [ih, UInt8.toNat_ofNat_of_lt' (by simp [UInt8.size]; omega), Nat.pow_succ, Nat.mul_comm (256 ^ n) 256, Nat.mod_mul]
theorem getL_putL (u : Nat) (h : u < 18446744073709551616) : getL (putL u) = u := by
  unfold putL; rw [getL_tab]; exact Nat.mod_eq_of_lt (by omega)

/-- A number's digits, the lowest first: all but the last have 128 more. -/
def digL : Nat → Nat → List UInt8
  | 0, n => [UInt8.ofNat n]
  | f + 1, n => if n < 128 then [UInt8.ofNat n] else UInt8.ofNat (n % 128 + 128) :: digL f (n / 128)
/-- A number, turned: natural ones are doubled. -/
def zz (n : Int) : Nat := if 0 ≤ n then (2 * n).toNat else (-2 * n - 1).toNat
theorem zz_lt {n : Int} (h0 : -9223372036854775808 ≤ n) (h1 : n ≤ 9223372036854775807) : zz n < 18446744073709551616 := by unfold zz; split <;> omega
theorem digL_lt' {f n : Nat} (h : n < 128) : digL f n = [UInt8.ofNat n] := by
  cases f with
  | zero => rfl
  | succ f => unfold digL; rw [if_pos h]
theorem digL_len (f : Nat) : ∀ n, (digL f n).length ≤ f + 1 ∧ 1 ≤ (digL f n).length := by
  induction f with
  | zero => intro n; simp [digL]
  | succ f ih =>
    intro n
    unfold digL
    split
    · simp
    · have := ih (n / 128); simp; omega

/-! ### What the readers answer -/
end Go.Proofs.Ytalmdccgpigppaa
namespace Go.Proofs.Ytalmdccgpigppaa
open Go.RowKit

theorem put_any (n : Int) (w : World) : Calls Try.prog 56 #[.int .i64 n] w fun e w' => ∃ A c, e = .returned (.slice A 8 c) ∧ OB w' w.heap.size 5 A 8 c (putL (un n)) ∧ Below w.heap.size w w' := by
  have hw := wrap_un n
  have hu := un_lt n
  generalize un n = U at *
  have hmk : ∀ W : World, (Instr.makeSlice 26 (.int .i64 8) (.int .i64 8)).run Try.prog W = .ok (.slice (some ⟨W.heap.size, 0, none⟩) 8 8) (W.alloc (.cells (madeCells (Value.int .u8 0).cells 8) 5)) := run_make_one elemU8 8 (by omega) (by omega)
  have hown0 : Ow bv (w.alloc (.cells (madeCells (Value.int .u8 0).cells 8) 5)) w.heap.size 5 (some ⟨w.heap.size, 0, none⟩) 8 8 (tabB 8 (fun i => if i < 0 then U / 256 ^ i % 256 else 0)) := by
    have := Ow.made (enc := bv) w 5 0 (.int .u8 0) 8 rfl (by decide)
    rwa [tabB_zero] at this
  have hb0 : Below w.heap.size w (w.alloc (.cells (madeCells (Value.int .u8 0).cells 8) 5)) := (by (repeat' (first | (with_reducible exact Below.refl _ _) | (with_reducible assumption) | (with_reducible refine Below.drew ?_) | (with_reducible refine below_drewN ?_ _) | (with_reducible refine Below.alloc ?_ ?_ _) | (with_reducible refine Below.setCell ?_ ?_ _) | omega | (simp; done) | (simp; omega))))
  go_enter Try.func56, Try.ntmps56
  go_wp2
  go_loopw [4, 11] (fun uu kk wr => ∃ k u, k ≤ 8 ∧ kk = .int .i64 (k : Nat) ∧ uu = .int .u64 (u : Nat) ∧ Hid (u = U / 256 ^ k) ∧ u < 18446744073709551616 ∧ Ow bv wr w.heap.size 5 (some ⟨w.heap.size, 0, none⟩) 8 8 (tabB 8 (fun i => if i < k then U / 256 ^ i % 256 else 0)) ∧ Below w.heap.size w wr) (fun _ kk _ => 8 - (intOf kk).toNat)
  case atStart => exact ⟨0, U, by omega, rfl, rfl, by show U = U / 256 ^ 0; omega, hu, hown0, hb0⟩
  case round =>
    obtain ⟨k, u, hk, rfl, rfl, hU, hu, hown, hb⟩ := hrel
    have hbs := hb.size
    by_cases hk8 : k < 8
    · have hfree := hown.free k
      have hset := fun v hv => Lib.hid (hown.tabB_set (f' := fun i => if i < k + 1 then U / 256 ^ i % 256 else 0) k (u % 256) v hk8 (by omega) hv (fun i hi => by
        by_cases h1 : i = k
        · subst h1; simp [hU.out]
        · by_cases h2 : i < k
          · simp [h1, h2, Nat.lt_succ_of_lt h2]
          · simp [h1, h2, show ¬ i < k + 1 from by omega]))
      have hU2 : Hid (u / 256 = U / 256 ^ (k + 1)) := by
        show _ = _
        rw [hU.out, Nat.div_div_eq_div_mul, Nat.pow_succ]
      obtain ⟨b1, o1, hA, _, hc⟩ := hown.rd.rb.at_ hk8
      injection hA with hA
      injection hA with h1 h2 _
      subst h1 h2
      rw [Nat.zero_add] at hc
      clear hown
      go_wp2
      go_roundw
      case rel => exact ⟨k + 1, u / 256, by omega, by go_num, by go_num, hU2, by omega, (hset _ (by first | rfl | (congr 1; omega))).out, (by (repeat' (first | (with_reducible exact Below.refl _ _) | (with_reducible assumption) | (with_reducible refine Below.drew ?_) | (with_reducible refine below_drewN ?_ _) | (with_reducible refine Below.alloc ?_ ?_ _) | (with_reducible refine Below.setCell ?_ ?_ _) | omega | (simp; done) | (simp; omega))))⟩
      case measure => simp [intOf]; omega
    · have hk9 : k = 8 := by omega
      subst hk9
      go_wp2
      go_ret
      refine ⟨_, 8, rfl, ?_, hb⟩
      unfold putL
      rw [tabB_congr (g := fun i => U / 256 ^ i % 256)] at hown
      · exact hown
      · intro i hi; simp [hi]
theorem ofInt_u64' (a : Nat) (ha : a < 18446744073709551616) : (BitVec.ofInt 64 (a : Int)).toNat = a := by
  rw [BitVec.ofInt_natCast, BitVec.toNat_ofNat]; exact Nat.mod_eq_of_lt (by omega)
theorem u64_shl8_or (u y : Nat) (hu : u ≤ 72057594037927935) (hy : y < 256) : bits .or .u64 ((u : Int) * 256) (y : Int) = ((y + 256 * u : Nat) : Int) := by
  have h := Nat.two_pow_add_eq_or_of_lt (i := 8) (b := y) (by omega) u
  show IntKind.u64.wrap ((BitVec.ofInt 64 ((u * 256 : Nat) : Int) ||| BitVec.ofInt 64 (y : Int)).toNat : Int) = _
  rw [BitVec.toNat_or, ofInt_u64' _ (by omega), ofInt_u64' y (by omega), IntKind.wrap_u64, show u * 256 = 2 ^ 8 * u from by omega, ← h]
  omega
theorem getL_drop (l : List UInt8) (k : Nat) (h : k < l.length) : getL (l.drop k) = byteAt l k + 256 * getL (l.drop (k + 1)) := by
  rw [List.drop_eq_getElem_cons h]; simp [getL, byteAt, List.getD_eq_getElem?_getD, h]
theorem get_any (A : Option Addr) (c : Nat) (l : List UInt8) (w : World) (hl : RB w A 8 l) : Calls Try.prog 80 #[.slice A 8 c] w fun e w' => e = .returned (.tuple #[.int .i64 (sg (getL l)), .int .i64 0]) ∧ w = w' := by
  have hlt : getL l < 18446744073709551616 := by have := getL_lt l; rw [hl.1] at this; omega
  have hwr := wrap_sg hlt
  have hlen := Lib.hid hl.1
  generalize hz : sg (getL l) = z at *
  clear hz
  go_enter Try.func80, Try.ntmps80
  go_wp2
  go_loop [4, 5] (fun uu kk => ∃ k u, k ≤ 8 ∧ kk = .int .i64 (8 - (k : Nat)) ∧ uu = .int .u64 (u : Nat) ∧ Hid (u = getL (l.drop (8 - k)))) (fun _ kk => (intOf kk).toNat)
  case atStart => exact ⟨0, 0, by omega, rfl, rfl, by show 0 = _; rw [List.drop_of_length_le (by rw [hlen.out]; omega)]; rfl⟩
  case round =>
    obtain ⟨k, u, hk, rfl, rfl, hU⟩ := hrel
    by_cases hk8 : k < 8
    · obtain ⟨b, o, rfl, _, hc⟩ := hl.at_ (k := 7 - k) (by omega)
      rw [show o + (7 - k) = o + (8 - k - 1) from by omega] at hc
      have hb := byteAt_lt l (7 - k)
      have hd := getL_drop l (7 - k) (by rw [hlen.out]; omega)
      rw [show 7 - k + 1 = 8 - k from by omega, ← hU.out] at hd
      have hd2 : Hid (getL (l.drop (8 - (k + 1))) = byteAt l (7 - k) + 256 * u) := by rw [show 8 - (k + 1) = 7 - k from by omega]; exact hd
      clear hd
      have hu : u ≤ 72057594037927935 := by
        rw [hU.out]
        have h1 := getL_lt (l.drop (8 - k))
        have h2 : (l.drop (8 - k)).length ≤ 7 := by rw [List.length_drop, hlen.out]; omega
        have h3 : 256 ^ (l.drop (8 - k)).length ≤ 256 ^ 7 := Nat.pow_le_pow_right (by omega) h2
        omega
      generalize byteAt l (7 - k) = y at *
      have hor := u64_shl8_or u y hu hb
      go_wp2
      go_round
      case rel => exact ⟨k + 1, y + 256 * u, by omega, by go_num, by go_num, hd2.out.symm⟩
      case measure => simp [intOf]; omega
    · have hk9 : k = 8 := by omega
      subst hk9
      have hU2 : u = getL l := hU.out
      rw [← hU2] at hwr
      clear hU hU2
      go_wp2
      go_ret2
      exact ⟨rfl, rfl⟩
end Go.Proofs.Ytalmdccgpigppaa
