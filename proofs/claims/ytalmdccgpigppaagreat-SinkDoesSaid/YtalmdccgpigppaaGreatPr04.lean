/- Parts: NumA, PlainA, Crc. -/
import Derived.Test.YtalmdccgpigppaaGreatPr03
import Derived.WalkKit
import Derived.Test.YtalmdccgpigppaaGreatPr00
namespace Go.Proofs.YtalmdccgpigppaaGreat
open Go.RowKit

theorem put_any (n : Int) (w : World) : Calls Tryz.prog 121 #[.int .i64 n] w fun e w' => ∃ A c, e = .returned (.slice A 8 c) ∧ OB w' w.heap.size 5 A 8 c (putL (un n)) ∧ Below w.heap.size w w' := by
  have hw := wrap_un n
  have hu := un_lt n
  generalize un n = U at *
  have hmk : ∀ W : World, (Instr.makeSlice 22 (.int .i64 8) (.int .i64 8)).run Tryz.prog W = .ok (.slice (some ⟨W.heap.size, 0, none⟩) 8 8) (W.alloc (.cells (madeCells (Value.int .u8 0).cells 8) 5)) := run_make_one elemU8 8 (by omega) (by omega)
  have hown0 : Ow bv (w.alloc (.cells (madeCells (Value.int .u8 0).cells 8) 5)) w.heap.size 5 (some ⟨w.heap.size, 0, none⟩) 8 8 (tabB 8 (fun i => if i < 0 then U / 256 ^ i % 256 else 0)) := by
    have := Ow.made (enc := bv) w 5 0 (.int .u8 0) 8 rfl (by decide)
    rwa [tabB_zero] at this
  have hb0 : Below w.heap.size w (w.alloc (.cells (madeCells (Value.int .u8 0).cells 8) 5)) := (by (repeat' (first | (with_reducible exact Below.refl _ _) | (with_reducible assumption) | (with_reducible refine Below.drew ?_) | (with_reducible refine below_drewN ?_ _) | (with_reducible refine Below.alloc ?_ ?_ _) | (with_reducible refine Below.setCell ?_ ?_ _) | omega | (simp; done) | (simp; omega))))
  go_enter Tryz.func121, Tryz.ntmps121
  go_wp2
  go_loopw [4, 11] (fun uu kk wr => ∃ k u, k ≤ 8 ∧ kk = .int .i64 (k : Nat) ∧ uu = .int .u64 (u : Nat) ∧ Hid (u = U / 256 ^ k) ∧ u < 18446744073709551616 ∧ Ow bv wr w.heap.size 5 (some ⟨w.heap.size, 0, none⟩) 8 8 (tabB 8 (fun i => if i < k then U / 256 ^ i % 256 else 0)) ∧ Below w.heap.size w wr) (fun _ kk _ => 8 - (intOf kk).toNat)
  case atStart => exact ⟨0, U, by omega, rfl, rfl, by show U = U / 256 ^ 0; omega, hu, hown0, hb0⟩
  case round =>
    obtain ⟨k, u, hk, rfl, rfl, hU, hu, hown, hb⟩ := hrel
    have hbs := hb.size
    by_cases hk8 : k < 8
    · have hfree := hown.free k
      have hset := fun v hv => Lib.hid (hown.tabB_set (f' := fun i => if i < k + 1 then U / 256 ^ i % 256 else 0) k (u % 256) v hk8 (by omega) hv (fun i hi => by
        by_cases h1 : i = k
        · subst h1; simp [hU.out]
        · by_cases h2 : i < k
          · simp [h1, h2, Nat.lt_succ_of_lt h2]
          · simp [h1, h2, show ¬ i < k + 1 from by omega]))
      have hU2 : Hid (u / 256 = U / 256 ^ (k + 1)) := by
        show _ = _
        rw [hU.out, Nat.div_div_eq_div_mul, Nat.pow_succ]
      obtain ⟨b1, o1, hA, _, hc⟩ := hown.rd.rb.at_ hk8
      injection hA with hA
      injection hA with h1 h2 _
      subst h1 h2
      rw [Nat.zero_add] at hc
      clear hown
      go_wp2
      go_roundw
      case rel => exact ⟨k + 1, u / 256, by omega, by go_num, by go_num, hU2, by omega, (hset _ (by first | rfl | (congr 1; omega))).out, (by (repeat' (first | (with_reducible exact Below.refl _ _) | (with_reducible assumption) | (with_reducible refine Below.drew ?_) | (with_reducible refine below_drewN ?_ _) | (with_reducible refine Below.alloc ?_ ?_ _) | (with_reducible refine Below.setCell ?_ ?_ _) | omega | (simp; done) | (simp; omega))))⟩
      case measure => simp [intOf]; omega
    · have hk9 : k = 8 := by omega
      subst hk9
      go_wp2
      go_ret
      refine ⟨_, 8, rfl, ?_, hb⟩
      unfold putL
      rw [tabB_congr (g := fun i => U / 256 ^ i % 256)] at hown
      · exact hown
      · intro i hi; simp [hi]
theorem ofInt_u64' (a : Nat) (ha : a < 18446744073709551616) : (BitVec.ofInt 64 (a : Int)).toNat = a := by
  rw [BitVec.ofInt_natCast, BitVec.toNat_ofNat]; exact Nat.mod_eq_of_lt (by omega)
theorem u64_shl8_or (u y : Nat) (hu : u ≤ 72057594037927935) (hy : y < 256) : bits .or .u64 ((u : Int) * 256) (y : Int) = ((y + 256 * u : Nat) : Int) := by
  have h := Nat.two_pow_add_eq_or_of_lt (i := 8) (b := y) (by omega) u
  show IntKind.u64.wrap ((BitVec.ofInt 64 ((u * 256 : Nat) : Int) ||| BitVec.ofInt 64 (y : Int)).toNat : Int) = _
  rw [BitVec.toNat_or, ofInt_u64' _ (by omega), ofInt_u64' y (by omega), IntKind.wrap_u64, show u * 256 = 2 ^ 8 * u from by omega, ← h]
  omega
theorem getL_drop (l : List UInt8) (k : Nat) (h : k < l.length) : getL (l.drop k) = byteAt l k + 256 * getL (l.drop (k + 1)) := by
  rw [List.drop_eq_getElem_cons h]; simp [getL, byteAt, List.getD_eq_getElem?_getD, h]
theorem get_any (A : Option Addr) (c : Nat) (l : List UInt8) (w : World) (hl : RB w A 8 l) : Calls Tryz.prog 182 #[.slice A 8 c] w fun e w' => e = .returned (.tuple #[.int .i64 (sg (getL l)), .int .i64 0]) ∧ w = w' := by
  have hlt : getL l < 18446744073709551616 := by have := getL_lt l; rw [hl.1] at this; omega
  have hwr := wrap_sg hlt
  have hlen := Lib.hid hl.1
  generalize hz : sg (getL l) = z at *
  clear hz
  go_enter Tryz.func182, Tryz.ntmps182
  go_wp2
  go_loop [4, 5] (fun uu kk => ∃ k u, k ≤ 8 ∧ kk = .int .i64 (8 - (k : Nat)) ∧ uu = .int .u64 (u : Nat) ∧ Hid (u = getL (l.drop (8 - k)))) (fun _ kk => (intOf kk).toNat)
  case atStart => exact ⟨0, 0, by omega, rfl, rfl, by show 0 = _; rw [List.drop_of_length_le (by rw [hlen.out]; omega)]; rfl⟩
  case round =>
    obtain ⟨k, u, hk, rfl, rfl, hU⟩ := hrel
    by_cases hk8 : k < 8
    · obtain ⟨b, o, rfl, _, hc⟩ := hl.at_ (k := 7 - k) (by omega)
      rw [show o + (7 - k) = o + (8 - k - 1) from by omega] at hc
      have hb := byteAt_lt l (7 - k)
      have hd := getL_drop l (7 - k) (by rw [hlen.out]; omega)
      rw [show 7 - k + 1 = 8 - k from by omega, ← hU.out] at hd
      have hd2 : Hid (getL (l.drop (8 - (k + 1))) = byteAt l (7 - k) + 256 * u) := by rw [show 8 - (k + 1) = 7 - k from by omega]; exact hd
      clear hd
      have hu : u ≤ 72057594037927935 := by
        rw [hU.out]
        have h1 := getL_lt (l.drop (8 - k))
        have h2 : (l.drop (8 - k)).length ≤ 7 := by rw [List.length_drop, hlen.out]; omega
        have h3 : 256 ^ (l.drop (8 - k)).length ≤ 256 ^ 7 := Nat.pow_le_pow_right (by omega) h2
        omega
      generalize byteAt l (7 - k) = y at *
      have hor := u64_shl8_or u y hu hb
      go_wp2
      go_round
      case rel => exact ⟨k + 1, y + 256 * u, by omega, by go_num, by go_num, hd2.out.symm⟩
      case measure => simp [intOf]; omega
    · have hk9 : k = 8 := by omega
      subst hk9
      have hU2 : u = getL l := hU.out
      rw [← hU2] at hwr
      clear hU hU2
      go_wp2
      go_ret2
      exact ⟨rfl, rfl⟩
end Go.Proofs.YtalmdccgpigppaaGreat
namespace Go.Proofs.YtalmdccgpigppaaGreat
open Go.RowKit

def crcBit (x : Nat) : Nat := if x % 2 = 1 then (x / 2) ^^^ 3988292384 else x / 2
def crcBits : Nat → Nat → Nat
  | 0, x => x
  | k + 1, x => crcBits k (crcBit x)
def crcStep (c b : Nat) : Nat := crcBits 8 (c ^^^ b)
def crcFold (c : Nat) (l : List UInt8) : Nat := l.foldl (fun c b => crcStep c b.toNat) c
def crcMore (s : Nat) (l : List UInt8) : Nat := 4294967295 - crcFold (4294967295 - s) l
def crcSum (ls : List (List UInt8)) : Nat := ls.foldl crcMore 0

theorem u32_lt_xor {a b : Nat} (ha : a < 4294967296) (hb : b < 4294967296) : a ^^^ b < 4294967296 := Nat.xor_lt_two_pow (n := 32) ha hb
theorem crcBit_lt {x : Nat} (h : x < 4294967296) : crcBit x < 4294967296 := by
  unfold crcBit; split
  · exact u32_lt_xor (by omega) (by omega)
  · omega
theorem crcBits_lt (k : Nat) : ∀ {x : Nat}, x < 4294967296 → crcBits k x < 4294967296 := by
  induction k with
  | zero => intro x h; exact h
  | succ k ih => intro x h; exact ih (crcBit_lt h)
theorem crcStep_lt {c b : Nat} (hc : c < 4294967296) (hb : b < 256) : crcStep c b < 4294967296 := crcBits_lt 8 (u32_lt_xor hc (by omega))
theorem crcFold_lt (l : List UInt8) : ∀ {c : Nat}, c < 4294967296 → crcFold c l < 4294967296 := by
  induction l with
  | nil => intro c h; exact h
  | cons x l ih => intro c h; exact ih (crcStep_lt h x.toNat_lt)
theorem crcMore_lt (s : Nat) (l : List UInt8) : crcMore s l < 4294967296 := by unfold crcMore; omega
theorem crcFold_snoc (c : Nat) (a : List UInt8) (x : UInt8) : crcFold c (a ++ [x]) = crcStep (crcFold c a) x.toNat := by simp [crcFold]

theorem crcSum_take (ls : List (List UInt8)) (k : Nat) (h : k < ls.length) : crcSum (ls.take (k + 1)) = crcMore (crcSum (ls.take k)) (ls.getD k []) := by
  unfold crcSum
  rw [List.take_succ_eq_append_getElem h, List.foldl_append, List.getD_eq_getElem?_getD, List.getElem?_eq_getElem h]; rfl
theorem crcSum_lt (ls : List (List UInt8)) : crcSum ls < 4294967296 := by
  rcases List.eq_nil_or_concat ls with rfl | ⟨l, x, rfl⟩
  · decide
  · have : crcSum (l ++ [x]) = crcMore (crcSum l) x := by simp [crcSum]
    simp only [List.concat_eq_append, this]; exact crcMore_lt _ _
theorem IntKind.wrap_u32' (n : Int) : IntKind.u32.wrap n = n % 4294967296 := by simp [IntKind.wrap, IntKind.bits, IntKind.signed]
theorem ofInt_u32 (a : Nat) (ha : a < 4294967296) : (BitVec.ofInt 32 (a : Int)).toNat = a := by
  rw [BitVec.ofInt_natCast, BitVec.toNat_ofNat]; exact Nat.mod_eq_of_lt (by omega)
theorem u32_xor (a b : Nat) (ha : a < 4294967296) (hb : b < 4294967296) : bits .xor .u32 (a : Int) (b : Int) = ((a ^^^ b : Nat) : Int) := by
  have hx := u32_lt_xor ha hb
  show IntKind.u32.wrap ((BitVec.ofInt 32 (a : Int) ^^^ BitVec.ofInt 32 (b : Int)).toNat : Int) = _
  rw [BitVec.toNat_xor, ofInt_u32 a ha, ofInt_u32 b hb, IntKind.wrap_u32']
  omega
theorem u32_and_one (a : Nat) (ha : a < 4294967296) : bits .and .u32 (a : Int) 1 = ((a % 2 : Nat) : Int) := by
  show IntKind.u32.wrap ((BitVec.ofInt 32 (a : Int) &&& BitVec.ofInt 32 ((1 : Nat) : Int)).toNat : Int) = _
  rw [BitVec.toNat_and, ofInt_u32 a ha, ofInt_u32 1 (by omega), IntKind.wrap_u32', Nat.and_one_is_mod]
  omega
theorem u32_turn (x : Nat) (hx : x < 4294967296) : bits .xor .u32 ((x : Int) / 2) 3988292384 = ((x / 2 ^^^ 3988292384 : Nat) : Int) := by
  have := u32_xor (x / 2) 3988292384 (by omega) (by omega)
  rw [← this]; rfl
theorem u32_not (s : Nat) (hs : s < 4294967296) : bits .xor .u32 IntKind.u32.max (s : Int) = ((4294967295 - s : Nat) : Int) := by
  show IntKind.u32.wrap ((BitVec.ofInt 32 IntKind.u32.max ^^^ BitVec.ofInt 32 (s : Int)).toNat : Int) = _
  have h1 : BitVec.ofInt 32 IntKind.u32.max = BitVec.allOnes 32 := by decide
  rw [h1, BitVec.allOnes_xor, BitVec.toNat_not, ofInt_u32 s hs, IntKind.wrap_u32']
  omega
end Go.Proofs.YtalmdccgpigppaaGreat
namespace Go.Proofs.YtalmdccgpigppaaGreat
open Go.RowKit

theorem step_any (c b : Nat) (w : World) (hc : c < 4294967296) (hb : b < 256) :
    Calls Tryz.prog 213 #[.int .u32 c, .int .u8 b] w fun e w' => e = .returned (.int .u32 (crcStep c b)) ∧ w = w' := by
  have hx := u32_xor c b hc (by omega)
  have hlt : c ^^^ b < 4294967296 := u32_lt_xor hc (by omega)
  have hd : crcStep c b = crcBits 8 (c ^^^ b) := rfl
  generalize hz : crcStep c b = z at *
  generalize hy : c ^^^ b = y at *
  have Hd := Lib.hid hd; clear hd hz hy
  go_enter Tryz.func213, Tryz.ntmps213
  go_wp2
  go_loop [0, 9] (fun c i => ∃ k : Nat, ∃ x : Nat, k ≤ 8 ∧ x < 4294967296 ∧ Hid (z = crcBits (8 - k) x) ∧ i = .int .i64 k ∧ c = .int .u32 x) (fun _ i => 8 - (intOf i).toNat)
  case atStart => exact ⟨0, y, Nat.zero_le _, hlt, Hd, rfl, rfl⟩
  case round =>
    obtain ⟨k, x, hk, hx, HX, rfl, rfl⟩ := hrel
    have ha := u32_and_one x hx
    have ht := u32_turn x hx
    have hb := @crcBit_lt x hx
    by_cases hlt : k < 8
    · have HB : Hid (crcBits (8 - k) x = crcBits (8 - (k + 1)) (crcBit x)) := by rw [show 8 - k = (8 - (k + 1)) + 1 from by omega]; rfl
      by_cases h1 : x % 2 = 1
      · have HC : Hid (crcBit x = x / 2 ^^^ 3988292384) := if_pos h1
        have h2 : (((x % 2 : Nat) : Int) == 1) = true := by rw [beq_iff_eq]; omega
        clear h1
        go_wp2
        go_round
        case rel => exact ⟨k + 1, _, by omega, hb, HX.out.trans HB.out, by go_num, by rw [HC.out]⟩
        case measure => simp [intOf]; omega
      · have HC : Hid (crcBit x = x / 2) := if_neg h1
        have h2 : (((x % 2 : Nat) : Int) == 1) = false := by rw [beq_eq_false_iff_ne]; omega
        clear h1
        go_wp2
        go_round
        case rel => exact ⟨k + 1, _, by omega, hb, HX.out.trans HB.out, by go_num, by rw [HC.out]; rfl⟩
        case measure => simp [intOf]; omega
    · go_wp2
      go_ret
      refine ⟨?_, rfl⟩
      have e : 8 - k = 0 := by omega
      rw [HX.out, e]; rfl
theorem crcFold_take (c : Nat) (l : List UInt8) (k : Nat) (h : k < l.length) : crcFold c (l.take (k + 1)) = crcStep (crcFold c (l.take k)) (byteAt l k) := by
  rw [take_succ_byte l k h, crcFold_snoc]; rfl

theorem more_any (s : Nat) (a : Option Addr) (n c : Nat) (l : List UInt8) (w : World) (hs : s < 4294967296) (hl : RB w a n l) (hn : n ≤ maxLen) :
    Calls Tryz.prog 179 #[.int .u32 s, .slice a n c] w fun e w' => e = .returned (.int .u32 (crcMore s l)) ∧ w = w' := by
  unfold maxLen at hn
  have hd : crcMore s l = 4294967295 - crcFold (4294967295 - s) l := rfl
  have hlen : l.length = n := hl.1
  generalize hz : crcMore s l = z at *
  have HL := Lib.hid hlen; clear hlen
  have Hd := Lib.hid hd; clear hd hz
  have hsg : IntKind.u32.signed = false := rfl
  have hnot := u32_not s hs
  go_enter Tryz.func179, Tryz.ntmps179
  go_wp2
  go_loop [5, 12] (fun c i => ∃ k : Nat, ∃ x : Nat, k ≤ n ∧ x < 4294967296 ∧ Hid (x = crcFold (4294967295 - s) (l.take k)) ∧ i = .int .i64 k ∧ c = .int .u32 x) (fun _ i => n - (intOf i).toNat)
  case atStart => exact ⟨0, 4294967295 - s, Nat.zero_le _, by omega, rfl, rfl, rfl⟩
  case round =>
    obtain ⟨k, x, hk, hx, HX, rfl, rfl⟩ := hrel
    clear hnot
    by_cases hlt : k < n
    · have HF : Hid (crcFold (4294967295 - s) (l.take (k + 1)) = crcStep x (byteAt l k)) := by rw [HX.out]; exact crcFold_take _ _ _ (by rw [HL.out]; exact hlt)
      obtain ⟨b, o, rfl, hb, hc⟩ := hl.at_ hlt
      have h8 := byteAt_lt l k
      have hy := crcStep_lt hx h8
      go_wp2_with (go_at_call 213; (with_reducible refine (step_any _ _ _ hx h8).mono ?_); rintro e w' ⟨rfl, rfl⟩)
      go_round
      case rel => exact ⟨k + 1, _, by omega, hy, HF.out.symm, by go_num, rfl⟩
      case measure => simp [intOf]; omega
    · have hnot := u32_not x hx
      go_wp2
      go_ret
      exact ⟨ret_nat (by rw [Hd.out, HX.out, List.take_of_length_le (by rw [HL.out]; omega)]), rfl⟩

/-- A row of slices, each of which reads as a list of bytes. -/
def RBs (w : World) (a : Option Addr) (n : Nat) (ls : List (List UInt8)) : Prop :=
  ls.length = n ∧ ∃ V : Nat → Option Addr × Nat × Nat, Row w a ls.length (fun i => .slice (V i).1 (V i).2.1 (V i).2.2) ∧ ∀ i, i < ls.length → RB w (V i).1 (V i).2.1 (ls.getD i []) ∧ (V i).2.1 ≤ maxLen

theorem sum_any (a : Option Addr) (n c : Nat) (ls : List (List UInt8)) (w : World) (hl : RBs w a n ls) (hm : n ≤ maxLen) :
    Calls Tryz.prog 124 #[.slice a n c] w fun e w' => e = .returned (.int .u32 (crcSum ls)) ∧ w = w' := by
  unfold maxLen at hm
  obtain ⟨hn, V, hrow, hV⟩ := hl
  generalize hz : crcSum ls = z at *
  have Hn := Lib.hid hn
  rw [hn] at hrow
  clear hn
  have Hz := Lib.hid hz; clear hz
  go_enter Tryz.func124, Tryz.ntmps124
  go_wp2
  go_loop [3, 8] (fun c i => ∃ k : Nat, ∃ x : Nat, k ≤ n ∧ x < 4294967296 ∧ Hid (x = crcSum (ls.take k)) ∧ i = .int .i64 k ∧ c = .int .u32 x) (fun _ i => n - (intOf i).toNat)
  case atStart => exact ⟨0, 0, Nat.zero_le _, by omega, rfl, rfl, rfl⟩
  case round =>
    obtain ⟨k, x, hk, hx, HX, rfl, rfl⟩ := hrel
    by_cases hlt : k < n
    · have HF : Hid (crcSum (ls.take (k + 1)) = crcMore x (ls.getD k [])) := by rw [HX.out]; exact crcSum_take _ _ (by rw [Hn.out]; exact hlt)
      obtain ⟨b, o, rfl, hb, hc⟩ := hrow.at_ hlt
      obtain ⟨hr, hm2⟩ := hV k (by rw [Hn.out]; exact hlt)
      have hy := crcMore_lt x (ls.getD k [])
      generalize ls.getD k [] = lk at *
      go_wp2_with (go_at_call 179; (with_reducible refine (more_any _ _ _ _ lk _ hx hr hm2).mono ?_); rintro e w' ⟨rfl, rfl⟩)
      go_round
      case rel => exact ⟨k + 1, _, by omega, hy, HF.out.symm, by go_num, rfl⟩
      case measure => simp [intOf]; omega
    · go_wp2
      go_ret
      exact ⟨ret_nat (by rw [HX.out, ← Hz.out, List.take_of_length_le (by rw [Hn.out]; omega)]), rfl⟩
theorem RBs.one {w : World} {g : Nat} {t : TypeId} {fr : Nat × Nat} {A : Option Addr} {n c : Nat} {l : List UInt8} (hg : w.heap[g]? = some (.cells #[.slice A n c] t fr)) (h : RB w A n l) (hn : n ≤ maxLen) :
    RBs w (some ⟨g, 0, none⟩) 1 [l] :=
  ⟨rfl, fun _ => (A, n, c), Row.of_block hg 0 (fun i hi => by
    have : i = 0 := by simp at hi; exact hi
    subst this; rfl), fun i hi => by
    have : i = 0 := by simp at hi; exact hi
    subst this; exact ⟨h, hn⟩⟩
theorem RBs.two {w : World} {g : Nat} {t : TypeId} {fr : Nat × Nat} {A B : Option Addr} {n c m d : Nat} {l k : List UInt8} (hg : w.heap[g]? = some (.cells #[.slice A n c, .slice B m d] t fr)) (h : RB w A n l) (hn : n ≤ maxLen) (h' : RB w B m k) (hm : m ≤ maxLen) :
    RBs w (some ⟨g, 0, none⟩) 2 [l, k] :=
  ⟨rfl, fun i => if i = 0 then (A, n, c) else (B, m, d), Row.of_block hg 0 (fun i hi => by
    rcases (by simp at hi; omega : i = 0 ∨ i = 1) with rfl | rfl <;> rfl), fun i hi => by
    rcases (by simp at hi; omega : i = 0 ∨ i = 1) with rfl | rfl
    · exact ⟨h, hn⟩
    · exact ⟨h', hm⟩⟩
end Go.Proofs.YtalmdccgpigppaaGreat
