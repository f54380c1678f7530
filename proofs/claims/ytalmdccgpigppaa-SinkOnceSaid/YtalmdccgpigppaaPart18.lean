/- Parts: NumC, NumD, PlainNumB, PlainNumC, PlainRow. -/
import Derived.Test.YtalmdccgpigppaaPart17
import Derived.Test.YtalmdccgpigppaaPart03
namespace Go.Proofs.Ytalmdccgpigppaa
open Go.RowKit

theorem endsL_cons (most k : Nat) (l : List UInt8) (h : k < l.length) : endsL most k (l.drop k) =
    if most ≤ k then (0, 11) else if byteAt l k < 128 then (if 0 < k ∧ byteAt l k = 0 then (0, 11) else (k + 1, 0)) else endsL most (k + 1) (l.drop (k + 1)) := by
  rw [List.drop_eq_getElem_cons h]
  have e : l[k].toNat = byteAt l k := by simp [byteAt, List.getD_eq_getElem?_getD, h]
  conv => lhs; unfold endsL
  rw [e]
theorem endsL_nil (most k : Nat) (l : List UInt8) (h : l.length ≤ k) : endsL most k (l.drop k) = (0, if k < most then 10 else 11) := by
  rw [List.drop_of_length_le h]; rfl
theorem sevL_snoc (l : List UInt8) (k : Nat) (h : k < l.length) : sevL (l.take (k + 1)) = sevL (l.take k) + 128 ^ k * (byteAt l k % 128) := by
  rw [take_succ_byte l k h, sevL_append]
  have e : (l.take k).length = k := by rw [List.length_take]; omega
  rw [e]; simp [sevL, byteAt]

def nreadV (N : Nat) (z : Nat × Nat) (l : List UInt8) : Nat := if z.2 = 0 then sevL (l.take z.1) % N else 0
set_option maxHeartbeats 1000000 in
set_option maxRecDepth 100000 in
theorem read_u (A : Option Addr) (n c : Nat) (l : List UInt8) (w : World) (hl : RB w A n l) (hn : n ≤ maxLen) :
    Calls Try.prog 116 #[.slice A n c, .int .i64 10] w fun e w' => e = .returned (.tuple #[.int .u64 (nreadV 18446744073709551616 (endsL 10 0 l) l : Nat), .int .i64 ((endsL 10 0 l).1 : Nat), .int .i64 ((endsL 10 0 l).2 : Nat)]) ∧ w = w' := by
  unfold maxLen at hn
  have hlen := Lib.hid hl.1
  generalize hz : endsL 10 0 l = z at *
  have Hz := Lib.hid hz
  clear hz
  go_enter Try.func116, Try.ntmps116
  go_wp2
  go_loop [7, 8, 13] (fun vv oo ii => ∃ k v o, k ≤ n ∧ k ≤ 10 ∧ ii = .int .i64 (k : Nat) ∧ vv = .int .u64 (v : Nat) ∧ oo = .int .u64 (o : Nat) ∧ Hid (endsL 10 k (l.drop k) = z) ∧ Hid (k < 10 → o = 128 ^ k ∧ v = sevL (l.take k))) (fun _ _ ii => n - (intOf ii).toNat)
  case atStart => exact ⟨0, 0, 1, Nat.zero_le _, by omega, rfl, rfl, rfl, Hz, fun _ => ⟨rfl, rfl⟩⟩
  case round =>
    obtain ⟨k, v, o, hk, hk10, rfl, rfl, rfl, hE, hV⟩ := hrel
    by_cases hlt : k < n
    · by_cases hmost : k < 10
      · obtain ⟨b, off, rfl, _, hc⟩ := hl.at_ hlt
        have hcons := Lib.hid (endsL_cons 10 k l (by rw [hlen.out]; exact hlt))
        have hsnoc := Lib.hid (sevL_snoc l k (by rw [hlen.out]; exact hlt))
        have hb := byteAt_lt l k
        obtain ⟨ho, hv⟩ := hV.out hmost
        have Ho := Lib.hid ho
        have Hv := Lib.hid hv
        clear ho hv
        have hne : (((k : Nat) : Int) == 10) = false := by rw [beq_eq_false_iff_ne]; omega
        have Hc := Lib.hid (rfl : byteAt l k = byteAt l k)
        generalize hy : byteAt l k = y at *
        clear hy Hc
        have e1 : IntKind.u64.wrap ((o : Int) * ((y : Int) % 128)) = ((o * (y % 128) % 18446744073709551616 : Nat) : Int) := by
          rw [IntKind.wrap_u64]; simp only [Int.natCast_emod, Int.natCast_mul]; rfl
        have e2 : IntKind.u64.wrap ((v : Int) + ((o * (y % 128) % 18446744073709551616 : Nat) : Int)) = (((v + o * (y % 128)) % 18446744073709551616 : Nat) : Int) := by
          rw [IntKind.wrap_u64]; omega
        have e3 : IntKind.u64.wrap ((o : Int) * 128) = ((o * 128 % 18446744073709551616 : Nat) : Int) := by
          rw [IntKind.wrap_u64]; omega
        have hVn : Hid ((v + o * (y % 128)) % 18446744073709551616 = sevL (l.take (k + 1)) % 18446744073709551616) := by
          show _ = _
          rw [hsnoc.out, ← Hv.out, ← Ho.out]
        generalize hg1 : o * (y % 128) % 18446744073709551616 = p1 at *
        generalize hg2 : (v + o * (y % 128)) % 18446744073709551616 = p2 at *
        generalize hg3 : o * 128 % 18446744073709551616 = p3 at *
        have Hg2 := Lib.hid hg2
        have Hg3 := Lib.hid hg3
        clear hg1 hg2 hg3
        by_cases h128 : 128 ≤ y
        · have hE2 : Hid (endsL 10 (k + 1) (l.drop (k + 1)) = z) := by
            show _ = _
            rw [← hE.out, hcons.out, if_neg (by omega), if_neg (by omega)]
          have hV2 : Hid (k + 1 < 10 → p3 = 128 ^ (k + 1) ∧ p2 = sevL (l.take (k + 1))) := by
            intro hk2
            have h1 : 128 ^ (k + 1) ≤ 128 ^ 9 := Nat.pow_le_pow_right (by omega) (by omega)
            have h2 := sevL_lt (l.take (k + 1))
            have h3 : 128 ^ (l.take (k + 1)).length ≤ 128 ^ (k + 1) := Nat.pow_le_pow_right (by omega) (List.length_take_le _ _)
            constructor
            · rw [← Hg3.out, Ho.out, ← Nat.pow_succ]; omega
            · rw [hVn.out]; omega
          clear hVn Hg2 Hg3 Ho Hv hcons hsnoc hE hV
          go_wp2
          go_round
          case rel => exact ⟨k + 1, p2, p3, by omega, by omega, by go_num, rfl, rfl, hE2, hV2⟩
          case measure => simp [intOf]; omega
        · by_cases hform : 0 < k ∧ y = 0
          · have hz : Hid (z = (0, 11)) := by
              show _ = _
              rw [← hE.out, hcons.out, if_neg (by omega), if_pos (by omega), if_pos hform]
            obtain ⟨hk0, hy0⟩ := hform
            subst hy0
            clear hVn Hg2 Hg3 Ho Hv hcons hsnoc hE hV
            go_wp2
            go_ret3
            rw [hz.out]
            exact ⟨rfl, rfl⟩
          · have hz : Hid (z = (k + 1, 0)) := by
              show _ = _
              rw [← hE.out, hcons.out, if_neg (by omega), if_pos (by omega), if_neg hform]
            have hfin : Hid (Ending.returned (.tuple #[.int .u64 ((p2 : Nat) : Int), .int .i64 ((k : Int) + 1), .int .i64 0]) = Ending.returned (.tuple #[.int .u64 (nreadV 18446744073709551616 z l : Nat), .int .i64 (z.1 : Nat), .int .i64 (z.2 : Nat)])) := by
              show _ = _
              rw [hz.out]
              have e : nreadV 18446744073709551616 (k + 1, 0) l = p2 := hVn.out.symm
              rw [e]; rfl
            have hcase : (y = 0 ∧ k = 0) ∨ 0 < y := by omega
            clear hVn Hg2 Hg3 Ho Hv hcons hsnoc hE hV hz hform
            rcases hcase with ⟨hy0, hk0⟩ | hy0
            · have hyb : (((y : Nat) : Int) == 0) = true := by rw [beq_iff_eq]; omega
              have hkb : decide ((0 : Int) < (k : Int)) = false := by rw [decide_eq_false_iff_not]; omega
              have hk1 : k ≤ 0 := by omega
              clear hy0 hk0
              go_wp2
              go_ret3
              exact ⟨hfin.out, rfl⟩
            · have hyb : (((y : Nat) : Int) == 0) = false := by rw [beq_eq_false_iff_ne]; omega
              go_wp2
              go_ret3
              exact ⟨hfin.out, rfl⟩
      · have hk9 : k = 10 := by omega
        subst hk9
        have hz : Hid (z = (0, 11)) := by
          show _ = _
          rw [← hE.out, endsL_cons 10 10 l (by rw [hlen.out]; exact hlt), if_pos (by omega)]
        obtain ⟨b, off, rfl, _, hc⟩ := hl.at_ hlt
        clear hE hV
        go_wp2
        go_ret3
        rw [hz.out]
        exact ⟨rfl, rfl⟩
    · have hz : Hid (z = (0, if k < 10 then 10 else 11)) := by
        show _ = _
        rw [← hE.out, endsL_nil 10 k l (by rw [hlen.out]; omega)]
      have hkn : k = n := by omega
      subst hkn
      clear hE hV
      by_cases h9 : k < 10
      · rw [if_pos h9] at hz
        go_wp2
        go_ret3
        rw [hz.out]
        exact ⟨rfl, rfl⟩
      · rw [if_neg h9] at hz
        go_wp2
        go_ret3
        rw [hz.out]
        exact ⟨rfl, rfl⟩
end Go.Proofs.Ytalmdccgpigppaa
namespace Go.Proofs.Ytalmdccgpigppaa
open Go.RowKit

def longV (l : List UInt8) : Nat := nreadV 9223372036854775808 (endsL 9 0 l) l
def zagE (l : List UInt8) : Nat := if (endsL 10 0 l).2 ≠ 0 then (endsL 10 0 l).2 else if (endsL 10 0 l).1 = 10 ∧ 1 < byteAt l 9 then 11 else 0
def zagS (l : List UInt8) : Nat := if zagE l = 0 then (endsL 10 0 l).1 else 0
def zagV (l : List UInt8) : Int := if zagE l = 0 then unzz (sevL (l.take (endsL 10 0 l).1)) else 0

theorem zag_err (A : Option Addr) (n c : Nat) (l : List UInt8) (w : World) (hl : RB w A n l) (hn : n ≤ maxLen) (he : (endsL 10 0 l).2 ≠ 0) :
    Calls Try.prog 95 #[.slice A n c] w fun e w' => e = .returned (.tuple #[.int .i64 0, .int .i64 0, .int .i64 ((endsL 10 0 l).2 : Nat)]) ∧ w = w' := by
  have hd := fun w => read_u A n c l w
  generalize nreadV 18446744073709551616 (endsL 10 0 l) l = v at *
  generalize endsL 10 0 l = z at *
  have h1 : (((z.2 : Nat) : Int) != 0) = true := by rw [bne_iff_ne]; omega
  have h2 : (((z.2 : Nat) : Int) == 0) = false := by rw [beq_eq_false_iff_ne]; omega
  clear he
  go_enter Try.func95, Try.ntmps95
  go_wp2_with (go_at_call 116; (with_reducible refine (hd _ hl hn).mono ?_); rintro e w' ⟨rfl, rfl⟩)
  go_ret3
  exact ⟨rfl, rfl⟩
theorem zag_big (A : Option Addr) (n c : Nat) (l : List UInt8) (w : World) (hl : RB w A n l) (hn : n ≤ maxLen) (hz : endsL 10 0 l = (10, 0)) (hb : 1 < byteAt l 9) :
    Calls Try.prog 95 #[.slice A n c] w fun e w' => e = .returned (.tuple #[.int .i64 0, .int .i64 0, .int .i64 11]) ∧ w = w' := by
  have hd := fun w => read_u A n c l w
  rw [hz] at hd
  have hle := (endsL_le 10 l 0 (by rw [hz])).2.2
  rw [hz] at hle
  have hlen := hl.1
  have h10 : 10 ≤ n := by simp at hle; omega
  clear hz hle hlen
  obtain ⟨b, o, rfl, _, hc⟩ := hl.at_ (k := 9) (by omega)
  generalize nreadV 18446744073709551616 (10, 0) l = v at *
  generalize byteAt l 9 = y at *
  go_enter Try.func95, Try.ntmps95
  go_wp2_with (go_at_call 116; (with_reducible refine (hd _ hl hn).mono ?_); rintro e w' ⟨rfl, rfl⟩)
  go_ret3
  exact ⟨rfl, rfl⟩
theorem i64_flip (a : Nat) (ha : a < 9223372036854775808) : bits .xor .i64 (a : Int) (-1) = -(a : Int) - 1 := by
  show IntKind.i64.wrap ((BitVec.ofInt 64 (a : Int) ^^^ BitVec.ofInt 64 (-1)).toNat : Int) = _
  have h1 : BitVec.ofInt 64 (-1) = BitVec.allOnes 64 := by decide
  rw [h1, BitVec.xor_allOnes, BitVec.toNat_not, ofInt_u64' a (by omega)]
  simp [IntKind.wrap, IntKind.bits, IntKind.signed]
  omega
theorem i64_same (a : Nat) (ha : a < 9223372036854775808) : bits .xor .i64 (a : Int) 0 = (a : Int) := by
  show IntKind.i64.wrap ((BitVec.ofInt 64 (a : Int) ^^^ BitVec.ofInt 64 ((0 : Nat) : Int)).toNat : Int) = _
  rw [BitVec.toNat_xor, ofInt_u64' a (by omega), ofInt_u64' 0 (by omega), Nat.xor_zero, IntKind.wrap_i64]
  omega
theorem zag_bits (v : Nat) (hv : v < 18446744073709551616) : bits .xor .i64 ((v : Int) / 2) (-((v : Int) % 2)) = unzz v := by
  unfold unzz
  have e : (v : Int) / 2 = ((v / 2 : Nat) : Int) := by omega
  by_cases h : v % 2 = 0
  · have e2 : -((v : Int) % 2) = 0 := by omega
    rw [if_pos h, e, e2, i64_same _ (by omega)]
  · have e2 : -((v : Int) % 2) = -1 := by omega
    rw [if_neg h, e, e2, i64_flip _ (by omega)]
theorem zag_lt {n s : Nat} {l : List UInt8} (hlen : l.length = n) (hz : endsL 10 0 l = (s, 0)) (hb : s ≠ 10 ∨ byteAt l 9 ≤ 1) : sevL (l.take s) < 18446744073709551616 := by
  have hle := endsL_le 10 l 0 (by rw [hz])
  rw [hz] at hle
  simp only [Nat.zero_add] at hle
  by_cases h10 : s = 10
  · subst h10
    have hb1 : byteAt l 9 ≤ 1 := by omega
    have h2 := sevL_lt (l.take 9)
    have h3 : (l.take 9).length = 9 := by rw [List.length_take]; omega
    rw [h3] at h2
    rw [sevL_snoc l 9 (by omega)]
    have : byteAt l 9 % 128 ≤ 1 := by omega
    have := Nat.mul_le_mul_left (128 ^ 9) this
    omega
  · have h2 := sevL_lt (l.take s)
    have h3 : 128 ^ (l.take s).length ≤ 128 ^ 9 := Nat.pow_le_pow_right (by omega) (by rw [List.length_take]; omega)
    omega
theorem zag_ok (A : Option Addr) (n c s : Nat) (l : List UInt8) (w : World) (hl : RB w A n l) (hn : n ≤ maxLen) (hz : endsL 10 0 l = (s, 0)) (hb : s ≠ 10 ∨ byteAt l 9 ≤ 1) :
    Calls Try.prog 95 #[.slice A n c] w fun e w' => e = .returned (.tuple #[.int .i64 (unzz (sevL (l.take s))), .int .i64 s, .int .i64 0]) ∧ w = w' := by
  have hd := fun w => read_u A n c l w
  have hle := endsL_le 10 l 0 (by rw [hz])
  rw [hz] at hd hle
  simp only [Nat.zero_add] at hle
  have hlen := hl.1
  have hv := zag_lt hl.1 hz hb
  have hrv : nreadV 18446744073709551616 (s, 0) l = sevL (l.take s) := Nat.mod_eq_of_lt hv
  rw [hrv] at hd
  generalize sevL (l.take s) = v at *
  clear hrv
  have hand := and_one_u64 (v : Int) (by omega) (by omega)
  have hxor := zag_bits v hv
  generalize unzz v = r at *
  by_cases h10 : s = 10
  · have hb1 : byteAt l 9 ≤ 1 := by omega
    have h9 : 10 ≤ n := by omega
    have hs : (((s : Nat) : Int) == 10) = true := by rw [beq_iff_eq]; omega
    clear hz hle hlen hb h10
    obtain ⟨b, o, rfl, _, hc⟩ := hl.at_ (k := 9) (by omega)
    generalize byteAt l 9 = y at *
    go_enter Try.func95, Try.ntmps95
    go_wp2_with (go_at_call 116; (with_reducible refine (hd _ hl hn).mono ?_); rintro e w' ⟨rfl, rfl⟩)
    go_ret3
    exact ⟨rfl, rfl⟩
  · have hs : (((s : Nat) : Int) == 10) = false := by rw [beq_eq_false_iff_ne]; omega
    clear hz hle hlen hb h10
    go_enter Try.func95, Try.ntmps95
    go_wp2_with (go_at_call 116; (with_reducible refine (hd _ hl hn).mono ?_); rintro e w' ⟨rfl, rfl⟩)
    go_ret3
    exact ⟨rfl, rfl⟩
end Go.Proofs.Ytalmdccgpigppaa
namespace Go.Proofs.Ytalmdccgpigppaa
open Go.RowKit

theorem bit_test (x k : Nat) : bit x k = (x.testBit k).toNat := by
  unfold bit; rw [Nat.testBit_eq_decide_div_mod_eq]
  rcases Nat.mod_two_eq_zero_or_one (x / 2 ^ k) with h | h <;> simp [h]
theorem bit_flip {n U k : Nat} (hU : U < 2 ^ n) (hk : k < n) : bit (2 ^ n - (U + 1)) k = 1 - bit U k := by
  rw [bit_test, bit_test, Nat.testBit_two_pow_sub_succ hU]
  simp [hk]
  cases U.testBit k <;> rfl
theorem bit_zero (V s : Nat) (hs : s ≤ 1) : bit (2 * V + s) 0 = s := by unfold bit; rw [Nat.pow_zero, Nat.div_one]; omega
theorem bit_double (V s k : Nat) (hs : s ≤ 1) : bit (2 * V + s) (k + 1) = bit V k := by
  unfold bit; rw [Nat.pow_succ, Nat.mul_comm (2 ^ k) 2, ← Nat.div_div_eq_div_mul, show (2 * V + s) / 2 = V from by omega]

theorem zz_parts {n : Int} (h0 : -9223372036854775808 ≤ n) (h1 : n ≤ 9223372036854775807) :
    zz n = 2 * (if bit (un n) 63 = 1 then 2 ^ 64 - (un n + 1) else un n) + bit (un n) 63 := by
  have hb : bit (un n) 63 = un n / 9223372036854775808 % 2 := rfl
  unfold zz
  have hu : un n = (n % 18446744073709551616).toNat := rfl
  rw [hb]
  by_cases hn : 0 ≤ n
  · rw [if_pos hn, if_neg (by omega)]; omega
  · rw [if_neg hn, if_pos (by omega)]; omega
theorem bit_zz0 {n : Int} (h0 : -9223372036854775808 ≤ n) (h1 : n ≤ 9223372036854775807) : bit (zz n) 0 = bit (un n) 63 := by
  rw [zz_parts h0 h1, bit_zero _ _ (bit_le _ _)]
theorem bit_zz {n : Int} (h0 : -9223372036854775808 ≤ n) (h1 : n ≤ 9223372036854775807) (k : Nat) (hk : k < 63) : bit (zz n) (k + 1) = if bit (un n) 63 = 1 then 1 - bit (un n) k else bit (un n) k := by
  rw [zz_parts h0 h1, bit_double _ _ _ (bit_le _ _)]
  split
  · exact bit_flip (un_lt n) (by omega)
  · rfl

/-- Digits to the base 128: how many there are. -/
theorem digL_pos (f : Nat) : ∀ Z, Z < 128 ^ (f + 1) → Z < 128 ^ (digL f Z).length ∧ ((digL f Z).length = 1 ∨ 128 ^ ((digL f Z).length - 1) ≤ Z) := by
  induction f with
  | zero => intro Z h; simp [digL]; omega
  | succ f ih =>
    intro Z h
    by_cases hz : Z < 128
    · unfold digL; rw [if_pos hz]; simp; omega
    · have e := ih (Z / 128) (by rw [Nat.pow_succ] at h; omega)
      have hl := (digL_len f (Z / 128)).2
      unfold digL; rw [if_neg hz]
      simp only [List.length_cons]
      generalize (digL f (Z / 128)).length = m at *
      have e2 : 128 ^ m = 128 ^ (m - 1) * 128 := by
        cases m with
        | zero => omega
        | succ q => rw [Nat.pow_succ]; rfl
      refine ⟨by rw [Nat.pow_succ]; omega, .inr ?_⟩
      show 128 ^ (m + 1 - 1) ≤ Z
      rw [Nat.add_sub_cancel]
      rcases e.2 with h1 | h1
      · subst h1; omega
      · omega
theorem digL_tab (f : Nat) : ∀ Z, Z < 128 ^ (f + 1) → digL f Z = tabB (digL f Z).length (fun i => if i + 1 < (digL f Z).length then Z / 128 ^ i % 128 + 128 else Z / 128 ^ i % 128) := by
  induction f with
  | zero => intro Z h; simp [digL, tabB, show Z % 128 = Z from by omega]
  | succ f ih =>
    intro Z h
    by_cases hz : Z < 128
    · have : digL (f + 1) Z = [UInt8.ofNat Z] := digL_lt' hz
      rw [this]; simp [tabB, show Z % 128 = Z from by omega]
    · have hl := (digL_len f (Z / 128)).2
      have e := ih (Z / 128) (by rw [Nat.pow_succ] at h; omega)
      have hd : digL (f + 1) Z = UInt8.ofNat (Z % 128 + 128) :: digL f (Z / 128) := by
        conv => lhs; unfold digL
        rw [if_neg hz]
      rw [hd]
      simp only [List.length_cons]
      conv => lhs; rw [e]
      unfold tabB
      rw [List.range_succ_eq_map, List.map_cons, List.map_map]
      congr 1
      · dsimp only; rw [if_pos (by omega)]; simp
      · apply List.map_congr_left
        intro i _
        simp only [Function.comp, Nat.succ_eq_add_one, Nat.add_lt_add_iff_right]
        rw [Nat.div_div_eq_div_mul, Nat.pow_succ, Nat.mul_comm 128]
end Go.Proofs.Ytalmdccgpigppaa
namespace Go.Proofs.Ytalmdccgpigppaa
open Go.RowKit

theorem u8_ofNat_toNat {v : Nat} (h : v < 256) : (UInt8.ofNat v).toNat = v := UInt8.toNat_ofNat_of_lt' (by simp [UInt8.size]; omega)
theorem endsL_dig (f : Nat) : ∀ (i most Z : Nat) (more : List UInt8), i + (digL f Z).length ≤ most → (0 < i → 0 < Z) → Z < 128 ^ (f + 1) → endsL most i (digL f Z ++ more) = (i + (digL f Z).length, 0) := by
  induction f with
  | zero =>
    intro i most Z more h1 h2 h3
    simp only [digL, List.length_singleton] at h1 ⊢
    simp only [List.singleton_append, endsL]
    rw [if_neg (by omega), u8_ofNat_toNat (by omega), if_pos (by omega), if_neg (by omega)]
  | succ f ih =>
    intro i most Z more h1 h2 h3
    by_cases hz : Z < 128
    · have e : digL (f + 1) Z = [UInt8.ofNat Z] := by conv => lhs; unfold digL
                                                      rw [if_pos hz]
      rw [e] at h1 ⊢
      simp only [List.length_singleton] at h1 ⊢
      simp only [List.singleton_append, endsL]
      rw [if_neg (by omega), u8_ofNat_toNat (by omega), if_pos (by omega), if_neg (by omega)]
    · have e : digL (f + 1) Z = UInt8.ofNat (Z % 128 + 128) :: digL f (Z / 128) := by conv => lhs; unfold digL
                                                                                      rw [if_neg hz]
      rw [e] at h1 ⊢
      simp only [List.length_cons] at h1 ⊢
      have hp : Z / 128 < 128 ^ (f + 1) := by rw [Nat.pow_succ] at h3; omega
      simp only [List.cons_append, endsL]
      rw [if_neg (by omega), u8_ofNat_toNat (by omega), if_neg (by omega), ih (i + 1) most (Z / 128) more (by omega) (by omega) hp]
      congr 1; omega
theorem sevL_dig (f : Nat) : ∀ Z, Z < 128 ^ (f + 1) → sevL (digL f Z) = Z := by
  induction f with
  | zero => intro Z h; simp only [digL, sevL]; rw [u8_ofNat_toNat (by omega)]; omega
  | succ f ih =>
    intro Z h
    by_cases hz : Z < 128
    · rw [digL_lt' hz]; simp only [sevL]; rw [u8_ofNat_toNat (by omega)]; omega
    · have e : digL (f + 1) Z = UInt8.ofNat (Z % 128 + 128) :: digL f (Z / 128) := by conv => lhs; unfold digL
                                                                                      rw [if_neg hz]
      rw [e]
      simp only [sevL]
      rw [u8_ofNat_toNat (by omega), ih _ (by rw [Nat.pow_succ] at h; omega)]
      omega
/-- The bytes that a reader takes are the shortest for their number. -/
theorem dig_sevL (most : Nat) (l : List UInt8) : ∀ (i k f : Nat), endsL most i l = (i + k, 0) → k ≤ f + 1 → digL f (sevL (l.take k)) = l.take k ∧ (0 < i → 0 < sevL (l.take k)) := by
  induction l with
  | nil => intro i k f h hk; simp [endsL] at h; have := h.2; split at this <;> omega
  | cons c l ih =>
    intro i k f h hk
    have hc := c.toNat_lt
    have hle := endsL_le most (c :: l) i (by rw [h])
    rw [h] at hle
    simp only at hle
    unfold endsL at h
    by_cases h1 : most ≤ i
    · simp [h1] at h
    · rw [if_neg h1] at h
      by_cases h2 : c.toNat < 128
      · rw [if_pos h2] at h
        by_cases h3 : 0 < i ∧ c.toNat = 0
        · rw [if_pos h3] at h; simp at h
        · rw [if_neg h3] at h
          have hk1 : k = 1 := by have := congrArg Prod.fst h; simp only at this; omega
          subst hk1
          have e : sevL ((c :: l).take 1) = c.toNat := by simp [sevL]; omega
          rw [e, digL_lt' h2]
          refine ⟨by simp, fun hi => by omega⟩
      · rw [if_neg h2] at h
        obtain ⟨k, rfl⟩ : ∃ j, k = j + 1 := ⟨k - 1, by omega⟩
        have hle2 := endsL_le most l (i + 1) (by rw [h])
        rw [h] at hle2
        simp only at hle2
        obtain ⟨f, rfl⟩ : ∃ j, f = j + 1 := ⟨f - 1, by omega⟩
        have h4 := ih (i + 1) k f (by rw [h]; congr 1; omega) (by omega)
        have h5 := h4.2 (by omega)
        have e : sevL ((c :: l).take (k + 1)) = c.toNat % 128 + 128 * sevL (l.take k) := by simp [sevL]
        rw [e]
        refine ⟨?_, fun _ => by omega⟩
        have e2 : ∀ Z, ¬ Z < 128 → digL (f + 1) Z = UInt8.ofNat (Z % 128 + 128) :: digL f (Z / 128) := fun Z hZ => by
          conv => lhs; unfold digL
          rw [if_neg hZ]
        rw [e2 _ (by omega), List.take_succ_cons, show (c.toNat % 128 + 128 * sevL (l.take k)) / 128 = sevL (l.take k) from by omega, h4.1]
        congr 1
        rw [show (c.toNat % 128 + 128 * sevL (l.take k)) % 128 + 128 = c.toNat from by omega]
        simp
theorem digL_ten (Z : Nat) (h : Z < 18446744073709551616) (more : List UInt8) : (digL 9 Z).length ≠ 10 ∨ byteAt (digL 9 Z ++ more) 9 ≤ 1 := by
  by_cases hl : (digL 9 Z).length = 10
  · refine .inr ?_
    have e := digL_tab 9 Z (by omega)
    rw [hl] at e
    have e2 : byteAt (digL 9 Z ++ more) 9 = byteAt (digL 9 Z) 9 := by
      unfold byteAt; rw [List.getD_eq_getElem?_getD, List.getD_eq_getElem?_getD, List.getElem?_append_left (by omega)]
    rw [e2, e, tabB_at _ (by omega) (by simp; omega)]
    simp; omega
  · exact .inl hl
theorem digL_nine (Z : Nat) (h : Z < 9223372036854775808) : (digL 9 Z).length ≤ 9 := by
  have h1 := (digL_pos 9 Z (by omega)).2
  have h2 := (digL_len 9 Z).1
  by_cases hl : (digL 9 Z).length = 10
  · rw [hl] at h1; omega
  · omega
end Go.Proofs.Ytalmdccgpigppaa
namespace Go.Proofs.Ytalmdccgpigppaa
open Go.RowKit

def allK (n : Nat) (f : Nat → Bool) : Bool := (List.range n).all f
theorem allK_true {n : Nat} {f : Nat → Bool} : allK n f = true ↔ ∀ i, i < n → f i = true := by simp [allK, List.all_eq_true]
theorem allK_false {n k : Nat} {f : Nat → Bool} (hk : k < n) (h : f k = false) : allK n f = false := by
  rw [Bool.eq_false_iff]; intro hc; rw [allK_true.1 hc k hk] at h; cases h
def tyB (t : Int) : Bool := t == 1 || t == 2
theorem tyB_true {t : Int} : tyB t = true ↔ t = 1 ∨ t = 2 := by simp [tyB]
def rightB (l : List Int) : Bool := allK l.length (fun i => tyB (intAt l i)) && (decide (1 ≤ l.length) && decide (l.length ≤ 8))
theorem rightB_true {l : List Int} : rightB l = true ↔ (∀ i, i < l.length → intAt l i = 1 ∨ intAt l i = 2) ∧ 1 ≤ l.length ∧ l.length ≤ 8 := by
  unfold rightB; simp only [Bool.and_eq_true, allK_true, decide_eq_true_eq, tyB_true]
def okAt (t v : Int) : Bool := !(t == 2) || (v == 0 || v == 1)
theorem okAt_true {t v : Int} : okAt t v = true ↔ (t = 2 → v = 0 ∨ v = 1) := by
  unfold okAt
  by_cases h : t = 2
  · subst h; simp
  · simp [h]
theorem okAt_false {t v : Int} : okAt t v = false ↔ (t = 2 ∧ v ≠ 0 ∧ v ≠ 1) := by
  unfold okAt
  by_cases h : t = 2
  · subst h; simp
  · simp [h]
def fitsB (ts l : List Int) : Bool := rightB ts && (decide (l.length = ts.length) && allK ts.length (fun i => okAt (intAt ts i) (intAt l i)))
theorem fitsB_true {ts l : List Int} : fitsB ts l = true ↔ rightB ts = true ∧ l.length = ts.length ∧ ∀ i, i < ts.length → (intAt ts i = 2 → intAt l i = 0 ∨ intAt l i = 1) := by
  unfold fitsB; simp only [Bool.and_eq_true, allK_true, decide_eq_true_eq, okAt_true]
def piece (t v : Int) : List UInt8 := if t = 2 then [UInt8.ofNat v.toNat] else digL 9 (zz v)
theorem piece_len (t v : Int) : (piece t v).length ≤ if t = 2 then 1 else 10 := by
  unfold piece
  split
  · simp
  · exact (digL_len 9 _).1
def rowB (ts l : List Int) : Nat → List UInt8
  | 0 => []
  | k + 1 => rowB ts l k ++ piece (intAt ts k) (intAt l k)
def sizeK (ts : List Int) : Nat → Nat
  | 0 => 0
  | k + 1 => sizeK ts k + if intAt ts k = 1 then 10 else 1
theorem sizeK_le (ts : List Int) (k : Nat) : sizeK ts k ≤ 10 * k := by
  induction k with
  | zero => simp [sizeK]
  | succ k ih => unfold sizeK; split <;> omega
theorem rowB_len (ts l : List Int) (k : Nat) (h : ∀ i, i < k → intAt ts i = 1 ∨ intAt ts i = 2) : (rowB ts l k).length ≤ sizeK ts k := by
  induction k with
  | zero => simp [rowB]
  | succ k ih =>
    have h1 := ih (fun i hi => h i (by omega))
    have h2 := piece_len (intAt ts k) (intAt l k)
    unfold rowB sizeK
    rw [List.length_append]
    rcases h k (by omega) with h3 | h3 <;> rw [h3] at h2 ⊢ <;> simp at h2 ⊢ <;> omega
theorem rowB_len10 (ts l : List Int) (k : Nat) : (rowB ts l k).length ≤ 10 * k := by
  induction k with
  | zero => simp [rowB]
  | succ k ih =>
    have h2 := piece_len (intAt ts k) (intAt l k)
    unfold rowB
    rw [List.length_append]
    split at h2 <;> omega
theorem rowB_split (ts l : List Int) (k n : Nat) (h : k ≤ n) : ∃ more, rowB ts l n = rowB ts l k ++ more := by
  induction n with
  | zero => exact ⟨[], by rw [show k = 0 from by omega]; simp⟩
  | succ n ih =>
    by_cases hk : k = n + 1
    · exact ⟨[], by rw [hk]; simp⟩
    · obtain ⟨more, hm⟩ := ih (by omega)
      exact ⟨more ++ piece (intAt ts n) (intAt l n), by rw [show rowB ts l (n + 1) = rowB ts l n ++ piece (intAt ts n) (intAt l n) from rfl, hm, List.append_assoc]⟩
theorem rowB_congr (ts : List Int) {l m : List Int} {k : Nat} (h : ∀ i, i < k → intAt l i = intAt m i) : rowB ts l k = rowB ts m k := by
  induction k with
  | zero => rfl
  | succ k ih => unfold rowB; rw [ih (fun i hi => h i (by omega)), h k (by omega)]

/-- What Zag says of a number's turned bytes and more. -/
theorem zag_dig {n : Int} (h0 : -9223372036854775808 ≤ n) (h1 : n ≤ 9223372036854775807) (more : List UInt8) :
    zagE (digL 9 (zz n) ++ more) = 0 ∧ zagS (digL 9 (zz n) ++ more) = (digL 9 (zz n)).length ∧ zagV (digL 9 (zz n) ++ more) = n := by
  have hz := zz_lt h0 h1
  have he : endsL 10 0 (digL 9 (zz n) ++ more) = ((digL 9 (zz n)).length, 0) := by
    rw [endsL_dig 9 0 10 _ _ (by have := (digL_len 9 (zz n)).1; omega) (by omega) (by omega), Nat.zero_add]
  have hE : zagE (digL 9 (zz n) ++ more) = 0 := by
    unfold zagE
    rw [he]
    have := digL_ten _ hz more
    simp only [ne_eq, not_true_eq_false, if_false]
    rw [if_neg (by omega)]
  refine ⟨hE, ?_, ?_⟩
  · unfold zagS; rw [if_pos hE, he]
  · unfold zagV; rw [if_pos hE, he]
    show unzz (sevL (List.take _ _)) = n
    rw [List.take_left, sevL_dig 9 _ (by omega), unzz_zz]
theorem zag_of {l : List UInt8} (h : zagE l = 0) : (endsL 10 0 l).2 = 0 ∧ ((endsL 10 0 l).1 ≠ 10 ∨ byteAt l 9 ≤ 1) := by
  unfold zagE at h
  by_cases h1 : (endsL 10 0 l).2 = 0
  · refine ⟨h1, ?_⟩
    rw [if_neg (by omega)] at h
    by_cases h2 : (endsL 10 0 l).1 = 10 ∧ 1 < byteAt l 9
    · rw [if_pos h2] at h; omega
    · omega
  · rw [if_pos h1] at h; omega
theorem zagS_le (l : List UInt8) : zagS l ≤ l.length := by
  unfold zagS
  split
  · rename_i h
    have := (endsL_le 10 l 0 (zag_of h).1).2.2
    omega
  · omega
/-- What is read of bytes has just these bytes. -/
theorem zag_ed {l : List UInt8} (h : zagE l = 0) : digL 9 (zz (zagV l)) = l.take (zagS l) ∧ -9223372036854775808 ≤ zagV l ∧ zagV l ≤ 9223372036854775807 := by
  obtain ⟨h1, h2⟩ := zag_of h
  have hz : endsL 10 0 l = ((endsL 10 0 l).1, 0) := Prod.ext rfl h1
  have hle := endsL_le 10 l 0 h1
  have hS := zag_lt rfl hz h2
  have hbd := unzz_bd hS
  have e1 : zagV l = unzz (sevL (l.take (endsL 10 0 l).1)) := by unfold zagV; rw [if_pos h]
  have e2 : zagS l = (endsL 10 0 l).1 := by unfold zagS; rw [if_pos h]
  refine ⟨?_, by rw [e1]; exact hbd.1, by rw [e1]; exact hbd.2⟩
  rw [e1, e2, zz_unzz, (dig_sevL 10 l 0 (endsL 10 0 l).1 9 (by rw [hz]; simp) (by omega)).1]
theorem zagE_cases (l : List UInt8) : zagE l = 0 ∨ zagE l = 10 ∨ zagE l = 11 := by
  unfold zagE
  by_cases h : (endsL 10 0 l).2 = 0
  · rw [if_neg (by omega)]; split <;> omega
  · rw [if_pos h]; right; exact (endsL_err 10 l 0 h).2

/-- A row that is read: values, how many bytes, and what went wrong. -/
def rdStep (b : List UInt8) (t : Int) (s : List Int × Nat × Nat) : List Int × Nat × Nat :=
  if s.2.2 ≠ 0 then s
  else if t = 1 then
    if zagE (b.drop s.2.1) ≠ 0 then (s.1, s.2.1, zagE (b.drop s.2.1)) else (s.1 ++ [zagV (b.drop s.2.1)], s.2.1 + zagS (b.drop s.2.1), 0)
  else if b.length ≤ s.2.1 then (s.1, s.2.1, 10)
  else if 1 < byteAt b s.2.1 then (s.1, s.2.1, 11)
  else (s.1 ++ [(byteAt b s.2.1 : Int)], s.2.1 + 1, 0)
def rowK (ts : List Int) (b : List UInt8) : Nat → List Int × Nat × Nat
  | 0 => ([], 0, 0)
  | k + 1 => rdStep b (intAt ts k) (rowK ts b k)
def readR (ts : List Int) (b : List UInt8) : List Int × Nat :=
  if rightB ts = false then ([], 2)
  else if (rowK ts b ts.length).2.2 ≠ 0 then ([], (rowK ts b ts.length).2.2)
  else if (rowK ts b ts.length).2.1 < b.length then ([], 12)
  else ((rowK ts b ts.length).1, 0)
theorem rdStep_bad {b : List UInt8} {t : Int} {s : List Int × Nat × Nat} (h : s.2.2 ≠ 0) : rdStep b t s = s := by unfold rdStep; rw [if_pos h]
theorem rdStep_int {b : List UInt8} {l : List Int} {i : Nat} (h : zagE (b.drop i) = 0) : rdStep b 1 (l, i, 0) = (l ++ [zagV (b.drop i)], i + zagS (b.drop i), 0) := by simp [rdStep, h]
theorem rdStep_intE {b : List UInt8} {l : List Int} {i : Nat} (h : zagE (b.drop i) ≠ 0) : rdStep b 1 (l, i, 0) = (l, i, zagE (b.drop i)) := by simp [rdStep, h]
theorem rdStep_end {b : List UInt8} {l : List Int} {i : Nat} {t : Int} (ht : t ≠ 1) (h : b.length ≤ i) : rdStep b t (l, i, 0) = (l, i, 10) := by simp [rdStep, ht, h]
theorem rdStep_form {b : List UInt8} {l : List Int} {i : Nat} {t : Int} (ht : t ≠ 1) (h : i < b.length) (h2 : 1 < byteAt b i) : rdStep b t (l, i, 0) = (l, i, 11) := by simp [rdStep, ht, h2, Nat.not_le.2 h]
theorem rdStep_bool {b : List UInt8} {l : List Int} {i : Nat} {t : Int} (ht : t ≠ 1) (h : i < b.length) (h2 : byteAt b i ≤ 1) : rdStep b t (l, i, 0) = (l ++ [(byteAt b i : Int)], i + 1, 0) := by
  simp [rdStep, ht, Nat.not_le.2 h, Nat.not_lt.2 h2]
theorem rdK_bad {ts : List Int} {b : List UInt8} {k n : Nat} (hk : k ≤ n) (h : (rowK ts b k).2.2 ≠ 0) : rowK ts b n = rowK ts b k := by
  induction n with
  | zero => rw [show k = 0 from by omega]
  | succ n ih =>
    by_cases e : k = n + 1
    · rw [e]
    · have := ih (by omega)
      show rdStep b _ (rowK ts b n) = _
      rw [this, rdStep_bad h]
theorem rdK_inv (ts : List Int) (b : List UInt8) (k : Nat) : (rowK ts b k).2.1 ≤ b.length ∧ (rowK ts b k).1.length ≤ k ∧ (rowK ts b k).2.2 ≤ 11 ∧ ((rowK ts b k).2.2 = 0 →
    (rowK ts b k).1.length = k ∧ (∀ i, i < k → intAt ts i = 1 ∨ intAt ts i = 2) →
      rowB ts (rowK ts b k).1 k = b.take (rowK ts b k).2.1 ∧ (∀ i, i < k → intAt ts i = 2 → intAt (rowK ts b k).1 i = 0 ∨ intAt (rowK ts b k).1 i = 1) ∧
      (∀ i, i < k → -9223372036854775808 ≤ intAt (rowK ts b k).1 i ∧ intAt (rowK ts b k).1 i ≤ 9223372036854775807)) ∧ ((rowK ts b k).2.2 = 0 → (rowK ts b k).1.length = k) := by
  induction k with
  | zero => simp [rowK, rowB]
  | succ k ih =>
    rw [show rowK ts b (k + 1) = rdStep b (intAt ts k) (rowK ts b k) from rfl]
    generalize rowK ts b k = s at *
    obtain ⟨l, i, e⟩ := s
    obtain ⟨i1, i2, i3, i4, i5⟩ := ih
    simp only at i1 i2 i3 i4 i5
    by_cases he : e = 0
    · subst he
      have hl := i5 rfl
      have hat : ∀ (v : Int) (j : Nat), j < k → intAt (l ++ [v]) j = intAt l j := fun v j hj => by
        unfold intAt; rw [List.getD_eq_getElem?_getD, List.getElem?_append_left (by omega), List.getD_eq_getElem?_getD]
      have hat2 : ∀ v : Int, intAt (l ++ [v]) k = v := fun v => by
        unfold intAt; rw [List.getD_eq_getElem?_getD, List.getElem?_append_right (by omega)]; simp [hl]
      by_cases ht : intAt ts k = 1
      · rw [ht]
        by_cases hz : zagE (b.drop i) = 0
        · rw [rdStep_int hz]
          obtain ⟨z1, z2, z3⟩ := zag_ed hz
          have hzs := zagS_le (b.drop i)
          rw [List.length_drop] at hzs
          generalize zagV (b.drop i) = v at *
          generalize zagS (b.drop i) = sz at *
          refine ⟨by simp only; omega, by simp [hl], by simp, fun _ hh => ?_, fun _ => by simp [hl]⟩
          obtain ⟨j1, j2, j3⟩ := i4 rfl ⟨hl, fun j hj => hh.2 j (by omega)⟩
          refine ⟨?_, fun j hj h2 => ?_, fun j hj => ?_⟩
          · show rowB ts (l ++ [v]) k ++ piece (intAt ts k) (intAt (l ++ [v]) k) = _
            rw [rowB_congr ts (hat v), j1, hat2, ht]
            unfold piece
            rw [if_neg (by omega), z1, List.take_add]
          · simp only
            by_cases hjk : j = k
            · subst hjk; omega
            · rw [hat v j (by omega)]; exact j2 j (by omega) h2
          · simp only
            by_cases hjk : j = k
            · subst hjk; rw [hat2]; omega
            · rw [hat v j (by omega)]; exact j3 j (by omega)
        · rw [rdStep_intE hz]
          have := zagE_cases (b.drop i)
          refine ⟨i1, by simp only; omega, by simp only; omega, fun h => absurd h hz, fun h => absurd h hz⟩
      · by_cases h1 : b.length ≤ i
        · rw [rdStep_end ht h1]
          exact ⟨i1, by simp only; omega, by simp, fun h => by simp at h, fun h => by simp at h⟩
        · by_cases h2 : 1 < byteAt b i
          · rw [rdStep_form ht (by omega) h2]
            exact ⟨i1, by simp only; omega, by simp, fun h => by simp at h, fun h => by simp at h⟩
          · rw [rdStep_bool ht (by omega) (by omega)]
            refine ⟨by simp only; omega, by simp [hl], by simp, fun _ hh => ?_, fun _ => by simp [hl]⟩
            obtain ⟨j1, j2, j3⟩ := i4 rfl ⟨hl, fun j hj => hh.2 j (by omega)⟩
            have ht2 : intAt ts k = 2 := by have := hh.2 k (by omega); omega
            refine ⟨?_, fun j hj h2 => ?_, fun j hj => ?_⟩
            · show rowB ts (l ++ [_]) k ++ piece (intAt ts k) (intAt (l ++ [_]) k) = _
              rw [rowB_congr ts (hat _), j1, hat2, ht2]
              unfold piece
              rw [if_pos rfl, List.take_add, List.drop_eq_getElem_cons (by omega)]
              simp only [List.take_succ_cons, List.take_zero, Int.toNat_natCast]
              congr 2
              unfold byteAt
              simp [List.getD_eq_getElem?_getD, Nat.not_le.1 h1]
            · simp only
              by_cases hjk : j = k
              · subst hjk; rw [hat2]; omega
              · rw [hat _ j (by omega)]; exact j2 j (by omega) h2
            · simp only
              by_cases hjk : j = k
              · subst hjk; rw [hat2]; omega
              · rw [hat _ j (by omega)]; exact j3 j (by omega)
    · rw [rdStep_bad (by simpa using he)]
      exact ⟨i1, by simp only; omega, i3, fun h => absurd h he, fun h => absurd h he⟩

/-- What was written is read. -/
theorem rdK_rowB {ts l : List Int} {n : Nat} (hts : ∀ i, i < n → intAt ts i = 1 ∨ intAt ts i = 2) (hl : l.length = n) (hfit : ∀ i, i < n → intAt ts i = 2 → intAt l i = 0 ∨ intAt l i = 1)
    (hb : ∀ i, i < n → -9223372036854775808 ≤ intAt l i ∧ intAt l i ≤ 9223372036854775807) : ∀ k, k ≤ n → rowK ts (rowB ts l n) k = (l.take k, (rowB ts l k).length, 0) := by
  intro k
  induction k with
  | zero => intro _; simp [rowK, rowB]
  | succ k ih =>
    intro hk
    rw [show rowK ts (rowB ts l n) (k + 1) = rdStep (rowB ts l n) (intAt ts k) (rowK ts (rowB ts l n) k) from rfl, ih (by omega)]
    obtain ⟨more, hm⟩ := rowB_split ts l (k + 1) n hk
    rw [hm, show rowB ts l (k + 1) = rowB ts l k ++ piece (intAt ts k) (intAt l k) from rfl, List.append_assoc]
    have htk : l.take (k + 1) = l.take k ++ [intAt l k] := by
      rw [List.take_succ_eq_append_getElem (by omega)]; unfold intAt; simp [List.getD_eq_getElem?_getD, show k < l.length from by omega]
    have hd : (rowB ts l k ++ (piece (intAt ts k) (intAt l k) ++ more)).drop (rowB ts l k).length = piece (intAt ts k) (intAt l k) ++ more := by rw [List.drop_left]
    rw [htk, List.length_append]
    rcases hts k (by omega) with h | h
    · rw [h] at hd ⊢
      have hp : piece 1 (intAt l k) = digL 9 (zz (intAt l k)) := by unfold piece; rw [if_neg (by omega)]
      rw [hp] at hd ⊢
      obtain ⟨z1, z2, z3⟩ := zag_dig (hb k (by omega)).1 (hb k (by omega)).2 more
      rw [rdStep_int (by rw [hd]; exact z1), hd, z2, z3]
    · have hf := hfit k (by omega) h
      rw [h] at hd ⊢
      have hp : piece 2 (intAt l k) = [UInt8.ofNat (intAt l k).toNat] := by unfold piece; rw [if_pos rfl]
      rw [hp] at hd ⊢
      have hby : byteAt (rowB ts l k ++ ([UInt8.ofNat (intAt l k).toNat] ++ more)) (rowB ts l k).length = (intAt l k).toNat := by
        unfold byteAt
        rw [List.getD_eq_getElem?_getD, List.getElem?_append_right (by omega)]
        simp
        rcases hf with e | e <;> rw [e] <;> decide
      rw [rdStep_bool (by omega) (by simp) (by rw [hby]; omega), hby]
      simp
      omega
theorem readR_rowB {ts l : List Int} (hf : fitsB ts l = true) (hb : ∀ i, i < l.length → -9223372036854775808 ≤ intAt l i ∧ intAt l i ≤ 9223372036854775807) : readR ts (rowB ts l ts.length) = (l, 0) := by
  obtain ⟨h1, h2, h3⟩ := fitsB_true.1 hf
  have h4 := rightB_true.1 h1
  have := rdK_rowB h4.1 h2 h3 (by rw [← h2]; exact hb) ts.length (Nat.le_refl _)
  unfold readR
  rw [if_neg (by simp [h1]), this]
  simp
  exact List.take_of_length_le (by omega)
theorem readR_back {ts : List Int} {b : List UInt8} (h : (readR ts b).2 = 0) : fitsB ts (readR ts b).1 = true ∧ rowB ts (readR ts b).1 ts.length = b ∧
    (∀ i, i < (readR ts b).1.length → -9223372036854775808 ≤ intAt (readR ts b).1 i ∧ intAt (readR ts b).1 i ≤ 9223372036854775807) := by
  have hi := rdK_inv ts b ts.length
  unfold readR at h ⊢
  by_cases h1 : rightB ts = false
  · rw [if_pos h1] at h; simp at h
  · rw [if_neg h1] at h ⊢
    by_cases h2 : (rowK ts b ts.length).2.2 ≠ 0
    · rw [if_pos h2] at h; exact absurd h h2
    · rw [if_neg h2] at h ⊢
      by_cases h3 : (rowK ts b ts.length).2.1 < b.length
      · rw [if_pos h3] at h; simp at h
      · rw [if_neg h3]
        have hr := rightB_true.1 (by simpa using h1)
        have hlen := hi.2.2.2.2 (by simpa using h2)
        obtain ⟨j1, j2, j3⟩ := hi.2.2.2.1 (by simpa using h2) ⟨hlen, hr.1⟩
        refine ⟨fitsB_true.2 ⟨by simpa using h1, hlen, j2⟩, ?_, fun i hi => j3 i (by simp only at hi; omega)⟩
        simp only
        rw [j1, List.take_of_length_le (by omega)]
theorem readR_len (ts : List Int) (b : List UInt8) : (readR ts b).1.length ≤ 8 ∧ (readR ts b).2 ≤ 12 ∧ ((readR ts b).2 ≠ 0 → (readR ts b).1 = []) := by
  have hi := rdK_inv ts b ts.length
  unfold readR
  by_cases h1 : rightB ts = false
  · rw [if_pos h1]; simp
  · rw [if_neg h1]
    have hr := rightB_true.1 (show rightB ts = true by simpa using h1)
    by_cases h2 : (rowK ts b ts.length).2.2 ≠ 0
    · rw [if_pos h2]; simp; omega
    · rw [if_neg h2]
      by_cases h3 : (rowK ts b ts.length).2.1 < b.length
      · rw [if_pos h3]; simp
      · rw [if_neg h3]; simp; omega
end Go.Proofs.Ytalmdccgpigppaa
