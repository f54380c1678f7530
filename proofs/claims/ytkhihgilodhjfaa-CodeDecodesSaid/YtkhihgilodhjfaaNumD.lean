/- Contracts of package num: Long, Zag. -/
import Derived.Test.YtkhihgilodhjfaaNumC
namespace Go.Proofs.Ytkhihgilodhjfaa
open Go.RowKit

def longV (l : List UInt8) : Nat := readV 9223372036854775808 (endsL 9 0 l) l
def zagE (l : List UInt8) : Nat := if (endsL 10 0 l).2 ≠ 0 then (endsL 10 0 l).2 else if (endsL 10 0 l).1 = 10 ∧ 1 < byteAt l 9 then 11 else 0
def zagS (l : List UInt8) : Nat := if zagE l = 0 then (endsL 10 0 l).1 else 0
def zagV (l : List UInt8) : Int := if zagE l = 0 then unzz (sevL (l.take (endsL 10 0 l).1)) else 0

theorem long_any (A : Option Addr) (n c : Nat) (l : List UInt8) (w : World) (hl : RB w A n l) (hn : n ≤ maxLen) :
    Calls Try.prog 78 #[.slice A n c] w fun e w' => e = .returned (.tuple #[.int .i64 (longV l : Nat), .int .i64 ((endsL 9 0 l).1 : Nat), .int .i64 ((endsL 9 0 l).2 : Nat)]) ∧ w = w' := by
  have hd := fun w => read_i A n c l w
  unfold longV
  generalize readV 9223372036854775808 (endsL 9 0 l) l = v at *
  generalize endsL 9 0 l = z at *
  go_enter Try.func78, Try.ntmps78
  go_wp2_with (go_at_call 88; (with_reducible refine (hd _ hl hn).mono ?_); rintro e w' ⟨rfl, rfl⟩)
  go_ret3
  exact ⟨rfl, rfl⟩

theorem zag_err (A : Option Addr) (n c : Nat) (l : List UInt8) (w : World) (hl : RB w A n l) (hn : n ≤ maxLen) (he : (endsL 10 0 l).2 ≠ 0) :
    Calls Try.prog 89 #[.slice A n c] w fun e w' => e = .returned (.tuple #[.int .i64 0, .int .i64 0, .int .i64 ((endsL 10 0 l).2 : Nat)]) ∧ w = w' := by
  have hd := fun w => read_u A n c l w
  generalize readV 18446744073709551616 (endsL 10 0 l) l = v at *
  generalize endsL 10 0 l = z at *
  have h1 : (((z.2 : Nat) : Int) != 0) = true := by rw [bne_iff_ne]; omega
  have h2 : (((z.2 : Nat) : Int) == 0) = false := by rw [beq_eq_false_iff_ne]; omega
  clear he
  go_enter Try.func89, Try.ntmps89
  go_wp2_with (go_at_call 92; (with_reducible refine (hd _ hl hn).mono ?_); rintro e w' ⟨rfl, rfl⟩)
  go_ret3
  exact ⟨rfl, rfl⟩
theorem zag_big (A : Option Addr) (n c : Nat) (l : List UInt8) (w : World) (hl : RB w A n l) (hn : n ≤ maxLen) (hz : endsL 10 0 l = (10, 0)) (hb : 1 < byteAt l 9) :
    Calls Try.prog 89 #[.slice A n c] w fun e w' => e = .returned (.tuple #[.int .i64 0, .int .i64 0, .int .i64 11]) ∧ w = w' := by
  have hd := fun w => read_u A n c l w
  rw [hz] at hd
  have hle := (endsL_le 10 l 0 (by rw [hz])).2.2
  rw [hz] at hle
  have hlen := hl.1
  have h10 : 10 ≤ n := by simp at hle; omega
  clear hz hle hlen
  obtain ⟨b, o, rfl, _, hc⟩ := hl.at_ (k := 9) (by omega)
  generalize readV 18446744073709551616 (10, 0) l = v at *
  generalize byteAt l 9 = y at *
  go_enter Try.func89, Try.ntmps89
  go_wp2_with (go_at_call 92; (with_reducible refine (hd _ hl hn).mono ?_); rintro e w' ⟨rfl, rfl⟩)
  go_ret3
  exact ⟨rfl, rfl⟩
theorem i64_flip (a : Nat) (ha : a < 9223372036854775808) : bits .xor .i64 (a : Int) (-1) = -(a : Int) - 1 := by
  show IntKind.i64.wrap ((BitVec.ofInt 64 (a : Int) ^^^ BitVec.ofInt 64 (-1)).toNat : Int) = _
  have h1 : BitVec.ofInt 64 (-1) = BitVec.allOnes 64 := by decide
  rw [h1, BitVec.xor_allOnes, BitVec.toNat_not, ofInt_u64' a (by omega)]
  simp [IntKind.wrap, IntKind.bits, IntKind.signed]
  omega
theorem i64_same (a : Nat) (ha : a < 9223372036854775808) : bits .xor .i64 (a : Int) 0 = (a : Int) := by
  show IntKind.i64.wrap ((BitVec.ofInt 64 (a : Int) ^^^ BitVec.ofInt 64 ((0 : Nat) : Int)).toNat : Int) = _
  rw [BitVec.toNat_xor, ofInt_u64' a (by omega), ofInt_u64' 0 (by omega), Nat.xor_zero, IntKind.wrap_i64]
  omega
theorem zag_bits (v : Nat) (hv : v < 18446744073709551616) : bits .xor .i64 ((v : Int) / 2) (-((v : Int) % 2)) = unzz v := by
  unfold unzz
  have e : (v : Int) / 2 = ((v / 2 : Nat) : Int) := by omega
  by_cases h : v % 2 = 0
  · have e2 : -((v : Int) % 2) = 0 := by omega
    rw [if_pos h, e, e2, i64_same _ (by omega)]
  · have e2 : -((v : Int) % 2) = -1 := by omega
    rw [if_neg h, e, e2, i64_flip _ (by omega)]
theorem zag_lt {n s : Nat} {l : List UInt8} (hlen : l.length = n) (hz : endsL 10 0 l = (s, 0)) (hb : s ≠ 10 ∨ byteAt l 9 ≤ 1) : sevL (l.take s) < 18446744073709551616 := by
  have hle := endsL_le 10 l 0 (by rw [hz])
  rw [hz] at hle
  simp only [Nat.zero_add] at hle
  by_cases h10 : s = 10
  · subst h10
    have hb1 : byteAt l 9 ≤ 1 := by omega
    have h2 := sevL_lt (l.take 9)
    have h3 : (l.take 9).length = 9 := by rw [List.length_take]; omega
    rw [h3] at h2
    rw [sevL_snoc l 9 (by omega)]
    have : byteAt l 9 % 128 ≤ 1 := by omega
    have := Nat.mul_le_mul_left (128 ^ 9) this
    omega
  · have h2 := sevL_lt (l.take s)
    have h3 : 128 ^ (l.take s).length ≤ 128 ^ 9 := Nat.pow_le_pow_right (by omega) (by rw [List.length_take]; omega)
    omega
theorem zag_ok (A : Option Addr) (n c s : Nat) (l : List UInt8) (w : World) (hl : RB w A n l) (hn : n ≤ maxLen) (hz : endsL 10 0 l = (s, 0)) (hb : s ≠ 10 ∨ byteAt l 9 ≤ 1) :
    Calls Try.prog 89 #[.slice A n c] w fun e w' => e = .returned (.tuple #[.int .i64 (unzz (sevL (l.take s))), .int .i64 s, .int .i64 0]) ∧ w = w' := by
  have hd := fun w => read_u A n c l w
  have hle := endsL_le 10 l 0 (by rw [hz])
  rw [hz] at hd hle
  simp only [Nat.zero_add] at hle
  have hlen := hl.1
  have hv := zag_lt hl.1 hz hb
  have hrv : readV 18446744073709551616 (s, 0) l = sevL (l.take s) := Nat.mod_eq_of_lt hv
  rw [hrv] at hd
  generalize sevL (l.take s) = v at *
  clear hrv
  have hand := and_one_u64 (v : Int) (by omega) (by omega)
  have hxor := zag_bits v hv
  generalize unzz v = r at *
  by_cases h10 : s = 10
  · have hb1 : byteAt l 9 ≤ 1 := by omega
    have h9 : 10 ≤ n := by omega
    have hs : (((s : Nat) : Int) == 10) = true := by rw [beq_iff_eq]; omega
    clear hz hle hlen hb h10
    obtain ⟨b, o, rfl, _, hc⟩ := hl.at_ (k := 9) (by omega)
    generalize byteAt l 9 = y at *
    go_enter Try.func89, Try.ntmps89
    go_wp2_with (go_at_call 92; (with_reducible refine (hd _ hl hn).mono ?_); rintro e w' ⟨rfl, rfl⟩)
    go_ret3
    exact ⟨rfl, rfl⟩
  · have hs : (((s : Nat) : Int) == 10) = false := by rw [beq_eq_false_iff_ne]; omega
    clear hz hle hlen hb h10
    go_enter Try.func89, Try.ntmps89
    go_wp2_with (go_at_call 92; (with_reducible refine (hd _ hl hn).mono ?_); rintro e w' ⟨rfl, rfl⟩)
    go_ret3
    exact ⟨rfl, rfl⟩
end Go.Proofs.Ytkhihgilodhjfaa
