/- Contracts of the reference of num: Long, turned numbers. -/
import Derived.Test.YtkhihgilodhjfaaRefNumC
import Derived.Test.YtkhihgilodhjfaaNumD
import Derived.Test.YtkhihgilodhjfaaPlainNumB
namespace Go.Proofs.Ytkhihgilodhjfaa
open Go.RowKit

theorem sevL_drop (l : List UInt8) (k : Nat) (h : k < l.length) : sevL (l.drop k) = byteAt l k % 128 + 128 * sevL (l.drop (k + 1)) := by
  rw [List.drop_eq_getElem_cons h]; simp [sevL, byteAt, List.getD_eq_getElem?_getD, h]
theorem byteAt_take (l : List UInt8) (s k : Nat) (h : k < s) : byteAt (l.take s) k = byteAt l k := by
  unfold byteAt; simp [List.getD_eq_getElem?_getD, h]

set_option maxRecDepth 100000 in
theorem reflong_err (A : Option Addr) (n c : Nat) (l : List UInt8) (w : World) (hl : RB w A n l) (hn : n ≤ maxLen) (he : (endsL 9 0 l).2 ≠ 0) :
    Calls Try.prog 80 #[.slice A n c] w fun e w' => e = .returned (.tuple #[.int .i64 0, .int .i64 0, .int .i64 ((endsL 9 0 l).2 : Nat)]) ∧ w = w' := by
  have hd := fun w => ends9 A n c l w
  generalize endsL 9 0 l = z at *
  have h1 : (((z.2 : Nat) : Int) != 0) = true := by rw [bne_iff_ne]; omega
  clear he
  go_enter Try.func80, Try.ntmps80
  go_wp2_with (go_at_call 90; (with_reducible refine (hd _ hl hn).mono ?_); rintro e w' ⟨rfl, rfl⟩)
  go_ret3
  exact ⟨rfl, rfl⟩
set_option maxRecDepth 100000 in
theorem reflong_ok (A : Option Addr) (n c s : Nat) (l : List UInt8) (w : World) (hl : RB w A n l) (hn : n ≤ maxLen) (hz : endsL 9 0 l = (s, 0)) :
    Calls Try.prog 80 #[.slice A n c] w fun e w' => e = .returned (.tuple #[.int .i64 (longV l : Nat), .int .i64 s, .int .i64 0]) ∧ w = w' := by
  have hd := fun w => ends9 A n c l w
  have hle := endsL_le 9 l 0 (by rw [hz])
  rw [hz] at hd hle
  simp only [Nat.zero_add] at hle
  have hlen := Lib.hid hl.1
  have hs9 : s ≤ 9 := hle.2.1
  have hsn : s ≤ n := by have := hlen.out; omega
  have hval : Hid (longV l = sevL (l.take s)) := by
    show longV l = _
    unfold longV readV
    rw [hz, if_pos rfl]
    have h2 := sevL_lt (l.take s)
    have h3 : 128 ^ (l.take s).length ≤ 128 ^ 9 := Nat.pow_le_pow_right (by omega) (by rw [List.length_take]; omega)
    show sevL (l.take s) % 9223372036854775808 = _
    exact Nat.mod_eq_of_lt (by omega)
  generalize longV l = z at *
  clear hz hle
  go_enter Try.func80, Try.ntmps80
  go_wp2_with (go_at_call 90; (with_reducible refine (hd _ hl hn).mono ?_); rintro e w' ⟨rfl, rfl⟩)
  go_loop [7, 8] (fun vv ii => ∃ m v, m ≤ s ∧ ii = .int .i64 ((s : Int) - (m : Nat)) ∧ vv = .int .i64 (v : Nat) ∧ Hid (v = sevL ((l.take s).drop (s - m)))) (fun _ ii => (intOf ii).toNat)
  case atStart => exact ⟨0, 0, Nat.zero_le _, by go_num, rfl, by show 0 = _; rw [List.drop_of_length_le (by rw [List.length_take]; omega)]; rfl⟩
  case round =>
    obtain ⟨m, v, hm, rfl, rfl, hv⟩ := hrel
    by_cases hms : m < s
    · obtain ⟨b, o, rfl, _, hc⟩ := hl.at_ (k := s - m - 1) (by omega)
      have hts : (l.take s).length = s := by rw [List.length_take, hlen.out]; omega
      have hv3 : Hid (128 * v + byteAt l (s - m - 1) % 128 = sevL ((l.take s).drop (s - (m + 1)))) := by
        show _ = _
        rw [show s - (m + 1) = s - m - 1 from by omega, sevL_drop _ _ (by rw [hts]; omega), byteAt_take _ _ _ (by omega), show s - m - 1 + 1 = s - m from by omega, ← hv.out]
        omega
      have hv4 : 128 * v + byteAt l (s - m - 1) % 128 ≤ 9223372036854775807 := by
        rw [hv3.out]
        have h2 := sevL_lt ((l.take s).drop (s - (m + 1)))
        have h3 : 128 ^ ((l.take s).drop (s - (m + 1))).length ≤ 128 ^ 9 := Nat.pow_le_pow_right (by omega) (by rw [List.length_drop, hts]; omega)
        omega
      have hy := byteAt_lt l (s - m - 1)
      generalize byteAt l (s - m - 1) = y at *
      clear hts hd
      go_wp2
      go_round
      case rel => exact ⟨m + 1, 128 * v + y % 128, by omega, by go_num, by go_num, hv3⟩
      case measure => simp [intOf]; omega
    · have hms' : m = s := by omega
      have hz2 : Hid (z = v) := by show _ = _; rw [hval.out, hv.out, hms', Nat.sub_self]; rfl
      have hle2 : s ≤ m := by omega
      clear hms' hd
      go_wp2
      go_ret3
      rw [hz2.out]
      exact ⟨rfl, rfl⟩

/-! ### Turned numbers -/
end Go.Proofs.Ytkhihgilodhjfaa
