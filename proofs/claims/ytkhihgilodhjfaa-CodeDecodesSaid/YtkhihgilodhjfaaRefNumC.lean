/- Contracts of the reference of num: the number of eight bytes, short bytes. -/
import Derived.Test.YtkhihgilodhjfaaRefNumG
import Derived.Test.YtkhihgilodhjfaaRefNumB
import Derived.Test.YtkhihgilodhjfaaNumC
namespace Go.Proofs.Ytkhihgilodhjfaa
open Go.RowKit

set_option maxRecDepth 100000 in
theorem ends_any (A : Option Addr) (n c most : Nat) (l : List UInt8) (w : World) (hl : RB w A n l) (hn : n ≤ maxLen) :
    Calls Try.prog 90 #[.slice A n c, .int .i64 most] w fun e w' => e = .returned (.tuple #[.int .i64 ((endsL most 0 l).1 : Nat), .int .i64 ((endsL most 0 l).2 : Nat)]) ∧ w = w' := by
  unfold maxLen at hn
  have hlen := Lib.hid hl.1
  generalize hz : endsL most 0 l = z at *
  have Hz := Lib.hid hz
  clear hz
  go_enter Try.func90, Try.ntmps90
  go_wp2
  go_loop [6] (fun ii => ∃ k, k ≤ n ∧ k ≤ most ∧ ii = .int .i64 (k : Nat) ∧ Hid (endsL most k (l.drop k) = z)) (fun ii => n - (intOf ii).toNat)
  case atStart => exact ⟨0, Nat.zero_le _, Nat.zero_le _, rfl, Hz⟩
  case round =>
    obtain ⟨k, hk, hkm, rfl, hE⟩ := hrel
    by_cases hlt : k < n
    · by_cases hmost : k < most
      · obtain ⟨b, off, rfl, _, hc⟩ := hl.at_ hlt
        have hcons := Lib.hid (endsL_cons most k l (by rw [hlen.out]; exact hlt))
        have hb := byteAt_lt l k
        generalize byteAt l k = y at *
        have hkm' : (k : Int) < most := by omega
        have hkn' : (k : Int) < n := by omega
        by_cases h128 : 128 ≤ y
        · have hE2 : Hid (endsL most (k + 1) (l.drop (k + 1)) = z) := by
            show _ = _
            rw [← hE.out, hcons.out, if_neg (by omega), if_neg (by omega)]
          clear hcons hE
          go_wp2
          go_round
          case rel => exact ⟨k + 1, by omega, by omega, by go_num, hE2⟩
          case measure => simp [intOf]; omega
        · have h128' : y < 128 := by omega
          by_cases hform : 0 < k ∧ y = 0
          · have hz : Hid (z = (0, 11)) := by
              show _ = _
              rw [← hE.out, hcons.out, if_neg (by omega), if_pos h128', if_pos hform]
            obtain ⟨hk0, hy0⟩ := hform
            have hyb : (((y : Nat) : Int) == 0) = true := by rw [beq_iff_eq]; omega
            clear hcons hE hy0
            go_wp2
            go_ret2
            rw [hz.out]
            exact ⟨rfl, rfl⟩
          · have hz : Hid (z = (k + 1, 0)) := by
              show _ = _
              rw [← hE.out, hcons.out, if_neg (by omega), if_pos h128', if_neg hform]
            have hcase : k = 0 ∨ (0 < k ∧ 0 < y) := by omega
            clear hcons hE hform
            rcases hcase with hk0 | ⟨hk0, hy0⟩
            · have hkb : decide ((0 : Int) < (k : Int)) = false := by rw [decide_eq_false_iff_not]; omega
              have hk1 : k ≤ 0 := by omega
              clear hk0
              go_wp2
              go_ret2
              rw [hz.out]
              exact ⟨rfl, rfl⟩
            · have hyb : (((y : Nat) : Int) == 0) = false := by rw [beq_eq_false_iff_ne]; omega
              go_wp2
              go_ret2
              rw [hz.out]
              exact ⟨rfl, rfl⟩
      · have hk9 : k = most := by omega
        have hz : Hid (z = (0, 11)) := by
          show _ = _
          rw [← hE.out, endsL_cons most k l (by rw [hlen.out]; exact hlt), if_pos (by omega)]
        have hd1 : decide ((k : Int) < most) = false := by rw [decide_eq_false_iff_not]; omega
        have hd2 : decide ((n : Int) < most) = false := by rw [decide_eq_false_iff_not]; omega
        clear hE hk9
        go_wp2
        go_ret2
        rw [hz.out]
        exact ⟨rfl, rfl⟩
    · have hz : Hid (z = (0, if k < most then 10 else 11)) := by
        show _ = _
        rw [← hE.out, endsL_nil most k l (by rw [hlen.out]; omega)]
      have hkn : k = n := by omega
      subst hkn
      clear hE
      by_cases h9 : k < most
      · rw [if_pos h9] at hz
        go_wp2
        go_ret2
        rw [hz.out]
        exact ⟨rfl, rfl⟩
      · rw [if_neg h9] at hz
        go_wp2
        go_ret2
        rw [hz.out]
        exact ⟨rfl, rfl⟩
theorem ends9 (A : Option Addr) (n c : Nat) (l : List UInt8) (w : World) (hl : RB w A n l) (hn : n ≤ maxLen) :
    Calls Try.prog 90 #[.slice A n c, .int .i64 9] w fun e w' => e = .returned (.tuple #[.int .i64 ((endsL 9 0 l).1 : Nat), .int .i64 ((endsL 9 0 l).2 : Nat)]) ∧ w = w' := ends_any A n c 9 l w hl hn
theorem ends10 (A : Option Addr) (n c : Nat) (l : List UInt8) (w : World) (hl : RB w A n l) (hn : n ≤ maxLen) :
    Calls Try.prog 90 #[.slice A n c, .int .i64 10] w fun e w' => e = .returned (.tuple #[.int .i64 ((endsL 10 0 l).1 : Nat), .int .i64 ((endsL 10 0 l).2 : Nat)]) ∧ w = w' := ends_any A n c 10 l w hl hn
end Go.Proofs.Ytkhihgilodhjfaa
