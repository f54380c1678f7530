/- Contracts of package num: numbers out of short bytes. -/
import Derived.Test.YtkhihgilodhjfaaNumB
namespace Go.Proofs.Ytkhihgilodhjfaa
open Go.RowKit

theorem endsL_cons (most k : Nat) (l : List UInt8) (h : k < l.length) : endsL most k (l.drop k) =
    if most ≤ k then (0, 11) else if byteAt l k < 128 then (if 0 < k ∧ byteAt l k = 0 then (0, 11) else (k + 1, 0)) else endsL most (k + 1) (l.drop (k + 1)) := by
  rw [List.drop_eq_getElem_cons h]
  have e : l[k].toNat = byteAt l k := by simp [byteAt, List.getD_eq_getElem?_getD, h]
  conv => lhs; unfold endsL
  rw [e]
theorem endsL_nil (most k : Nat) (l : List UInt8) (h : l.length ≤ k) : endsL most k (l.drop k) = (0, if k < most then 10 else 11) := by
  rw [List.drop_of_length_le h]; rfl
theorem sevL_snoc (l : List UInt8) (k : Nat) (h : k < l.length) : sevL (l.take (k + 1)) = sevL (l.take k) + 128 ^ k * (byteAt l k % 128) := by
  rw [take_succ_byte l k h, sevL_append]
  have e : (l.take k).length = k := by rw [List.length_take]; omega
  rw [e]; simp [sevL, byteAt]

def readV (N : Nat) (z : Nat × Nat) (l : List UInt8) : Nat := if z.2 = 0 then sevL (l.take z.1) % N else 0
set_option maxHeartbeats 1000000 in
set_option maxRecDepth 100000 in
theorem read_u (A : Option Addr) (n c : Nat) (l : List UInt8) (w : World) (hl : RB w A n l) (hn : n ≤ maxLen) :
    Calls Try.prog 92 #[.slice A n c, .int .i64 10] w fun e w' => e = .returned (.tuple #[.int .u64 (readV 18446744073709551616 (endsL 10 0 l) l : Nat), .int .i64 ((endsL 10 0 l).1 : Nat), .int .i64 ((endsL 10 0 l).2 : Nat)]) ∧ w = w' := by
  unfold maxLen at hn
  have hlen := Lib.hid hl.1
  generalize hz : endsL 10 0 l = z at *
  have Hz := Lib.hid hz
  clear hz
  go_enter Try.func92, Try.ntmps92
  go_wp2
  go_loop [7, 8, 13] (fun vv oo ii => ∃ k v o, k ≤ n ∧ k ≤ 10 ∧ ii = .int .i64 (k : Nat) ∧ vv = .int .u64 (v : Nat) ∧ oo = .int .u64 (o : Nat) ∧ Hid (endsL 10 k (l.drop k) = z) ∧ Hid (k < 10 → o = 128 ^ k ∧ v = sevL (l.take k))) (fun _ _ ii => n - (intOf ii).toNat)
  case atStart => exact ⟨0, 0, 1, Nat.zero_le _, by omega, rfl, rfl, rfl, Hz, fun _ => ⟨rfl, rfl⟩⟩
  case round =>
    obtain ⟨k, v, o, hk, hk10, rfl, rfl, rfl, hE, hV⟩ := hrel
    by_cases hlt : k < n
    · by_cases hmost : k < 10
      · obtain ⟨b, off, rfl, _, hc⟩ := hl.at_ hlt
        have hcons := Lib.hid (endsL_cons 10 k l (by rw [hlen.out]; exact hlt))
        have hsnoc := Lib.hid (sevL_snoc l k (by rw [hlen.out]; exact hlt))
        have hb := byteAt_lt l k
        obtain ⟨ho, hv⟩ := hV.out hmost
        have Ho := Lib.hid ho
        have Hv := Lib.hid hv
        clear ho hv
        have hne : (((k : Nat) : Int) == 10) = false := by rw [beq_eq_false_iff_ne]; omega
        have Hc := Lib.hid (rfl : byteAt l k = byteAt l k)
        generalize hy : byteAt l k = y at *
        clear hy Hc
        have e1 : IntKind.u64.wrap ((o : Int) * ((y : Int) % 128)) = ((o * (y % 128) % 18446744073709551616 : Nat) : Int) := by
          rw [IntKind.wrap_u64]; simp only [Int.natCast_emod, Int.natCast_mul]; rfl
        have e2 : IntKind.u64.wrap ((v : Int) + ((o * (y % 128) % 18446744073709551616 : Nat) : Int)) = (((v + o * (y % 128)) % 18446744073709551616 : Nat) : Int) := by
          rw [IntKind.wrap_u64]; omega
        have e3 : IntKind.u64.wrap ((o : Int) * 128) = ((o * 128 % 18446744073709551616 : Nat) : Int) := by
          rw [IntKind.wrap_u64]; omega
        have hVn : Hid ((v + o * (y % 128)) % 18446744073709551616 = sevL (l.take (k + 1)) % 18446744073709551616) := by
          show _ = _
          rw [hsnoc.out, ← Hv.out, ← Ho.out]
        generalize hg1 : o * (y % 128) % 18446744073709551616 = p1 at *
        generalize hg2 : (v + o * (y % 128)) % 18446744073709551616 = p2 at *
        generalize hg3 : o * 128 % 18446744073709551616 = p3 at *
        have Hg2 := Lib.hid hg2
        have Hg3 := Lib.hid hg3
        clear hg1 hg2 hg3
        by_cases h128 : 128 ≤ y
        · have hE2 : Hid (endsL 10 (k + 1) (l.drop (k + 1)) = z) := by
            show _ = _
            rw [← hE.out, hcons.out, if_neg (by omega), if_neg (by omega)]
          have hV2 : Hid (k + 1 < 10 → p3 = 128 ^ (k + 1) ∧ p2 = sevL (l.take (k + 1))) := by
            intro hk2
            have h1 : 128 ^ (k + 1) ≤ 128 ^ 9 := Nat.pow_le_pow_right (by omega) (by omega)
            have h2 := sevL_lt (l.take (k + 1))
            have h3 : 128 ^ (l.take (k + 1)).length ≤ 128 ^ (k + 1) := Nat.pow_le_pow_right (by omega) (List.length_take_le _ _)
            constructor
            · rw [← Hg3.out, Ho.out, ← Nat.pow_succ]; omega
            · rw [hVn.out]; omega
          clear hVn Hg2 Hg3 Ho Hv hcons hsnoc hE hV
          go_wp2
          go_round
          case rel => exact ⟨k + 1, p2, p3, by omega, by omega, by go_num, rfl, rfl, hE2, hV2⟩
          case measure => simp [intOf]; omega
        · by_cases hform : 0 < k ∧ y = 0
          · have hz : Hid (z = (0, 11)) := by
              show _ = _
              rw [← hE.out, hcons.out, if_neg (by omega), if_pos (by omega), if_pos hform]
            obtain ⟨hk0, hy0⟩ := hform
            subst hy0
            clear hVn Hg2 Hg3 Ho Hv hcons hsnoc hE hV
            go_wp2
            go_ret3
            rw [hz.out]
            exact ⟨rfl, rfl⟩
          · have hz : Hid (z = (k + 1, 0)) := by
              show _ = _
              rw [← hE.out, hcons.out, if_neg (by omega), if_pos (by omega), if_neg hform]
            have hfin : Hid (Ending.returned (.tuple #[.int .u64 ((p2 : Nat) : Int), .int .i64 ((k : Int) + 1), .int .i64 0]) = Ending.returned (.tuple #[.int .u64 (readV 18446744073709551616 z l : Nat), .int .i64 (z.1 : Nat), .int .i64 (z.2 : Nat)])) := by
              show _ = _
              rw [hz.out]
              have e : readV 18446744073709551616 (k + 1, 0) l = p2 := hVn.out.symm
              rw [e]; rfl
            have hcase : (y = 0 ∧ k = 0) ∨ 0 < y := by omega
            clear hVn Hg2 Hg3 Ho Hv hcons hsnoc hE hV hz hform
            rcases hcase with ⟨hy0, hk0⟩ | hy0
            · have hyb : (((y : Nat) : Int) == 0) = true := by rw [beq_iff_eq]; omega
              have hkb : decide ((0 : Int) < (k : Int)) = false := by rw [decide_eq_false_iff_not]; omega
              have hk1 : k ≤ 0 := by omega
              clear hy0 hk0
              go_wp2
              go_ret3
              exact ⟨hfin.out, rfl⟩
            · have hyb : (((y : Nat) : Int) == 0) = false := by rw [beq_eq_false_iff_ne]; omega
              go_wp2
              go_ret3
              exact ⟨hfin.out, rfl⟩
      · have hk9 : k = 10 := by omega
        subst hk9
        have hz : Hid (z = (0, 11)) := by
          show _ = _
          rw [← hE.out, endsL_cons 10 10 l (by rw [hlen.out]; exact hlt), if_pos (by omega)]
        obtain ⟨b, off, rfl, _, hc⟩ := hl.at_ hlt
        clear hE hV
        go_wp2
        go_ret3
        rw [hz.out]
        exact ⟨rfl, rfl⟩
    · have hz : Hid (z = (0, if k < 10 then 10 else 11)) := by
        show _ = _
        rw [← hE.out, endsL_nil 10 k l (by rw [hlen.out]; omega)]
      have hkn : k = n := by omega
      subst hkn
      clear hE hV
      by_cases h9 : k < 10
      · rw [if_pos h9] at hz
        go_wp2
        go_ret3
        rw [hz.out]
        exact ⟨rfl, rfl⟩
      · rw [if_neg h9] at hz
        go_wp2
        go_ret3
        rw [hz.out]
        exact ⟨rfl, rfl⟩
set_option maxHeartbeats 1000000 in
set_option maxRecDepth 100000 in
theorem read_i (A : Option Addr) (n c : Nat) (l : List UInt8) (w : World) (hl : RB w A n l) (hn : n ≤ maxLen) :
    Calls Try.prog 88 #[.slice A n c, .int .i64 9] w fun e w' => e = .returned (.tuple #[.int .i64 (readV 9223372036854775808 (endsL 9 0 l) l : Nat), .int .i64 ((endsL 9 0 l).1 : Nat), .int .i64 ((endsL 9 0 l).2 : Nat)]) ∧ w = w' := by
  unfold maxLen at hn
  have hlen := Lib.hid hl.1
  generalize hz : endsL 9 0 l = z at *
  have Hz := Lib.hid hz
  clear hz
  go_enter Try.func88, Try.ntmps88
  go_wp2
  go_loop [7, 8, 13] (fun vv oo ii => ∃ k v o, k ≤ n ∧ k ≤ 9 ∧ ii = .int .i64 (k : Nat) ∧ vv = .int .i64 (v : Nat) ∧ oo = .int .i64 (o : Int) ∧ Hid (endsL 9 k (l.drop k) = z) ∧ Hid (k < 9 → o = ((128 ^ k : Nat) : Int) ∧ v = sevL (l.take k))) (fun _ _ ii => n - (intOf ii).toNat)
  case atStart => exact ⟨0, 0, 1, Nat.zero_le _, by omega, rfl, rfl, rfl, Hz, fun _ => ⟨rfl, rfl⟩⟩
  case round =>
    obtain ⟨k, v, o, hk, hk9', rfl, rfl, rfl, hE, hV⟩ := hrel
    by_cases hlt : k < n
    · by_cases hmost : k < 9
      · obtain ⟨b, off, rfl, _, hc⟩ := hl.at_ hlt
        have hcons := Lib.hid (endsL_cons 9 k l (by rw [hlen.out]; exact hlt))
        have hsnoc := Lib.hid (sevL_snoc l k (by rw [hlen.out]; exact hlt))
        have hb := byteAt_lt l k
        obtain ⟨ho, hv⟩ := hV.out hmost
        have Ho := Lib.hid ho
        have Hv := Lib.hid hv
        clear ho hv
        have hne : (((k : Nat) : Int) == 9) = false := by rw [beq_eq_false_iff_ne]; omega
        have Hc := Lib.hid (rfl : byteAt l k = byteAt l k)
        generalize hy : byteAt l k = y at *
        clear hy Hc
        have hpk : 128 ^ k ≤ 128 ^ 8 := Nat.pow_le_pow_right (by omega) (by omega)
        have hvb : v ≤ 72057594037927935 := by
          have h2 := sevL_lt (l.take k)
          have h3 : 128 ^ (l.take k).length ≤ 128 ^ k := Nat.pow_le_pow_right (by omega) (List.length_take_le _ _)
          rw [Hv.out]; omega
        have hmul : 128 ^ k * (y % 128) ≤ 72057594037927936 * 127 := Nat.mul_le_mul hpk (by omega)
        have e1 : wrap64 (o * ((y : Int) % 128)) = ((128 ^ k * (y % 128) : Nat) : Int) := by
          rw [Ho.out, ← show ((128 ^ k * (y % 128) : Nat) : Int) = ((128 ^ k : Nat) : Int) * ((y : Int) % 128) from by rw [Int.natCast_mul, Int.natCast_emod]; rfl]
          exact IntWalk.wrap64_in _ (by omega)
        have Hp := Lib.hid hpk
        clear hpk
        have hVn : Hid (v + 128 ^ k * (y % 128) = sevL (l.take (k + 1))) := by
          show _ = _
          rw [hsnoc.out, ← Hv.out]
        generalize hg1 : 128 ^ k * (y % 128) = p1 at *
        clear hg1
        by_cases h128 : 128 ≤ y
        · have hE2 : Hid (endsL 9 (k + 1) (l.drop (k + 1)) = z) := by
            show _ = _
            rw [← hE.out, hcons.out, if_neg (by omega), if_neg (by omega)]
          have hV2 : Hid (k + 1 < 9 → wrap64 (o * 128) = ((128 ^ (k + 1) : Nat) : Int) ∧ v + p1 = sevL (l.take (k + 1))) := by
            intro hk2
            have h1 : 128 ^ (k + 1) ≤ 128 ^ 8 := Nat.pow_le_pow_right (by omega) (by omega)
            refine ⟨?_, hVn.out⟩
            have e : o * 128 = ((128 ^ (k + 1) : Nat) : Int) := by rw [Ho.out, Nat.pow_succ, Int.natCast_mul]; rfl
            rw [e]
            generalize 128 ^ (k + 1) = q at h1 ⊢
            exact IntWalk.wrap64_in _ (by omega)
          clear hVn Hp Ho Hv hcons hsnoc hE hV
          go_wp2
          go_round
          case rel => exact ⟨k + 1, v + p1, _, by omega, by omega, by go_num, by go_num, rfl, hE2, hV2⟩
          case measure => simp [intOf]; omega
        · by_cases hform : 0 < k ∧ y = 0
          · have hz : Hid (z = (0, 11)) := by
              show _ = _
              rw [← hE.out, hcons.out, if_neg (by omega), if_pos (by omega), if_pos hform]
            obtain ⟨hk0, hy0⟩ := hform
            subst hy0
            clear hVn Hp Ho Hv hcons hsnoc hE hV
            go_wp2
            go_ret3
            rw [hz.out]
            exact ⟨rfl, rfl⟩
          · have hz : Hid (z = (k + 1, 0)) := by
              show _ = _
              rw [← hE.out, hcons.out, if_neg (by omega), if_pos (by omega), if_neg hform]
            have hfin : Hid (Ending.returned (.tuple #[.int .i64 ((v : Int) + (p1 : Int)), .int .i64 ((k : Int) + 1), .int .i64 0]) = Ending.returned (.tuple #[.int .i64 (readV 9223372036854775808 z l : Nat), .int .i64 (z.1 : Nat), .int .i64 (z.2 : Nat)])) := by
              show _ = _
              rw [hz.out]
              have e : readV 9223372036854775808 (k + 1, 0) l = v + p1 := by
                show sevL (l.take (k + 1)) % 9223372036854775808 = _
                rw [← hVn.out]; omega
              rw [e]; rfl
            have hcase : (y = 0 ∧ k = 0) ∨ 0 < y := by omega
            clear hVn Hp Ho Hv hcons hsnoc hE hV hz hform
            rcases hcase with ⟨hy0, hk0⟩ | hy0
            · have hyb : (((y : Nat) : Int) == 0) = true := by rw [beq_iff_eq]; omega
              have hkb : decide ((0 : Int) < (k : Int)) = false := by rw [decide_eq_false_iff_not]; omega
              have hk1 : k ≤ 0 := by omega
              clear hy0 hk0
              go_wp2
              go_ret3
              exact ⟨hfin.out, rfl⟩
            · have hyb : (((y : Nat) : Int) == 0) = false := by rw [beq_eq_false_iff_ne]; omega
              go_wp2
              go_ret3
              exact ⟨hfin.out, rfl⟩
      · have hk9 : k = 9 := by omega
        subst hk9
        have hz : Hid (z = (0, 11)) := by
          show _ = _
          rw [← hE.out, endsL_cons 9 9 l (by rw [hlen.out]; exact hlt), if_pos (by omega)]
        obtain ⟨b, off, rfl, _, hc⟩ := hl.at_ hlt
        clear hE hV
        go_wp2
        go_ret3
        rw [hz.out]
        exact ⟨rfl, rfl⟩
    · have hz : Hid (z = (0, if k < 9 then 10 else 11)) := by
        show _ = _
        rw [← hE.out, endsL_nil 9 k l (by rw [hlen.out]; omega)]
      have hkn : k = n := by omega
      subst hkn
      clear hE hV
      by_cases h9 : k < 9
      · rw [if_pos h9] at hz
        go_wp2
        go_ret3
        rw [hz.out]
        exact ⟨rfl, rfl⟩
      · rw [if_neg h9] at hz
        go_wp2
        go_ret3
        rw [hz.out]
        exact ⟨rfl, rfl⟩
end Go.Proofs.Ytkhihgilodhjfaa
