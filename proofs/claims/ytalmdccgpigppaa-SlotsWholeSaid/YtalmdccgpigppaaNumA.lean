/- Contracts of package num: eight bytes. -/
import Derived.Test.YtalmdccgpigppaaPlainNum
namespace Go.Proofs.Ytalmdccgpigppaa
open Go.RowKit

theorem put_any (n : Int) (w : World) : Calls Try.prog 56 #[.int .i64 n] w fun e w' => ∃ A c, e = .returned (.slice A 8 c) ∧ OB w' w.heap.size 5 A 8 c (putL (un n)) ∧ Below w.heap.size w w' := by
  have hw := wrap_un n
  have hu := un_lt n
  generalize un n = U at *
  have hmk : ∀ W : World, (Instr.makeSlice 26 (.int .i64 8) (.int .i64 8)).run Try.prog W = .ok (.slice (some ⟨W.heap.size, 0, none⟩) 8 8) (W.alloc (.cells (madeCells (Value.int .u8 0).cells 8) 5)) := run_make_one elemU8 8 (by omega) (by omega)
  have hown0 : Ow bv (w.alloc (.cells (madeCells (Value.int .u8 0).cells 8) 5)) w.heap.size 5 (some ⟨w.heap.size, 0, none⟩) 8 8 (tabB 8 (fun i => if i < 0 then U / 256 ^ i % 256 else 0)) := by
    have := Ow.made (enc := bv) w 5 0 (.int .u8 0) 8 rfl (by decide)
    rwa [tabB_zero] at this
  have hb0 : Below w.heap.size w (w.alloc (.cells (madeCells (Value.int .u8 0).cells 8) 5)) := (by (repeat' (first | (with_reducible exact Below.refl _ _) | (with_reducible assumption) | (with_reducible refine Below.drew ?_) | (with_reducible refine below_drewN ?_ _) | (with_reducible refine Below.alloc ?_ ?_ _) | (with_reducible refine Below.setCell ?_ ?_ _) | omega | (simp; done) | (simp; omega))))
  go_enter Try.func56, Try.ntmps56
  go_wp2
  go_loopw [4, 11] (fun uu kk wr => ∃ k u, k ≤ 8 ∧ kk = .int .i64 (k : Nat) ∧ uu = .int .u64 (u : Nat) ∧ Hid (u = U / 256 ^ k) ∧ u < 18446744073709551616 ∧ Ow bv wr w.heap.size 5 (some ⟨w.heap.size, 0, none⟩) 8 8 (tabB 8 (fun i => if i < k then U / 256 ^ i % 256 else 0)) ∧ Below w.heap.size w wr) (fun _ kk _ => 8 - (intOf kk).toNat)
  case atStart => exact ⟨0, U, by omega, rfl, rfl, by show U = U / 256 ^ 0; omega, hu, hown0, hb0⟩
  case round =>
    obtain ⟨k, u, hk, rfl, rfl, hU, hu, hown, hb⟩ := hrel
    have hbs := hb.size
    by_cases hk8 : k < 8
    · have hfree := hown.free k
      have hset := fun v hv => Lib.hid (hown.tabB_set (f' := fun i => if i < k + 1 then U / 256 ^ i % 256 else 0) k (u % 256) v hk8 (by omega) hv (fun i hi => by
        by_cases h1 : i = k
        · subst h1; simp [hU.out]
        · by_cases h2 : i < k
          · simp [h1, h2, Nat.lt_succ_of_lt h2]
          · simp [h1, h2, show ¬ i < k + 1 from by omega]))
      have hU2 : Hid (u / 256 = U / 256 ^ (k + 1)) := by
        show _ = _
        rw [hU.out, Nat.div_div_eq_div_mul, Nat.pow_succ]
      obtain ⟨b1, o1, hA, _, hc⟩ := hown.rd.rb.at_ hk8
      injection hA with hA
      injection hA with h1 h2 _
      subst h1 h2
      rw [Nat.zero_add] at hc
      clear hown
      go_wp2
      go_roundw
      case rel => exact ⟨k + 1, u / 256, by omega, by go_num, by go_num, hU2, by omega, (hset _ (by first | rfl | (congr 1; omega))).out, (by (repeat' (first | (with_reducible exact Below.refl _ _) | (with_reducible assumption) | (with_reducible refine Below.drew ?_) | (with_reducible refine below_drewN ?_ _) | (with_reducible refine Below.alloc ?_ ?_ _) | (with_reducible refine Below.setCell ?_ ?_ _) | omega | (simp; done) | (simp; omega))))⟩
      case measure => simp [intOf]; omega
    · have hk9 : k = 8 := by omega
      subst hk9
      go_wp2
      go_ret
      refine ⟨_, 8, rfl, ?_, hb⟩
      unfold putL
      rw [tabB_congr (g := fun i => U / 256 ^ i % 256)] at hown
      · exact hown
      · intro i hi; simp [hi]
theorem get_short (A : Option Addr) (n c : Nat) (w : World) (h : n < 8) : Calls Try.prog 80 #[.slice A n c] w fun e w' => e = .returned (.tuple #[.int .i64 0, .int .i64 10]) ∧ w = w' := by
  have h1 : decide ((n : Int) < 8) = true := by simp; omega
  go_enter Try.func80, Try.ntmps80
  go_wp2
  go_ret2
  exact ⟨rfl, rfl⟩
theorem get_long (A : Option Addr) (n c : Nat) (w : World) (h : 8 < n) (hn : n ≤ maxLen) : Calls Try.prog 80 #[.slice A n c] w fun e w' => e = .returned (.tuple #[.int .i64 0, .int .i64 12]) ∧ w = w' := by
  unfold maxLen at hn
  have h1 : decide ((n : Int) < 8) = false := by simp; omega
  have h2 : decide ((8 : Int) < n) = true := by simp; omega
  go_enter Try.func80, Try.ntmps80
  go_wp2
  go_ret2
  exact ⟨rfl, rfl⟩
theorem ofInt_u64' (a : Nat) (ha : a < 18446744073709551616) : (BitVec.ofInt 64 (a : Int)).toNat = a := by
  rw [BitVec.ofInt_natCast, BitVec.toNat_ofNat]; exact Nat.mod_eq_of_lt (by omega)
theorem u64_shl8_or (u y : Nat) (hu : u ≤ 72057594037927935) (hy : y < 256) : bits .or .u64 ((u : Int) * 256) (y : Int) = ((y + 256 * u : Nat) : Int) := by
  have h := Nat.two_pow_add_eq_or_of_lt (i := 8) (b := y) (by omega) u
  show IntKind.u64.wrap ((BitVec.ofInt 64 ((u * 256 : Nat) : Int) ||| BitVec.ofInt 64 (y : Int)).toNat : Int) = _
  rw [BitVec.toNat_or, ofInt_u64' _ (by omega), ofInt_u64' y (by omega), IntKind.wrap_u64, show u * 256 = 2 ^ 8 * u from by omega, ← h]
  omega
theorem getL_drop (l : List UInt8) (k : Nat) (h : k < l.length) : getL (l.drop k) = byteAt l k + 256 * getL (l.drop (k + 1)) := by
  rw [List.drop_eq_getElem_cons h]; simp [getL, byteAt, List.getD_eq_getElem?_getD, h]
theorem get_any (A : Option Addr) (c : Nat) (l : List UInt8) (w : World) (hl : RB w A 8 l) : Calls Try.prog 80 #[.slice A 8 c] w fun e w' => e = .returned (.tuple #[.int .i64 (sg (getL l)), .int .i64 0]) ∧ w = w' := by
  have hlt : getL l < 18446744073709551616 := by have := getL_lt l; rw [hl.1] at this; omega
  have hwr := wrap_sg hlt
  have hlen := Lib.hid hl.1
  generalize hz : sg (getL l) = z at *
  clear hz
  go_enter Try.func80, Try.ntmps80
  go_wp2
  go_loop [4, 5] (fun uu kk => ∃ k u, k ≤ 8 ∧ kk = .int .i64 (8 - (k : Nat)) ∧ uu = .int .u64 (u : Nat) ∧ Hid (u = getL (l.drop (8 - k)))) (fun _ kk => (intOf kk).toNat)
  case atStart => exact ⟨0, 0, by omega, rfl, rfl, by show 0 = _; rw [List.drop_of_length_le (by rw [hlen.out]; omega)]; rfl⟩
  case round =>
    obtain ⟨k, u, hk, rfl, rfl, hU⟩ := hrel
    by_cases hk8 : k < 8
    · obtain ⟨b, o, rfl, _, hc⟩ := hl.at_ (k := 7 - k) (by omega)
      rw [show o + (7 - k) = o + (8 - k - 1) from by omega] at hc
      have hb := byteAt_lt l (7 - k)
      have hd := getL_drop l (7 - k) (by rw [hlen.out]; omega)
      rw [show 7 - k + 1 = 8 - k from by omega, ← hU.out] at hd
      have hd2 : Hid (getL (l.drop (8 - (k + 1))) = byteAt l (7 - k) + 256 * u) := by rw [show 8 - (k + 1) = 7 - k from by omega]; exact hd
      clear hd
      have hu : u ≤ 72057594037927935 := by
        rw [hU.out]
        have h1 := getL_lt (l.drop (8 - k))
        have h2 : (l.drop (8 - k)).length ≤ 7 := by rw [List.length_drop, hlen.out]; omega
        have h3 : 256 ^ (l.drop (8 - k)).length ≤ 256 ^ 7 := Nat.pow_le_pow_right (by omega) h2
        omega
      generalize byteAt l (7 - k) = y at *
      have hor := u64_shl8_or u y hu hb
      go_wp2
      go_round
      case rel => exact ⟨k + 1, y + 256 * u, by omega, by go_num, by go_num, hd2.out.symm⟩
      case measure => simp [intOf]; omega
    · have hk9 : k = 8 := by omega
      subst hk9
      have hU2 : u = getL l := hU.out
      rw [← hU2] at hwr
      clear hU hU2
      go_wp2
      go_ret2
      exact ⟨rfl, rfl⟩
end Go.Proofs.Ytalmdccgpigppaa
