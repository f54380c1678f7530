/- Contracts of the reference of num: the number of eight bytes, short bytes. -/
import Derived.Test.YthplicnidknphaaRefNumG
import Derived.Test.YthplicnidknphaaRefNumB
import Derived.Test.YthplicnidknphaaNumC
namespace Go.Proofs.Ythplicnidknphaa
open Go.RowKit

set_option maxRecDepth 100000 in
theorem refshort_any (f : Nat) : ∀ (n : Nat) (w : World), n < 128 ^ (f + 1) → f ≤ 9 → n < 9223372036854775808 →
    Calls Try.prog 88 #[.int .i64 n] w fun e w' => ∃ A c, e = .returned (.slice A (digL f n).length c) ∧ OB w' w.heap.size 5 A (digL f n).length c (digL f n) ∧ Below w.heap.size w w' := by
  have hsmall : ∀ (f n : Nat) (w : World), n < 128 → Calls Try.prog 88 #[.int .i64 n] w fun e w' => ∃ A c, e = .returned (.slice A (digL f n).length c) ∧ OB w' w.heap.size 5 A (digL f n).length c (digL f n) ∧ Below w.heap.size w w' := by
    intro f n w hn
    rw [digL_lt hn]
    have hbv := Lib.hid (bv_ofNat (v := n) (by omega))
    go_enter Try.func88, Try.ntmps88
    go_wp2_with fail
    go_ret
    refine ⟨_, 1, rfl, Ow.new (enc := bv) w 5 _ [UInt8.ofNat n] (by rw [List.map_cons, hbv.out]; rfl) (by simp [maxLen]), (by (repeat' (first | (with_reducible exact Below.refl _ _) | (with_reducible assumption) | (with_reducible refine Below.drew ?_) | (with_reducible refine below_drewN ?_ _) | (with_reducible refine Below.alloc ?_ ?_ _) | (with_reducible refine Below.setCell ?_ ?_ _) | omega | (simp; done) | (simp; omega))))⟩
  induction f with
  | zero => intro n w h _ _; exact hsmall 0 n w (by omega)
  | succ f ih =>
    intro n w h hf h63
    by_cases hn : n < 128
    · exact hsmall (f + 1) n w hn
    · have hdef : Hid (digL (f + 1) n = [UInt8.ofNat (n % 128 + 128)] ++ digL f (n / 128)) := by
        show digL (f + 1) n = _
        conv => lhs; unfold digL
        rw [if_neg hn]; rfl
      have hc := fun w => ih (n / 128) w (by rw [Nat.pow_succ] at h; omega) (by omega) (by omega)
      rw [show ((n / 128 : Nat) : Int) = (n : Int) / 128 from by omega] at hc
      have hlen := (digL_len f (n / 128)).1
      have hbv := Lib.hid (bv_ofNat (v := n % 128 + 128) (by omega))
      clear ih hsmall
      generalize digL f (n / 128) = L at *
      have hll : (digL (f + 1) n).length = 1 + L.length := by rw [hdef.out, List.length_append]; rfl
      rw [hll]
      clear hll
      generalize digL (f + 1) n = M at *
      have hnew : ∀ w : World, Hid (Ow bv (w.alloc (.cells #[.int .u8 ((n : Int) % 128 + 128)] 5)) w.heap.size 5 (some ⟨w.heap.size, 0, none⟩) 1 1 [UInt8.ofNat (n % 128 + 128)]) := fun w =>
        Ow.new (enc := bv) w 5 #[.int .u8 ((n : Int) % 128 + 128)] [UInt8.ofNat (n % 128 + 128)] (by rw [List.map_cons, hbv.out]; rfl) (by simp [maxLen])
      go_enter Try.func88, Try.ntmps88
      go_wp2_with (first
        | (go_at_call 88; (with_reducible refine (hc _).mono ?_); rintro e w1 ⟨A, c, rfl, hown, hb⟩; have hbs := hb.size)
        | (at_builtin; refine wpList_app rfl rfl elemU8 bv_one (s := .tmp 12) (N := 1 + L.length) (L := M) rfl ((hnew w).out.below hb (Nat.le_refl _)) rfl hown.rd rfl hdef.out.symm (by unfold maxLen; omega) (by omega) (by simp at hbs; omega) ?_; intro A5 c5 w5 hown5 hg5 hat5 hb5; replace hb := below_then' (a := w) (B := w.heap.size) (by (repeat' (first | (with_reducible exact Below.refl _ _) | (with_reducible assumption) | (with_reducible refine Below.drew ?_) | (with_reducible refine below_drewN ?_ _) | (with_reducible refine Below.alloc ?_ ?_ _) | (with_reducible refine Below.setCell ?_ ?_ _) | omega | (simp; done) | (simp; omega)))) hb (by first | omega | (simp; done) | (simp; omega)); replace hb5 := below_then' hb hb5 (Nat.le_refl _)))
      go_ret
      exact ⟨A5, c5, rfl, hown5, hb5⟩
theorem refshort (n : Nat) (w : World) (h : n < 9223372036854775808) :
    Calls Try.prog 88 #[.int .i64 n] w fun e w' => ∃ A c, e = .returned (.slice A (digL 9 n).length c) ∧ OB w' w.heap.size 5 A (digL 9 n).length c (digL 9 n) ∧ Below w.heap.size w w' :=
  refshort_any 9 n w (by omega) (by omega) h

set_option maxRecDepth 100000 in
theorem ends_any (A : Option Addr) (n c most : Nat) (l : List UInt8) (w : World) (hl : RB w A n l) (hn : n ≤ maxLen) :
    Calls Try.prog 116 #[.slice A n c, .int .i64 most] w fun e w' => e = .returned (.tuple #[.int .i64 ((endsL most 0 l).1 : Nat), .int .i64 ((endsL most 0 l).2 : Nat)]) ∧ w = w' := by
  unfold maxLen at hn
  have hlen := Lib.hid hl.1
  generalize hz : endsL most 0 l = z at *
  have Hz := Lib.hid hz
  clear hz
  go_enter Try.func116, Try.ntmps116
  go_wp2
  go_loop [6] (fun ii => ∃ k, k ≤ n ∧ k ≤ most ∧ ii = .int .i64 (k : Nat) ∧ Hid (endsL most k (l.drop k) = z)) (fun ii => n - (intOf ii).toNat)
  case atStart => exact ⟨0, Nat.zero_le _, Nat.zero_le _, rfl, Hz⟩
  case round =>
    obtain ⟨k, hk, hkm, rfl, hE⟩ := hrel
    by_cases hlt : k < n
    · by_cases hmost : k < most
      · obtain ⟨b, off, rfl, _, hc⟩ := hl.at_ hlt
        have hcons := Lib.hid (endsL_cons most k l (by rw [hlen.out]; exact hlt))
        have hb := byteAt_lt l k
        generalize byteAt l k = y at *
        have hkm' : (k : Int) < most := by omega
        have hkn' : (k : Int) < n := by omega
        by_cases h128 : 128 ≤ y
        · have hE2 : Hid (endsL most (k + 1) (l.drop (k + 1)) = z) := by
            show _ = _
            rw [← hE.out, hcons.out, if_neg (by omega), if_neg (by omega)]
          clear hcons hE
          go_wp2
          go_round
          case rel => exact ⟨k + 1, by omega, by omega, by go_num, hE2⟩
          case measure => simp [intOf]; omega
        · have h128' : y < 128 := by omega
          by_cases hform : 0 < k ∧ y = 0
          · have hz : Hid (z = (0, 11)) := by
              show _ = _
              rw [← hE.out, hcons.out, if_neg (by omega), if_pos h128', if_pos hform]
            obtain ⟨hk0, hy0⟩ := hform
            have hyb : (((y : Nat) : Int) == 0) = true := by rw [beq_iff_eq]; omega
            clear hcons hE hy0
            go_wp2
            go_ret2
            rw [hz.out]
            exact ⟨rfl, rfl⟩
          · have hz : Hid (z = (k + 1, 0)) := by
              show _ = _
              rw [← hE.out, hcons.out, if_neg (by omega), if_pos h128', if_neg hform]
            have hcase : k = 0 ∨ (0 < k ∧ 0 < y) := by omega
            clear hcons hE hform
            rcases hcase with hk0 | ⟨hk0, hy0⟩
            · have hkb : decide ((0 : Int) < (k : Int)) = false := by rw [decide_eq_false_iff_not]; omega
              have hk1 : k ≤ 0 := by omega
              clear hk0
              go_wp2
              go_ret2
              rw [hz.out]
              exact ⟨rfl, rfl⟩
            · have hyb : (((y : Nat) : Int) == 0) = false := by rw [beq_eq_false_iff_ne]; omega
              go_wp2
              go_ret2
              rw [hz.out]
              exact ⟨rfl, rfl⟩
      · have hk9 : k = most := by omega
        have hz : Hid (z = (0, 11)) := by
          show _ = _
          rw [← hE.out, endsL_cons most k l (by rw [hlen.out]; exact hlt), if_pos (by omega)]
        have hd1 : decide ((k : Int) < most) = false := by rw [decide_eq_false_iff_not]; omega
        have hd2 : decide ((n : Int) < most) = false := by rw [decide_eq_false_iff_not]; omega
        clear hE hk9
        go_wp2
        go_ret2
        rw [hz.out]
        exact ⟨rfl, rfl⟩
    · have hz : Hid (z = (0, if k < most then 10 else 11)) := by
        show _ = _
        rw [← hE.out, endsL_nil most k l (by rw [hlen.out]; omega)]
      have hkn : k = n := by omega
      subst hkn
      clear hE
      by_cases h9 : k < most
      · rw [if_pos h9] at hz
        go_wp2
        go_ret2
        rw [hz.out]
        exact ⟨rfl, rfl⟩
      · rw [if_neg h9] at hz
        go_wp2
        go_ret2
        rw [hz.out]
        exact ⟨rfl, rfl⟩
theorem ends9 (A : Option Addr) (n c : Nat) (l : List UInt8) (w : World) (hl : RB w A n l) (hn : n ≤ maxLen) :
    Calls Try.prog 116 #[.slice A n c, .int .i64 9] w fun e w' => e = .returned (.tuple #[.int .i64 ((endsL 9 0 l).1 : Nat), .int .i64 ((endsL 9 0 l).2 : Nat)]) ∧ w = w' := ends_any A n c 9 l w hl hn
theorem ends10 (A : Option Addr) (n c : Nat) (l : List UInt8) (w : World) (hl : RB w A n l) (hn : n ≤ maxLen) :
    Calls Try.prog 116 #[.slice A n c, .int .i64 10] w fun e w' => e = .returned (.tuple #[.int .i64 ((endsL 10 0 l).1 : Nat), .int .i64 ((endsL 10 0 l).2 : Nat)]) ∧ w = w' := ends_any A n c 10 l w hl hn
end Go.Proofs.Ythplicnidknphaa
