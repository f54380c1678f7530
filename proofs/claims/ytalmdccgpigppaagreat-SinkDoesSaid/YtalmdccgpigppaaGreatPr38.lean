/- Parts: RefNumC, RefNumD. -/
import Derived.Test.YtalmdccgpigppaaGreatPr30
import Derived.Test.YtalmdccgpigppaaGreatPr34
import Derived.Test.YtalmdccgpigppaaGreatPr35
namespace Go.Proofs.YtalmdccgpigppaaGreat
open Go.RowKit

set_option maxRecDepth 100000 in
theorem ends_any (A : Option Addr) (n c most : Nat) (l : List UInt8) (w : World) (hl : RB w A n l) (hn : n ≤ maxLen) :
    Calls Tryz.prog 212 #[.slice A n c, .int .i64 most] w fun e w' => e = .returned (.tuple #[.int .i64 ((endsL most 0 l).1 : Nat), .int .i64 ((endsL most 0 l).2 : Nat)]) ∧ w = w' := by
  unfold maxLen at hn
  have hlen := Lib.hid hl.1
  generalize hz : endsL most 0 l = z at *
  have Hz := Lib.hid hz
  clear hz
  go_enter Tryz.func212, Tryz.ntmps212
  go_wp2
  go_loop [6] (fun ii => ∃ k, k ≤ n ∧ k ≤ most ∧ ii = .int .i64 (k : Nat) ∧ Hid (endsL most k (l.drop k) = z)) (fun ii => n - (intOf ii).toNat)
  case atStart => exact ⟨0, Nat.zero_le _, Nat.zero_le _, rfl, Hz⟩
  case round =>
    obtain ⟨k, hk, hkm, rfl, hE⟩ := hrel
    by_cases hlt : k < n
    · by_cases hmost : k < most
      · obtain ⟨b, off, rfl, _, hc⟩ := hl.at_ hlt
        have hcons := Lib.hid (endsL_cons most k l (by rw [hlen.out]; exact hlt))
        have hb := byteAt_lt l k
        generalize byteAt l k = y at *
        have hkm' : (k : Int) < most := by omega
        have hkn' : (k : Int) < n := by omega
        by_cases h128 : 128 ≤ y
        · have hE2 : Hid (endsL most (k + 1) (l.drop (k + 1)) = z) := by
            show _ = _
            rw [← hE.out, hcons.out, if_neg (by omega), if_neg (by omega)]
          clear hcons hE
          go_wp2
          go_round
          case rel => exact ⟨k + 1, by omega, by omega, by go_num, hE2⟩
          case measure => simp [intOf]; omega
        · have h128' : y < 128 := by omega
          by_cases hform : 0 < k ∧ y = 0
          · have hz : Hid (z = (0, 11)) := by
              show _ = _
              rw [← hE.out, hcons.out, if_neg (by omega), if_pos h128', if_pos hform]
            obtain ⟨hk0, hy0⟩ := hform
            have hyb : (((y : Nat) : Int) == 0) = true := by rw [beq_iff_eq]; omega
            clear hcons hE hy0
            go_wp2
            go_ret2
            rw [hz.out]
            exact ⟨rfl, rfl⟩
          · have hz : Hid (z = (k + 1, 0)) := by
              show _ = _
              rw [← hE.out, hcons.out, if_neg (by omega), if_pos h128', if_neg hform]
            have hcase : k = 0 ∨ (0 < k ∧ 0 < y) := by omega
            clear hcons hE hform
            rcases hcase with hk0 | ⟨hk0, hy0⟩
            · have hkb : decide ((0 : Int) < (k : Int)) = false := by rw [decide_eq_false_iff_not]; omega
              have hk1 : k ≤ 0 := by omega
              clear hk0
              go_wp2
              go_ret2
              rw [hz.out]
              exact ⟨rfl, rfl⟩
            · have hyb : (((y : Nat) : Int) == 0) = false := by rw [beq_eq_false_iff_ne]; omega
              go_wp2
              go_ret2
              rw [hz.out]
              exact ⟨rfl, rfl⟩
      · have hk9 : k = most := by omega
        have hz : Hid (z = (0, 11)) := by
          show _ = _
          rw [← hE.out, endsL_cons most k l (by rw [hlen.out]; exact hlt), if_pos (by omega)]
        have hd1 : decide ((k : Int) < most) = false := by rw [decide_eq_false_iff_not]; omega
        have hd2 : decide ((n : Int) < most) = false := by rw [decide_eq_false_iff_not]; omega
        clear hE hk9
        go_wp2
        go_ret2
        rw [hz.out]
        exact ⟨rfl, rfl⟩
    · have hz : Hid (z = (0, if k < most then 10 else 11)) := by
        show _ = _
        rw [← hE.out, endsL_nil most k l (by rw [hlen.out]; omega)]
      have hkn : k = n := by omega
      subst hkn
      clear hE
      by_cases h9 : k < most
      · rw [if_pos h9] at hz
        go_wp2
        go_ret2
        rw [hz.out]
        exact ⟨rfl, rfl⟩
      · rw [if_neg h9] at hz
        go_wp2
        go_ret2
        rw [hz.out]
        exact ⟨rfl, rfl⟩
theorem ends10 (A : Option Addr) (n c : Nat) (l : List UInt8) (w : World) (hl : RB w A n l) (hn : n ≤ maxLen) :
    Calls Tryz.prog 212 #[.slice A n c, .int .i64 10] w fun e w' => e = .returned (.tuple #[.int .i64 ((endsL 10 0 l).1 : Nat), .int .i64 ((endsL 10 0 l).2 : Nat)]) ∧ w = w' := ends_any A n c 10 l w hl hn
end Go.Proofs.YtalmdccgpigppaaGreat
namespace Go.Proofs.YtalmdccgpigppaaGreat
open Go.RowKit

theorem byteAt_take (l : List UInt8) (s k : Nat) (h : k < s) : byteAt (l.take s) k = byteAt l k := by
  unfold byteAt; simp [List.getD_eq_getElem?_getD, h]

/-! ### Turned numbers -/
set_option maxRecDepth 100000 in
theorem turned_any (n : Int) (w : World) (h0 : -9223372036854775808 ≤ n) (h1 : n ≤ 9223372036854775807) :
    Calls Tryz.prog 190 #[.int .i64 n] w fun e w' => ∃ A c, e = .returned (.slice A 64 c) ∧ Ow iv w' w.heap.size 3 A 64 c (tab 64 (bit (zz n))) ∧ Below w.heap.size w w' := by
  have hbits := fun w => allbits_any n w h0 h1
  have hz0 := Lib.hid (bit_zz0 h0 h1)
  have hz := fun k hk => Lib.hid (bit_zz h0 h1 k hk)
  generalize un n = U at *
  generalize zz n = Z at *
  go_enter Tryz.func190, Tryz.ntmps190
  go_wp2_with (go_at_call 134; (with_reducible refine (hbits _).mono ?_); rintro e w1 ⟨B, d, rfl, hownb, hb1⟩; have hb1s := hb1.size; obtain ⟨gb, rfl, _, hgb⟩ := hownb.addr (by omega); have h63 := hownb.tab_cell (k := 63) (by omega))
  have hown0 : Ow iv (w1.alloc (.cells #[.int .i64 (bit U 63 : Nat)] 3)) w1.heap.size 3 (some ⟨w1.heap.size, 0, none⟩) 1 1 (tab 1 (bit Z)) := by
    have := Ow.new (enc := iv) w1 3 #[.int .i64 (bit U 63 : Nat)] [((bit U 63 : Nat) : Int)] rfl (by simp [maxLen])
    rw [← hz0.out] at this ⊢
    exact this
  have hb0 : Below w1.heap.size w1 (w1.alloc (.cells #[.int .i64 (bit U 63 : Nat)] 3)) := (by (repeat' (first | (with_reducible exact Below.refl _ _) | (with_reducible assumption) | (with_reducible refine Below.drew ?_) | (with_reducible refine below_drewN ?_ _) | (with_reducible refine Below.alloc ?_ ?_ _) | (with_reducible refine Below.setCell ?_ ?_ _) | omega | (simp; done) | (simp; omega))))
  generalize w1.alloc (.cells #[.int .i64 (bit U 63 : Nat)] 3) = w2 at *
  have hb0s := hb0.size
  have hcell : ∀ k, k < 64 → Hid (w1.cell? ⟨gb, k, none⟩ = some (.int .i64 (bit U k : Nat))) := fun k hk => hownb.tab_cell hk
  clear h63 hbits
  go_loopw [4, 5] (fun v i wr => ∃ k A c, k ≤ 63 ∧ i = .int .i64 (k : Nat) ∧ v = .slice A (k + 1) c ∧ Ow iv wr w1.heap.size 3 A (k + 1) c (tab (k + 1) (bit Z)) ∧ Below w1.heap.size w1 wr) (fun _ i _ => 63 - (intOf i).toNat)
  case atStart => exact ⟨0, _, 1, by omega, rfl, rfl, hown0, hb0⟩
  case round =>
    obtain ⟨k, A, c, hk, rfl, rfl, hown, hb⟩ := hrel
    have hbs := hb.size
    by_cases hk63 : k < 63
    · have hc := (hb.cell (p := ⟨gb, k, none⟩) hgb).trans (hcell k (by omega)).out
      have h63 := (hb.cell (p := ⟨gb, 63, none⟩) hgb).trans (hcell 63 (by omega)).out
      have hzk := hz k hk63
      have hl1 := bit_le U k
      have hl2 := bit_le U 63
      generalize bit U k = y at *
      generalize bit U 63 = s at *
      clear hcell hz hownb
      by_cases hs : s = 1
      · have hs1 : (((s : Nat) : Int) == 1) = true := by rw [beq_iff_eq]; omega
        have hL : Hid (tab (k + 1) (bit Z) ++ [1 - ((y : Nat) : Int)] = tab (k + 1 + 1) (bit Z)) := by
          show _ = _
          rw [← tab_succ (k + 1), hzk.out, if_pos hs]; congr 2; omega
        clear hs hzk
        go_wp2_with (at_builtin; refine wpList_app rfl rfl elemInt iv_one (s := .tmp 20) (N := k + 1 + 1) (L := tab (k + 1 + 1) (bit Z)) rfl (hown.below (b := wr.heap.size) (by (repeat' (first | (with_reducible exact Below.refl _ _) | (with_reducible assumption) | (with_reducible refine Below.drew ?_) | (with_reducible refine below_drewN ?_ _) | (with_reducible refine Below.alloc ?_ ?_ _) | (with_reducible refine Below.setCell ?_ ?_ _) | omega | (simp; done) | (simp; omega)))) (by first | omega | (simp; done) | (simp; omega))) rfl (k := [1 - ((y : Nat) : Int)]) (Rd.of_block (l := [1 - ((y : Nat) : Int)]) (heap_top _ _ (by simp)) rfl) rfl (hL.out) (by unfold maxLen; omega) (by omega) (by first | omega | (simp; done) | (simp; omega)) ?_; intro A5 c5 w5 hown5 hg5 hat5 hb5)
        replace hb5 := below_then' (a := w1) (B := w1.heap.size) (by (repeat' (first | (with_reducible exact Below.refl _ _) | (with_reducible assumption) | (with_reducible refine Below.drew ?_) | (with_reducible refine below_drewN ?_ _) | (with_reducible refine Below.alloc ?_ ?_ _) | (with_reducible refine Below.setCell ?_ ?_ _) | omega | (simp; done) | (simp; omega)))) hb5 (by first | omega | (simp; done) | (simp; omega)); have hb5s := hb5.size
        go_roundw
        case rel => exact ⟨k + 1, A5, c5, by omega, by go_num, rfl, hown5, hb5⟩
        case measure => simp [intOf]; omega
      · have hs1 : (((s : Nat) : Int) == 1) = false := by rw [beq_eq_false_iff_ne]; omega
        have hL : Hid (tab (k + 1) (bit Z) ++ [((y : Nat) : Int)] = tab (k + 1 + 1) (bit Z)) := by
          show _ = _
          rw [← tab_succ (k + 1), hzk.out, if_neg hs]
        clear hs hzk
        go_wp2_with (at_builtin; refine wpList_app rfl rfl elemInt iv_one (s := .tmp 28) (N := k + 1 + 1) (L := tab (k + 1 + 1) (bit Z)) rfl (hown.below (b := wr.heap.size) (by (repeat' (first | (with_reducible exact Below.refl _ _) | (with_reducible assumption) | (with_reducible refine Below.drew ?_) | (with_reducible refine below_drewN ?_ _) | (with_reducible refine Below.alloc ?_ ?_ _) | (with_reducible refine Below.setCell ?_ ?_ _) | omega | (simp; done) | (simp; omega)))) (by first | omega | (simp; done) | (simp; omega))) rfl (k := [((y : Nat) : Int)]) (Rd.of_block (l := [((y : Nat) : Int)]) (heap_top _ _ (by simp)) rfl) rfl (hL.out) (by unfold maxLen; omega) (by omega) (by first | omega | (simp; done) | (simp; omega)) ?_; intro A5 c5 w5 hown5 hg5 hat5 hb5)
        replace hb5 := below_then' (a := w1) (B := w1.heap.size) (by (repeat' (first | (with_reducible exact Below.refl _ _) | (with_reducible assumption) | (with_reducible refine Below.drew ?_) | (with_reducible refine below_drewN ?_ _) | (with_reducible refine Below.alloc ?_ ?_ _) | (with_reducible refine Below.setCell ?_ ?_ _) | omega | (simp; done) | (simp; omega)))) hb5 (by first | omega | (simp; done) | (simp; omega)); have hb5s := hb5.size
        go_roundw
        case rel => exact ⟨k + 1, A5, c5, by omega, by go_num, rfl, hown5, hb5⟩
        case measure => simp [intOf]; omega
    · have hk9 : k = 63 := by omega
      subst hk9
      clear hcell hz
      go_wp2
      go_ret
      exact ⟨A, c, rfl, hown.rebase hb1s, below_then' hb1 hb hb1s⟩
end Go.Proofs.YtalmdccgpigppaaGreat
