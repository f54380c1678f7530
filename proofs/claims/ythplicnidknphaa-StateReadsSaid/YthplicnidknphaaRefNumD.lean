/- Contracts of the reference of num: Long, turned numbers. -/
import Derived.Test.YthplicnidknphaaRefNumC
import Derived.Test.YthplicnidknphaaNumD
import Derived.Test.YthplicnidknphaaPlainNumB
namespace Go.Proofs.Ythplicnidknphaa
open Go.RowKit

theorem sevL_drop (l : List UInt8) (k : Nat) (h : k < l.length) : sevL (l.drop k) = byteAt l k % 128 + 128 * sevL (l.drop (k + 1)) := by
  rw [List.drop_eq_getElem_cons h]; simp [sevL, byteAt, List.getD_eq_getElem?_getD, h]
theorem byteAt_take (l : List UInt8) (s k : Nat) (h : k < s) : byteAt (l.take s) k = byteAt l k := by
  unfold byteAt; simp [List.getD_eq_getElem?_getD, h]

set_option maxRecDepth 100000 in
theorem reflong_err (A : Option Addr) (n c : Nat) (l : List UInt8) (w : World) (hl : RB w A n l) (hn : n ≤ maxLen) (he : (endsL 9 0 l).2 ≠ 0) :
    Calls Try.prog 124 #[.slice A n c] w fun e w' => e = .returned (.tuple #[.int .i64 0, .int .i64 0, .int .i64 ((endsL 9 0 l).2 : Nat)]) ∧ w = w' := by
  have hd := fun w => ends9 A n c l w
  generalize endsL 9 0 l = z at *
  have h1 : (((z.2 : Nat) : Int) != 0) = true := by rw [bne_iff_ne]; omega
  clear he
  go_enter Try.func124, Try.ntmps124
  go_wp2_with (go_at_call 116; (with_reducible refine (hd _ hl hn).mono ?_); rintro e w' ⟨rfl, rfl⟩)
  go_ret3
  exact ⟨rfl, rfl⟩
set_option maxRecDepth 100000 in
theorem reflong_ok (A : Option Addr) (n c s : Nat) (l : List UInt8) (w : World) (hl : RB w A n l) (hn : n ≤ maxLen) (hz : endsL 9 0 l = (s, 0)) :
    Calls Try.prog 124 #[.slice A n c] w fun e w' => e = .returned (.tuple #[.int .i64 (longV l : Nat), .int .i64 s, .int .i64 0]) ∧ w = w' := by
  have hd := fun w => ends9 A n c l w
  have hle := endsL_le 9 l 0 (by rw [hz])
  rw [hz] at hd hle
  simp only [Nat.zero_add] at hle
  have hlen := Lib.hid hl.1
  have hs9 : s ≤ 9 := hle.2.1
  have hsn : s ≤ n := by have := hlen.out; omega
  have hval : Hid (longV l = sevL (l.take s)) := by
    show longV l = _
    unfold longV readV
    rw [hz, if_pos rfl]
    have h2 := sevL_lt (l.take s)
    have h3 : 128 ^ (l.take s).length ≤ 128 ^ 9 := Nat.pow_le_pow_right (by omega) (by rw [List.length_take]; omega)
    show sevL (l.take s) % 9223372036854775808 = _
    exact Nat.mod_eq_of_lt (by omega)
  generalize longV l = z at *
  clear hz hle
  go_enter Try.func124, Try.ntmps124
  go_wp2_with (go_at_call 116; (with_reducible refine (hd _ hl hn).mono ?_); rintro e w' ⟨rfl, rfl⟩)
  go_loop [7, 8] (fun vv ii => ∃ m v, m ≤ s ∧ ii = .int .i64 ((s : Int) - (m : Nat)) ∧ vv = .int .i64 (v : Nat) ∧ Hid (v = sevL ((l.take s).drop (s - m)))) (fun _ ii => (intOf ii).toNat)
  case atStart => exact ⟨0, 0, Nat.zero_le _, by go_num, rfl, by show 0 = _; rw [List.drop_of_length_le (by rw [List.length_take]; omega)]; rfl⟩
  case round =>
    obtain ⟨m, v, hm, rfl, rfl, hv⟩ := hrel
    by_cases hms : m < s
    · obtain ⟨b, o, rfl, _, hc⟩ := hl.at_ (k := s - m - 1) (by omega)
      have hts : (l.take s).length = s := by rw [List.length_take, hlen.out]; omega
      have hv3 : Hid (128 * v + byteAt l (s - m - 1) % 128 = sevL ((l.take s).drop (s - (m + 1)))) := by
        show _ = _
        rw [show s - (m + 1) = s - m - 1 from by omega, sevL_drop _ _ (by rw [hts]; omega), byteAt_take _ _ _ (by omega), show s - m - 1 + 1 = s - m from by omega, ← hv.out]
        omega
      have hv4 : 128 * v + byteAt l (s - m - 1) % 128 ≤ 9223372036854775807 := by
        rw [hv3.out]
        have h2 := sevL_lt ((l.take s).drop (s - (m + 1)))
        have h3 : 128 ^ ((l.take s).drop (s - (m + 1))).length ≤ 128 ^ 9 := Nat.pow_le_pow_right (by omega) (by rw [List.length_drop, hts]; omega)
        omega
      have hy := byteAt_lt l (s - m - 1)
      generalize byteAt l (s - m - 1) = y at *
      clear hts hd
      go_wp2
      go_round
      case rel => exact ⟨m + 1, 128 * v + y % 128, by omega, by go_num, by go_num, hv3⟩
      case measure => simp [intOf]; omega
    · have hms' : m = s := by omega
      have hz2 : Hid (z = v) := by show _ = _; rw [hval.out, hv.out, hms', Nat.sub_self]; rfl
      have hle2 : s ≤ m := by omega
      clear hms' hd
      go_wp2
      go_ret3
      rw [hz2.out]
      exact ⟨rfl, rfl⟩

/-! ### Turned numbers -/
set_option maxRecDepth 100000 in
theorem turned_any (n : Int) (w : World) (h0 : -9223372036854775808 ≤ n) (h1 : n ≤ 9223372036854775807) :
    Calls Try.prog 114 #[.int .i64 n] w fun e w' => ∃ A c, e = .returned (.slice A 64 c) ∧ Ow iv w' w.heap.size 3 A 64 c (tab 64 (bit (zz n))) ∧ Below w.heap.size w w' := by
  have hbits := fun w => allbits_any n w h0 h1
  have hz0 := Lib.hid (bit_zz0 h0 h1)
  have hz := fun k hk => Lib.hid (bit_zz h0 h1 k hk)
  generalize un n = U at *
  generalize zz n = Z at *
  go_enter Try.func114, Try.ntmps114
  go_wp2_with (go_at_call 102; (with_reducible refine (hbits _).mono ?_); rintro e w1 ⟨B, d, rfl, hownb, hb1⟩; have hb1s := hb1.size; obtain ⟨gb, rfl, _, hgb⟩ := hownb.addr (by omega); have h63 := hownb.tab_cell (k := 63) (by omega))
  have hown0 : Ow iv (w1.alloc (.cells #[.int .i64 (bit U 63 : Nat)] 3)) w1.heap.size 3 (some ⟨w1.heap.size, 0, none⟩) 1 1 (tab 1 (bit Z)) := by
    have := Ow.new (enc := iv) w1 3 #[.int .i64 (bit U 63 : Nat)] [((bit U 63 : Nat) : Int)] rfl (by simp [maxLen])
    rw [← hz0.out] at this ⊢
    exact this
  have hb0 : Below w1.heap.size w1 (w1.alloc (.cells #[.int .i64 (bit U 63 : Nat)] 3)) := (by (repeat' (first | (with_reducible exact Below.refl _ _) | (with_reducible assumption) | (with_reducible refine Below.drew ?_) | (with_reducible refine below_drewN ?_ _) | (with_reducible refine Below.alloc ?_ ?_ _) | (with_reducible refine Below.setCell ?_ ?_ _) | omega | (simp; done) | (simp; omega))))
  generalize w1.alloc (.cells #[.int .i64 (bit U 63 : Nat)] 3) = w2 at *
  have hb0s := hb0.size
  have hcell : ∀ k, k < 64 → Hid (w1.cell? ⟨gb, k, none⟩ = some (.int .i64 (bit U k : Nat))) := fun k hk => hownb.tab_cell hk
  clear h63 hbits
  go_loopw [4, 5] (fun v i wr => ∃ k A c, k ≤ 63 ∧ i = .int .i64 (k : Nat) ∧ v = .slice A (k + 1) c ∧ Ow iv wr w1.heap.size 3 A (k + 1) c (tab (k + 1) (bit Z)) ∧ Below w1.heap.size w1 wr) (fun _ i _ => 63 - (intOf i).toNat)
  case atStart => exact ⟨0, _, 1, by omega, rfl, rfl, hown0, hb0⟩
  case round =>
    obtain ⟨k, A, c, hk, rfl, rfl, hown, hb⟩ := hrel
    have hbs := hb.size
    by_cases hk63 : k < 63
    · have hc := (hb.cell (p := ⟨gb, k, none⟩) hgb).trans (hcell k (by omega)).out
      have h63 := (hb.cell (p := ⟨gb, 63, none⟩) hgb).trans (hcell 63 (by omega)).out
      have hzk := hz k hk63
      have hl1 := bit_le U k
      have hl2 := bit_le U 63
      generalize bit U k = y at *
      generalize bit U 63 = s at *
      clear hcell hz hownb
      by_cases hs : s = 1
      · have hs1 : (((s : Nat) : Int) == 1) = true := by rw [beq_iff_eq]; omega
        have hL : Hid (tab (k + 1) (bit Z) ++ [1 - ((y : Nat) : Int)] = tab (k + 1 + 1) (bit Z)) := by
          show _ = _
          rw [← tab_succ (k + 1), hzk.out, if_pos hs]; congr 2; omega
        clear hs hzk
        go_wp2_with (at_builtin; refine wpList_app rfl rfl elemInt iv_one (s := .tmp 20) (N := k + 1 + 1) (L := tab (k + 1 + 1) (bit Z)) rfl (hown.below (b := wr.heap.size) (by (repeat' (first | (with_reducible exact Below.refl _ _) | (with_reducible assumption) | (with_reducible refine Below.drew ?_) | (with_reducible refine below_drewN ?_ _) | (with_reducible refine Below.alloc ?_ ?_ _) | (with_reducible refine Below.setCell ?_ ?_ _) | omega | (simp; done) | (simp; omega)))) (by first | omega | (simp; done) | (simp; omega))) rfl (k := [1 - ((y : Nat) : Int)]) (Rd.of_block (l := [1 - ((y : Nat) : Int)]) (heap_top _ _ (by simp)) rfl) rfl (hL.out) (by unfold maxLen; omega) (by omega) (by first | omega | (simp; done) | (simp; omega)) ?_; intro A5 c5 w5 hown5 hg5 hat5 hb5)
        replace hb5 := below_then' (a := w1) (B := w1.heap.size) (by (repeat' (first | (with_reducible exact Below.refl _ _) | (with_reducible assumption) | (with_reducible refine Below.drew ?_) | (with_reducible refine below_drewN ?_ _) | (with_reducible refine Below.alloc ?_ ?_ _) | (with_reducible refine Below.setCell ?_ ?_ _) | omega | (simp; done) | (simp; omega)))) hb5 (by first | omega | (simp; done) | (simp; omega)); have hb5s := hb5.size
        go_roundw
        case rel => exact ⟨k + 1, A5, c5, by omega, by go_num, rfl, hown5, hb5⟩
        case measure => simp [intOf]; omega
      · have hs1 : (((s : Nat) : Int) == 1) = false := by rw [beq_eq_false_iff_ne]; omega
        have hL : Hid (tab (k + 1) (bit Z) ++ [((y : Nat) : Int)] = tab (k + 1 + 1) (bit Z)) := by
          show _ = _
          rw [← tab_succ (k + 1), hzk.out, if_neg hs]
        clear hs hzk
        go_wp2_with (at_builtin; refine wpList_app rfl rfl elemInt iv_one (s := .tmp 28) (N := k + 1 + 1) (L := tab (k + 1 + 1) (bit Z)) rfl (hown.below (b := wr.heap.size) (by (repeat' (first | (with_reducible exact Below.refl _ _) | (with_reducible assumption) | (with_reducible refine Below.drew ?_) | (with_reducible refine below_drewN ?_ _) | (with_reducible refine Below.alloc ?_ ?_ _) | (with_reducible refine Below.setCell ?_ ?_ _) | omega | (simp; done) | (simp; omega)))) (by first | omega | (simp; done) | (simp; omega))) rfl (k := [((y : Nat) : Int)]) (Rd.of_block (l := [((y : Nat) : Int)]) (heap_top _ _ (by simp)) rfl) rfl (hL.out) (by unfold maxLen; omega) (by omega) (by first | omega | (simp; done) | (simp; omega)) ?_; intro A5 c5 w5 hown5 hg5 hat5 hb5)
        replace hb5 := below_then' (a := w1) (B := w1.heap.size) (by (repeat' (first | (with_reducible exact Below.refl _ _) | (with_reducible assumption) | (with_reducible refine Below.drew ?_) | (with_reducible refine below_drewN ?_ _) | (with_reducible refine Below.alloc ?_ ?_ _) | (with_reducible refine Below.setCell ?_ ?_ _) | omega | (simp; done) | (simp; omega)))) hb5 (by first | omega | (simp; done) | (simp; omega)); have hb5s := hb5.size
        go_roundw
        case rel => exact ⟨k + 1, A5, c5, by omega, by go_num, rfl, hown5, hb5⟩
        case measure => simp [intOf]; omega
    · have hk9 : k = 63 := by omega
      subst hk9
      clear hcell hz
      go_wp2
      go_ret
      exact ⟨A, c, rfl, hown.rebase hb1s, below_then' hb1 hb hb1s⟩
end Go.Proofs.Ythplicnidknphaa
