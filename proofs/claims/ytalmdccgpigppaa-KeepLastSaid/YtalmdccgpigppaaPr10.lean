/- Parts: RefNumC, RefNumD. -/
import Derived.Test.YtalmdccgpigppaaPr08
import Derived.Test.YtalmdccgpigppaaPr04
namespace Go.Proofs.Ytalmdccgpigppaa
open Go.RowKit

set_option maxRecDepth 100000 in
theorem refshort_any (f : Nat) : ∀ (n : Nat) (w : World), n < 128 ^ (f + 1) → f ≤ 9 → n < 9223372036854775808 →
    Calls Try.prog 121 #[.int .i64 n] w fun e w' => ∃ A c, e = .returned (.slice A (digL f n).length c) ∧ OB w' w.heap.size 5 A (digL f n).length c (digL f n) ∧ Below w.heap.size w w' := by
  have hsmall : ∀ (f n : Nat) (w : World), n < 128 → Calls Try.prog 121 #[.int .i64 n] w fun e w' => ∃ A c, e = .returned (.slice A (digL f n).length c) ∧ OB w' w.heap.size 5 A (digL f n).length c (digL f n) ∧ Below w.heap.size w w' := by
    intro f n w hn
    rw [digL_lt hn]
    have hbv := Lib.hid (bv_ofNat (v := n) (by omega))
    go_enter Try.func121, Try.ntmps121
    go_wp2_with fail
    go_ret
    refine ⟨_, 1, rfl, Ow.new (enc := bv) w 5 _ [UInt8.ofNat n] (by rw [List.map_cons, hbv.out]; rfl) (by simp [maxLen]), (by (repeat' (first | (with_reducible exact Below.refl _ _) | (with_reducible assumption) | (with_reducible refine Below.drew ?_) | (with_reducible refine below_drewN ?_ _) | (with_reducible refine Below.alloc ?_ ?_ _) | (with_reducible refine Below.setCell ?_ ?_ _) | omega | (simp; done) | (simp; omega))))⟩
  induction f with
  | zero => intro n w h _ _; exact hsmall 0 n w (by omega)
  | succ f ih =>
    intro n w h hf h63
    by_cases hn : n < 128
    · exact hsmall (f + 1) n w hn
    · have hdef : Hid (digL (f + 1) n = [UInt8.ofNat (n % 128 + 128)] ++ digL f (n / 128)) := by
        show digL (f + 1) n = _
        conv => lhs; unfold digL
        rw [if_neg hn]; rfl
      have hc := fun w => ih (n / 128) w (by rw [Nat.pow_succ] at h; omega) (by omega) (by omega)
      rw [show ((n / 128 : Nat) : Int) = (n : Int) / 128 from by omega] at hc
      have hlen := (digL_len f (n / 128)).1
      have hbv := Lib.hid (bv_ofNat (v := n % 128 + 128) (by omega))
      clear ih hsmall
      generalize digL f (n / 128) = L at *
      have hll : (digL (f + 1) n).length = 1 + L.length := by rw [hdef.out, List.length_append]; rfl
      rw [hll]
      clear hll
      generalize digL (f + 1) n = M at *
      have hnew : ∀ w : World, Hid (Ow bv (w.alloc (.cells #[.int .u8 ((n : Int) % 128 + 128)] 5)) w.heap.size 5 (some ⟨w.heap.size, 0, none⟩) 1 1 [UInt8.ofNat (n % 128 + 128)]) := fun w =>
        Ow.new (enc := bv) w 5 #[.int .u8 ((n : Int) % 128 + 128)] [UInt8.ofNat (n % 128 + 128)] (by rw [List.map_cons, hbv.out]; rfl) (by simp [maxLen])
      go_enter Try.func121, Try.ntmps121
      go_wp2_with (first
        | (go_at_call 121; (with_reducible refine (hc _).mono ?_); rintro e w1 ⟨A, c, rfl, hown, hb⟩; have hbs := hb.size)
        | (at_builtin; refine wpList_app rfl rfl elemU8 bv_one (s := .tmp 12) (N := 1 + L.length) (L := M) rfl ((hnew w).out.below hb (Nat.le_refl _)) rfl hown.rd rfl hdef.out.symm (by unfold maxLen; omega) (by omega) (by simp at hbs; omega) ?_; intro A5 c5 w5 hown5 hg5 hat5 hb5; replace hb := below_then' (a := w) (B := w.heap.size) (by (repeat' (first | (with_reducible exact Below.refl _ _) | (with_reducible assumption) | (with_reducible refine Below.drew ?_) | (with_reducible refine below_drewN ?_ _) | (with_reducible refine Below.alloc ?_ ?_ _) | (with_reducible refine Below.setCell ?_ ?_ _) | omega | (simp; done) | (simp; omega)))) hb (by first | omega | (simp; done) | (simp; omega)); replace hb5 := below_then' hb hb5 (Nat.le_refl _)))
      go_ret
      exact ⟨A5, c5, rfl, hown5, hb5⟩
theorem refshort (n : Nat) (w : World) (h : n < 9223372036854775808) :
    Calls Try.prog 121 #[.int .i64 n] w fun e w' => ∃ A c, e = .returned (.slice A (digL 9 n).length c) ∧ OB w' w.heap.size 5 A (digL 9 n).length c (digL 9 n) ∧ Below w.heap.size w w' :=
  refshort_any 9 n w (by omega) (by omega) h

end Go.Proofs.Ytalmdccgpigppaa
namespace Go.Proofs.Ytalmdccgpigppaa
open Go.RowKit

/-! ### Turned numbers -/
set_option maxRecDepth 100000 in
theorem turned_any (n : Int) (w : World) (h0 : -9223372036854775808 ≤ n) (h1 : n ≤ 9223372036854775807) :
    Calls Try.prog 136 #[.int .i64 n] w fun e w' => ∃ A c, e = .returned (.slice A 64 c) ∧ Ow iv w' w.heap.size 3 A 64 c (tab 64 (bit (zz n))) ∧ Below w.heap.size w w' := by
  have hbits := fun w => allbits_any n w h0 h1
  have hz0 := Lib.hid (bit_zz0 h0 h1)
  have hz := fun k hk => Lib.hid (bit_zz h0 h1 k hk)
  generalize un n = U at *
  generalize zz n = Z at *
  go_enter Try.func136, Try.ntmps136
  go_wp2_with (go_at_call 117; (with_reducible refine (hbits _).mono ?_); rintro e w1 ⟨B, d, rfl, hownb, hb1⟩; have hb1s := hb1.size; obtain ⟨gb, rfl, _, hgb⟩ := hownb.addr (by omega); have h63 := hownb.tab_cell (k := 63) (by omega))
  have hown0 : Ow iv (w1.alloc (.cells #[.int .i64 (bit U 63 : Nat)] 3)) w1.heap.size 3 (some ⟨w1.heap.size, 0, none⟩) 1 1 (tab 1 (bit Z)) := by
    have := Ow.new (enc := iv) w1 3 #[.int .i64 (bit U 63 : Nat)] [((bit U 63 : Nat) : Int)] rfl (by simp [maxLen])
    rw [← hz0.out] at this ⊢
    exact this
  have hb0 : Below w1.heap.size w1 (w1.alloc (.cells #[.int .i64 (bit U 63 : Nat)] 3)) := (by (repeat' (first | (with_reducible exact Below.refl _ _) | (with_reducible assumption) | (with_reducible refine Below.drew ?_) | (with_reducible refine below_drewN ?_ _) | (with_reducible refine Below.alloc ?_ ?_ _) | (with_reducible refine Below.setCell ?_ ?_ _) | omega | (simp; done) | (simp; omega))))
  generalize w1.alloc (.cells #[.int .i64 (bit U 63 : Nat)] 3) = w2 at *
  have hb0s := hb0.size
  have hcell : ∀ k, k < 64 → Hid (w1.cell? ⟨gb, k, none⟩ = some (.int .i64 (bit U k : Nat))) := fun k hk => hownb.tab_cell hk
  clear h63 hbits
  go_loopw [4, 5] (fun v i wr => ∃ k A c, k ≤ 63 ∧ i = .int .i64 (k : Nat) ∧ v = .slice A (k + 1) c ∧ Ow iv wr w1.heap.size 3 A (k + 1) c (tab (k + 1) (bit Z)) ∧ Below w1.heap.size w1 wr) (fun _ i _ => 63 - (intOf i).toNat)
  case atStart => exact ⟨0, _, 1, by omega, rfl, rfl, hown0, hb0⟩
  case round =>
    obtain ⟨k, A, c, hk, rfl, rfl, hown, hb⟩ := hrel
    have hbs := hb.size
    by_cases hk63 : k < 63
    · have hc := (hb.cell (p := ⟨gb, k, none⟩) hgb).trans (hcell k (by omega)).out
      have h63 := (hb.cell (p := ⟨gb, 63, none⟩) hgb).trans (hcell 63 (by omega)).out
      have hzk := hz k hk63
      have hl1 := bit_le U k
      have hl2 := bit_le U 63
      generalize bit U k = y at *
      generalize bit U 63 = s at *
      clear hcell hz hownb
      by_cases hs : s = 1
      · have hs1 : (((s : Nat) : Int) == 1) = true := by rw [beq_iff_eq]; omega
        have hL : Hid (tab (k + 1) (bit Z) ++ [1 - ((y : Nat) : Int)] = tab (k + 1 + 1) (bit Z)) := by
          show _ = _
          rw [← tab_succ (k + 1), hzk.out, if_pos hs]; congr 2; omega
        clear hs hzk
        go_wp2_with (at_builtin; refine wpList_app rfl rfl elemInt iv_one (s := .tmp 20) (N := k + 1 + 1) (L := tab (k + 1 + 1) (bit Z)) rfl (hown.below (b := wr.heap.size) (by (repeat' (first | (with_reducible exact Below.refl _ _) | (with_reducible assumption) | (with_reducible refine Below.drew ?_) | (with_reducible refine below_drewN ?_ _) | (with_reducible refine Below.alloc ?_ ?_ _) | (with_reducible refine Below.setCell ?_ ?_ _) | omega | (simp; done) | (simp; omega)))) (by first | omega | (simp; done) | (simp; omega))) rfl (k := [1 - ((y : Nat) : Int)]) (Rd.of_block (l := [1 - ((y : Nat) : Int)]) (heap_top _ _ (by simp)) rfl) rfl (hL.out) (by unfold maxLen; omega) (by omega) (by first | omega | (simp; done) | (simp; omega)) ?_; intro A5 c5 w5 hown5 hg5 hat5 hb5)
        replace hb5 := below_then' (a := w1) (B := w1.heap.size) (by (repeat' (first | (with_reducible exact Below.refl _ _) | (with_reducible assumption) | (with_reducible refine Below.drew ?_) | (with_reducible refine below_drewN ?_ _) | (with_reducible refine Below.alloc ?_ ?_ _) | (with_reducible refine Below.setCell ?_ ?_ _) | omega | (simp; done) | (simp; omega)))) hb5 (by first | omega | (simp; done) | (simp; omega)); have hb5s := hb5.size
        go_roundw
        case rel => exact ⟨k + 1, A5, c5, by omega, by go_num, rfl, hown5, hb5⟩
        case measure => simp [intOf]; omega
      · have hs1 : (((s : Nat) : Int) == 1) = false := by rw [beq_eq_false_iff_ne]; omega
        have hL : Hid (tab (k + 1) (bit Z) ++ [((y : Nat) : Int)] = tab (k + 1 + 1) (bit Z)) := by
          show _ = _
          rw [← tab_succ (k + 1), hzk.out, if_neg hs]
        clear hs hzk
        go_wp2_with (at_builtin; refine wpList_app rfl rfl elemInt iv_one (s := .tmp 28) (N := k + 1 + 1) (L := tab (k + 1 + 1) (bit Z)) rfl (hown.below (b := wr.heap.size) (by (repeat' (first | (with_reducible exact Below.refl _ _) | (with_reducible assumption) | (with_reducible refine Below.drew ?_) | (with_reducible refine below_drewN ?_ _) | (with_reducible refine Below.alloc ?_ ?_ _) | (with_reducible refine Below.setCell ?_ ?_ _) | omega | (simp; done) | (simp; omega)))) (by first | omega | (simp; done) | (simp; omega))) rfl (k := [((y : Nat) : Int)]) (Rd.of_block (l := [((y : Nat) : Int)]) (heap_top _ _ (by simp)) rfl) rfl (hL.out) (by unfold maxLen; omega) (by omega) (by first | omega | (simp; done) | (simp; omega)) ?_; intro A5 c5 w5 hown5 hg5 hat5 hb5)
        replace hb5 := below_then' (a := w1) (B := w1.heap.size) (by (repeat' (first | (with_reducible exact Below.refl _ _) | (with_reducible assumption) | (with_reducible refine Below.drew ?_) | (with_reducible refine below_drewN ?_ _) | (with_reducible refine Below.alloc ?_ ?_ _) | (with_reducible refine Below.setCell ?_ ?_ _) | omega | (simp; done) | (simp; omega)))) hb5 (by first | omega | (simp; done) | (simp; omega)); have hb5s := hb5.size
        go_roundw
        case rel => exact ⟨k + 1, A5, c5, by omega, by go_num, rfl, hown5, hb5⟩
        case measure => simp [intOf]; omega
    · have hk9 : k = 63 := by omega
      subst hk9
      clear hcell hz
      go_wp2
      go_ret
      exact ⟨A, c, rfl, hown.rebase hb1s, below_then' hb1 hb hb1s⟩
end Go.Proofs.Ytalmdccgpigppaa
