/- Parts: RowC. -/
import Derived.Test.YtalmdccgpigppaaGreatPr39
namespace Go.Proofs.YtalmdccgpigppaaGreat
open Go.RowKit

theorem write_row (A B : Option Addr) (n m c d : Nat) (ts l : List Int) (w : World) (ht : RI w A n ts) (hl : RI w B m l) (hn : n ≤ maxLen) (hm : m ≤ maxLen) (h : rightB ts = true) (hf : fitsB ts l = false) :
    Calls Tryz.prog 45 #[.slice A n c, .slice B m d] w fun e w' => e = .returned (.tuple #[.slice none 0 0, .int .i64 41]) ∧ w = w' := by
  have hright := right_any A n c ts w ht hn
  have hfits := fits_any A B n m c d ts l w ht hl hn hm
  rw [h] at hright
  rw [hf] at hfits
  clear h hf
  go_enter Tryz.func45, Tryz.ntmps45
  go_wp2_with (first
    | (go_at_call 49; (with_reducible refine (hright).mono ?_); rintro e w' ⟨rfl, rfl⟩)
    | (go_at_call 104; (with_reducible refine (hfits).mono ?_); rintro e w' ⟨rfl, rfl⟩))
  go_ret2
  exact ⟨rfl, rfl⟩

theorem piece_two (v : Int) : piece 2 v = [UInt8.ofNat v.toNat] := by unfold piece; rw [if_pos rfl]
theorem piece_not {t : Int} (h : t ≠ 2) (v : Int) : piece t v = digL 9 (zz v) := by unfold piece; rw [if_neg h]

set_option maxHeartbeats 800000 in
theorem rowwrite_ok (A B : Option Addr) (n m c d : Nat) (ts l : List Int) (w : World) (ht : RI w A n ts) (hl : RI w B m l) (hn : n ≤ maxLen) (hm : m ≤ maxLen) (hf : fitsB ts l = true)
    (hb : ∀ i, i < l.length → -9223372036854775808 ≤ intAt l i ∧ intAt l i ≤ 9223372036854775807) :
    Calls Tryz.prog 45 #[.slice A n c, .slice B m d] w fun e w' => ∃ A' N c', e = .returned (.tuple #[.slice A' N c', .int .i64 0]) ∧ OB w' w.heap.size 5 A' N c' (rowB ts l ts.length) ∧ Below w.heap.size w w' := by
  have hright := right_any A n c ts w ht hn
  have hfits := fits_any A B n m c d ts l w ht hl hn hm
  obtain ⟨f1, f2, f3⟩ := fitsB_true.1 hf
  obtain ⟨r1, r2, r3⟩ := rightB_true.1 f1
  rw [hf] at hfits
  rw [f1] at hright
  have e1 := ht.1
  have e2 := hl.1
  have hmn : m = n := by omega
  subst hmn
  have hm8 : m ≤ 8 := by omega
  rw [e1] at f3 r1 ⊢
  rw [e2] at hb
  clear hf f1 f2 r2 r3 e1 e2
  have hrs : ∀ k, Hid (rowB ts l (k + 1) = rowB ts l k ++ piece (intAt ts k) (intAt l k)) := fun k => rfl
  have hr0 : Hid (rowB ts l 0 = []) := rfl
  generalize rowB ts l = R at *
  go_enter Tryz.func45, Tryz.ntmps45
  go_wp2_with (first
    | (go_at_call 49; (with_reducible refine (hright).mono ?_); rintro e w' ⟨rfl, rfl⟩)
    | (go_at_call 104; (with_reducible refine (hfits).mono ?_); rintro e w' ⟨rfl, rfl⟩))
  go_loopw [6, 20] (fun v i wr => ∃ k N A' c', k ≤ m ∧ i = .int .i64 (k : Nat) ∧ N ≤ 10 * k ∧ v = .slice A' N c' ∧ Ow bv wr w.heap.size 5 A' N c' (R k) ∧ Below w.heap.size w wr) (fun _ i _ => m - (intOf i).toNat)
  case atStart => exact ⟨0, 0, none, 0, by omega, rfl, by omega, rfl, by rw [hr0.out]; exact Ow.nil _ _ _ _, Below.refl _ _⟩
  case round =>
    obtain ⟨k, N, A1, c1, hk, rfl, hN, rfl, hown, hbel⟩ := hrel
    have hbs := hbel.size
    by_cases hlt : k < m
    · have ht' := ht.below hbel (Nat.le_refl _)
      have hl' := hl.below hbel (Nat.le_refl _)
      obtain ⟨b, o, rfl, _, hc⟩ := ht'.at_ hlt
      obtain ⟨b2, o2, rfl, _, hc2⟩ := hl'.at_ hlt
      have hk1 := hrs k
      have hbk := hb k hlt
      by_cases h2 : intAt ts k = 2
      · have h3 := f3 k hlt h2
        rw [h2] at hc
        clear hrs hb f3 r1
        rcases h3 with h3 | h3
        all_goals
          have hk2 : Hid (R k ++ [UInt8.ofNat (intAt l k).toNat] = R (k + 1)) := by
            show _ = _
            rw [hk1.out, h2, piece_two]
          rw [h3] at hc2 hk2
          clear h3 h2 hk1 hbk
        · go_wp2_with (at_builtin; refine wpList_app rfl rfl elemU8 bv_one (s := .tmp 27) (N := N + 1) (L := R (k + 1)) rfl (hown.below (b := wr.heap.size) (by (repeat' (first | (with_reducible exact Below.refl _ _) | (with_reducible assumption) | (with_reducible refine Below.drew ?_) | (with_reducible refine below_drewN ?_ _) | (with_reducible refine Below.alloc ?_ ?_ _) | (with_reducible refine Below.setCell ?_ ?_ _) | omega | (simp; done) | (simp; omega)))) (by first | omega | (simp; done) | (simp; omega))) rfl (k := [(0 : UInt8)]) (Rd.of_block (l := [(0 : UInt8)]) (heap_top _ _ (by simp)) rfl) rfl (hk2.out) (by unfold maxLen; omega) (by omega) (by first | omega | (simp; done) | (simp; omega)) ?_; intro A5 c5 w5 hown5 hg5 hat5 hb5)
          replace hb5 := below_then' (a := w) (B := w.heap.size) (by (repeat' (first | (with_reducible exact Below.refl _ _) | (with_reducible assumption) | (with_reducible refine Below.drew ?_) | (with_reducible refine below_drewN ?_ _) | (with_reducible refine Below.alloc ?_ ?_ _) | (with_reducible refine Below.setCell ?_ ?_ _) | omega | (simp; done) | (simp; omega)))) hb5 (by first | omega | (simp; done) | (simp; omega)); have hb5s := hb5.size
          go_roundw
          case rel => exact ⟨k + 1, N + 1, A5, c5, by omega, by go_num, by omega, rfl, hown5, hb5⟩
          case measure => simp [intOf]; omega
        · go_wp2_with (at_builtin; refine wpList_app rfl rfl elemU8 bv_one (s := .tmp 27) (N := N + 1) (L := R (k + 1)) rfl (hown.below (b := wr.heap.size) (by (repeat' (first | (with_reducible exact Below.refl _ _) | (with_reducible assumption) | (with_reducible refine Below.drew ?_) | (with_reducible refine below_drewN ?_ _) | (with_reducible refine Below.alloc ?_ ?_ _) | (with_reducible refine Below.setCell ?_ ?_ _) | omega | (simp; done) | (simp; omega)))) (by first | omega | (simp; done) | (simp; omega))) rfl (k := [(1 : UInt8)]) (Rd.of_block (l := [(1 : UInt8)]) (heap_top _ _ (by simp)) rfl) rfl (hk2.out) (by unfold maxLen; omega) (by omega) (by first | omega | (simp; done) | (simp; omega)) ?_; intro A5 c5 w5 hown5 hg5 hat5 hb5)
          replace hb5 := below_then' (a := w) (B := w.heap.size) (by (repeat' (first | (with_reducible exact Below.refl _ _) | (with_reducible assumption) | (with_reducible refine Below.drew ?_) | (with_reducible refine below_drewN ?_ _) | (with_reducible refine Below.alloc ?_ ?_ _) | (with_reducible refine Below.setCell ?_ ?_ _) | omega | (simp; done) | (simp; omega)))) hb5 (by first | omega | (simp; done) | (simp; omega)); have hb5s := hb5.size
          go_roundw
          case rel => exact ⟨k + 1, N + 1, A5, c5, by omega, by go_num, by omega, rfl, hown5, hb5⟩
          case measure => simp [intOf]; omega
      · have b2 : (intAt ts k == 2) = false := by rw [beq_eq_false_iff_ne]; exact h2
        have hkL : Hid (R k ++ digL 9 (zz (intAt l k)) = R (k + 1)) := by
          show _ = _
          rw [hk1.out, piece_not h2]
        have hz := fun w => zig_any (intAt l k) w hbk.1 hbk.2
        have hd := (digL_len 9 (zz (intAt l k))).1
        clear hrs hb f3 r1 h2 hk1 hbk
        generalize intAt ts k = t at *
        generalize digL 9 (zz (intAt l k)) = D at *
        generalize intAt l k = v at *
        go_wp2_with (first
          | ((go_at_call 105; (with_reducible refine (hz _).mono ?_); rintro e w4 ⟨A4, c4, rfl, hown4, hb4⟩); have hb4s := hb4.size; have hbw4 := below_then hbel hb4 hbs)
          | (at_builtin; refine wpList_app rfl rfl elemU8 bv_one (s := .tmp 35) (N := N + D.length) (L := R (k + 1)) rfl (hown.below (b := wr.heap.size) (by (repeat' (first | (with_reducible exact Below.refl _ _) | (with_reducible assumption) | (with_reducible refine Below.drew ?_) | (with_reducible refine below_drewN ?_ _) | (with_reducible refine Below.alloc ?_ ?_ _) | (with_reducible refine Below.setCell ?_ ?_ _) | omega | (simp; done) | (simp; omega)))) (by first | omega | (simp; done) | (simp; omega))) rfl (k := D) (hown4.rd) (by first | rfl | omega) (by first | exact hkL.out | rfl | (simp; done)) (by unfold maxLen; omega) (by omega) (by first | omega | (simp; done) | (simp; omega)) ?_; intro A5 c5 w5 hown5 hg5 hat5 hb5; replace hown5 := hown5.rebase (base' := w.heap.size) (by first | omega | (simp; done) | (simp; omega)); replace hb5 := below_then' (a := w) (B := w.heap.size) (by (repeat' (first | (with_reducible exact Below.refl _ _) | (with_reducible assumption) | (with_reducible refine Below.drew ?_) | (with_reducible refine below_drewN ?_ _) | (with_reducible refine Below.alloc ?_ ?_ _) | (with_reducible refine Below.setCell ?_ ?_ _) | omega | (simp; done) | (simp; omega)))) hb5 (by first | omega | (simp; done) | (simp; omega)); have hb5s := hb5.size))
        go_roundw
        case rel => exact ⟨k + 1, N + D.length, A5, c5, by omega, by go_num, by omega, rfl, hown5, hb5⟩
        case measure => simp [intOf]; omega
    · have hkn : k = m := by omega
      subst hkn
      clear hrs hb f3 r1
      go_wp2
      go_ret2
      exact ⟨A1, N, c1, rfl, hown, hbel⟩

set_option maxHeartbeats 800000 in
theorem refbytes_row (A B : Option Addr) (n m c d : Nat) (ts l : List Int) (w : World) (ht : RI w A n ts) (hl : RI w B m l) (hn : n ≤ maxLen) (hm : m ≤ maxLen) (hf : fitsB ts l = true)
    (hb : ∀ i, i < l.length → -9223372036854775808 ≤ intAt l i ∧ intAt l i ≤ 9223372036854775807) :
    Calls Tryz.prog 174 #[.slice A n c, .slice B m d] w fun e w' => ∃ A' N c', e = .returned (.slice A' N c') ∧ OB w' w.heap.size 5 A' N c' (rowB ts l ts.length) ∧ Below w.heap.size w w' := by
  obtain ⟨f1, f2, f3⟩ := fitsB_true.1 hf
  obtain ⟨r1, r2, r3⟩ := rightB_true.1 f1
  have e1 := ht.1
  have e2 := hl.1
  have hmn : m = n := by omega
  subst hmn
  have hm8 : m ≤ 8 := by omega
  rw [e1] at f3 r1 ⊢
  rw [e2] at hb
  clear hf f1 f2 r2 r3 e1 e2
  have hrs : ∀ k, Hid (rowB ts l (k + 1) = rowB ts l k ++ piece (intAt ts k) (intAt l k)) := fun k => rfl
  have hr0 : Hid (rowB ts l 0 = []) := rfl
  generalize rowB ts l = R at *
  go_enter Tryz.func174, Tryz.ntmps174
  go_wp2
  go_loopw [5, 6] (fun v i wr => ∃ k N A' c', k ≤ m ∧ i = .int .i64 (k : Nat) ∧ N ≤ 10 * k ∧ v = .slice A' N c' ∧ Ow bv wr w.heap.size 5 A' N c' (R k) ∧ Below w.heap.size w wr) (fun _ i _ => m - (intOf i).toNat)
  case atStart => exact ⟨0, 0, none, 0, by omega, rfl, by omega, rfl, by rw [hr0.out]; exact Ow.nil _ _ _ _, Below.refl _ _⟩
  case round =>
    obtain ⟨k, N, A1, c1, hk, rfl, hN, rfl, hown, hbel⟩ := hrel
    have hbs := hbel.size
    by_cases hlt : k < m
    · have ht' := ht.below hbel (Nat.le_refl _)
      have hl' := hl.below hbel (Nat.le_refl _)
      obtain ⟨b, o, rfl, _, hc⟩ := ht'.at_ hlt
      obtain ⟨b2, o2, rfl, _, hc2⟩ := hl'.at_ hlt
      have hk1 := hrs k
      have hbk := hb k hlt
      by_cases h2 : intAt ts k = 2
      · have h3 := f3 k hlt h2
        rw [h2] at hc
        clear hrs hb f3 r1
        rcases h3 with h3 | h3
        all_goals
          have hk2 : Hid (R k ++ [UInt8.ofNat (intAt l k).toNat] = R (k + 1)) := by
            show _ = _
            rw [hk1.out, h2, piece_two]
          rw [h3] at hc2 hk2
          clear h3 h2 hk1 hbk
        · go_wp2_with (at_builtin; refine wpList_app rfl rfl elemU8 bv_one (s := .tmp 18) (N := N + 1) (L := R (k + 1)) rfl (hown.below (b := wr.heap.size) (by (repeat' (first | (with_reducible exact Below.refl _ _) | (with_reducible assumption) | (with_reducible refine Below.drew ?_) | (with_reducible refine below_drewN ?_ _) | (with_reducible refine Below.alloc ?_ ?_ _) | (with_reducible refine Below.setCell ?_ ?_ _) | omega | (simp; done) | (simp; omega)))) (by first | omega | (simp; done) | (simp; omega))) rfl (k := [(0 : UInt8)]) (Rd.of_block (l := [(0 : UInt8)]) (heap_top _ _ (by simp)) rfl) rfl (hk2.out) (by unfold maxLen; omega) (by omega) (by first | omega | (simp; done) | (simp; omega)) ?_; intro A5 c5 w5 hown5 hg5 hat5 hb5)
          replace hb5 := below_then' (a := w) (B := w.heap.size) (by (repeat' (first | (with_reducible exact Below.refl _ _) | (with_reducible assumption) | (with_reducible refine Below.drew ?_) | (with_reducible refine below_drewN ?_ _) | (with_reducible refine Below.alloc ?_ ?_ _) | (with_reducible refine Below.setCell ?_ ?_ _) | omega | (simp; done) | (simp; omega)))) hb5 (by first | omega | (simp; done) | (simp; omega)); have hb5s := hb5.size
          go_roundw
          case rel => exact ⟨k + 1, N + 1, A5, c5, by omega, by go_num, by omega, rfl, hown5, hb5⟩
          case measure => simp [intOf]; omega
        · go_wp2_with (at_builtin; refine wpList_app rfl rfl elemU8 bv_one (s := .tmp 18) (N := N + 1) (L := R (k + 1)) rfl (hown.below (b := wr.heap.size) (by (repeat' (first | (with_reducible exact Below.refl _ _) | (with_reducible assumption) | (with_reducible refine Below.drew ?_) | (with_reducible refine below_drewN ?_ _) | (with_reducible refine Below.alloc ?_ ?_ _) | (with_reducible refine Below.setCell ?_ ?_ _) | omega | (simp; done) | (simp; omega)))) (by first | omega | (simp; done) | (simp; omega))) rfl (k := [(1 : UInt8)]) (Rd.of_block (l := [(1 : UInt8)]) (heap_top _ _ (by simp)) rfl) rfl (hk2.out) (by unfold maxLen; omega) (by omega) (by first | omega | (simp; done) | (simp; omega)) ?_; intro A5 c5 w5 hown5 hg5 hat5 hb5)
          replace hb5 := below_then' (a := w) (B := w.heap.size) (by (repeat' (first | (with_reducible exact Below.refl _ _) | (with_reducible assumption) | (with_reducible refine Below.drew ?_) | (with_reducible refine below_drewN ?_ _) | (with_reducible refine Below.alloc ?_ ?_ _) | (with_reducible refine Below.setCell ?_ ?_ _) | omega | (simp; done) | (simp; omega)))) hb5 (by first | omega | (simp; done) | (simp; omega)); have hb5s := hb5.size
          go_roundw
          case rel => exact ⟨k + 1, N + 1, A5, c5, by omega, by go_num, by omega, rfl, hown5, hb5⟩
          case measure => simp [intOf]; omega
      · have b2 : (intAt ts k == 2) = false := by rw [beq_eq_false_iff_ne]; exact h2
        have hkL : Hid (R k ++ digL 9 (zz (intAt l k)) = R (k + 1)) := by
          show _ = _
          rw [hk1.out, piece_not h2]
        have hz := fun w => refzig_any (intAt l k) w hbk.1 hbk.2
        have hd := (digL_len 9 (zz (intAt l k))).1
        clear hrs hb f3 r1 h2 hk1 hbk
        generalize intAt ts k = t at *
        generalize digL 9 (zz (intAt l k)) = D at *
        generalize intAt l k = v at *
        go_wp2_with (first
          | ((go_at_call 139; (with_reducible refine (hz _).mono ?_); rintro e w4 ⟨A4, c4, rfl, hown4, hb4⟩); have hb4s := hb4.size; have hbw4 := below_then hbel hb4 hbs)
          | (at_builtin; refine wpList_app rfl rfl elemU8 bv_one (s := .tmp 26) (N := N + D.length) (L := R (k + 1)) rfl (hown.below (b := wr.heap.size) (by (repeat' (first | (with_reducible exact Below.refl _ _) | (with_reducible assumption) | (with_reducible refine Below.drew ?_) | (with_reducible refine below_drewN ?_ _) | (with_reducible refine Below.alloc ?_ ?_ _) | (with_reducible refine Below.setCell ?_ ?_ _) | omega | (simp; done) | (simp; omega)))) (by first | omega | (simp; done) | (simp; omega))) rfl (k := D) (hown4.rd) (by first | rfl | omega) (by first | exact hkL.out | rfl | (simp; done)) (by unfold maxLen; omega) (by omega) (by first | omega | (simp; done) | (simp; omega)) ?_; intro A5 c5 w5 hown5 hg5 hat5 hb5; replace hown5 := hown5.rebase (base' := w.heap.size) (by first | omega | (simp; done) | (simp; omega)); replace hb5 := below_then' (a := w) (B := w.heap.size) (by (repeat' (first | (with_reducible exact Below.refl _ _) | (with_reducible assumption) | (with_reducible refine Below.drew ?_) | (with_reducible refine below_drewN ?_ _) | (with_reducible refine Below.alloc ?_ ?_ _) | (with_reducible refine Below.setCell ?_ ?_ _) | omega | (simp; done) | (simp; omega)))) hb5 (by first | omega | (simp; done) | (simp; omega)); have hb5s := hb5.size))
        go_roundw
        case rel => exact ⟨k + 1, N + D.length, A5, c5, by omega, by go_num, by omega, rfl, hown5, hb5⟩
        case measure => simp [intOf]; omega
    · have hkn : k = m := by omega
      subst hkn
      clear hrs hb f3 r1
      go_wp2
      go_ret
      exact ⟨A1, N, c1, rfl, hown, hbel⟩
end Go.Proofs.YtalmdccgpigppaaGreat
