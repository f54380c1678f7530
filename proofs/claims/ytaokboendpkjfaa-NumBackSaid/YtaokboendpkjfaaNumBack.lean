/- NumBack: any number comes back from its bytes, and any bytes that are read are the shortest for their number. -/
import Derived.Test.YtaokboendpkjfaaNumLawA
import Derived.Test.YtaokboendpkjfaaFrame
import Derived.Test.YtaokboendpkjfaaPlainNumC
import Derived.Deep.RegionHeld3
namespace Go.Proofs.Ytaokboendpkjfaa.numBack
open Go.ChangeShapes Go.WideShapes Go.ChangeAt Go.RowKit
set_option linter.unusedVariables false

theorem walk_big (n : Int) (A B : Option Addr) (m c k d : Nat) (w : World) (h : 100 < m ∨ 100 < k) (hm : m ≤ maxLen) (hk : k ≤ maxLen) :
    Calls Try.prog 10 #[.int .i64 n, .slice A m c, .slice B k d] w fun e w' => e = .returned (.bool true) ∧ Below w.heap.size w w' := by
  unfold maxLen at hm hk
  by_cases h1 : 100 < m
  · go_enter Try.func10, Try.ntmps10
    go_wp2_with (go_at_call 22; (with_reducible refine (awake1 _).mono ?_); rintro e w1 ⟨rfl, hb⟩)
    go_ret
    exact ⟨rfl, hb⟩
  · go_enter Try.func10, Try.ntmps10
    go_wp2_with (go_at_call 22; (with_reducible refine (awake1 _).mono ?_); rintro e w1 ⟨rfl, hb⟩)
    go_ret
    exact ⟨rfl, hb⟩

/-- Zag of a number's turned bytes and more. -/
theorem zag_zig (n : Int) (h0 : -9223372036854775808 ≤ n) (h1 : n ≤ 9223372036854775807) (A : Option Addr) (m c : Nat) (more : List UInt8) (w : World) (hl : RB w A m (digL 9 (zz n) ++ more)) (hm : m ≤ maxLen) :
    Calls Try.prog 31 #[.slice A m c] w fun e w' => e = .returned (.tuple #[.int .i64 n, .int .i64 ((digL 9 (zz n)).length : Nat), .int .i64 0]) ∧ w = w' := by
  have hz := zz_lt h0 h1
  have h := zag_ok A m c (digL 9 (zz n)).length _ w hl hm (by rw [endsL_dig 9 0 10 _ _ (by have := (digL_len 9 (zz n)).1; omega) (by omega) (by omega), Nat.zero_add]) (digL_ten _ hz _)
  rw [List.take_left, sevL_dig 9 _ (by omega), unzz_zz] at h
  exact h
theorem long_short (n : Nat) (h1 : n < 9223372036854775808) (A : Option Addr) (m c : Nat) (more : List UInt8) (w : World) (hl : RB w A m (digL 9 n ++ more)) (hm : m ≤ maxLen) :
    Calls Try.prog 29 #[.slice A m c] w fun e w' => e = .returned (.tuple #[.int .i64 (n : Nat), .int .i64 ((digL 9 n).length : Nat), .int .i64 0]) ∧ w = w' := by
  have h := long_any A m c _ w hl hm
  unfold longV readV at h
  rw [endsL_dig 9 0 9 _ _ (by have := digL_nine n h1; omega) (by omega) (by omega), Nat.zero_add, if_pos rfl] at h
  dsimp only at h
  rw [List.take_left, sevL_dig 9 _ (by omega), Nat.mod_eq_of_lt (by omega)] at h
  exact h
/-- What Zag says of any bytes. -/
theorem zag_back (A : Option Addr) (m c : Nat) (l : List UInt8) (hm : m ≤ maxLen) (hlen : l.length = m) : ∃ (x : Int) (s e : Nat), s ≤ m ∧ (∀ w : World, RB w A m l →
    Calls Try.prog 31 #[.slice A m c] w fun r w' => r = .returned (.tuple #[.int .i64 x, .int .i64 (s : Nat), .int .i64 (e : Nat)]) ∧ w = w') ∧
    (e ≠ 0 ∨ (e = 0 ∧ ∀ w : World, Calls Try.prog 33 #[.int .i64 x] w fun r w' => ∃ A c, r = .returned (.slice A s c) ∧ OB w' w.heap.size 5 A s c (l.take s) ∧ Below w.heap.size w w')) := by
  by_cases h : (endsL 10 0 l).2 = 0
  · have hz : endsL 10 0 l = ((endsL 10 0 l).1, 0) := Prod.ext rfl h
    have hle := endsL_le 10 l 0 h
    by_cases hb : (endsL 10 0 l).1 = 10 ∧ 1 < byteAt l 9
    · rw [hb.1] at hz
      exact ⟨0, 0, 11, by omega, fun w hl => zag_big A m c l w hl hm hz hb.2, .inl (by omega)⟩
    · have hb2 : (endsL 10 0 l).1 ≠ 10 ∨ byteAt l 9 ≤ 1 := by omega
      have hS := zag_lt hlen hz hb2
      have hbd := unzz_bd hS
      refine ⟨unzz (sevL (l.take (endsL 10 0 l).1)), (endsL 10 0 l).1, 0, by omega, fun w hl => zag_ok A m c _ l w hl hm hz hb2, .inr ⟨rfl, fun w => ?_⟩⟩
      have h2 := zig_any _ w hbd.1 hbd.2
      rw [zz_unzz, (dig_sevL 10 l 0 (endsL 10 0 l).1 9 (by rw [hz]; simp) (by omega)).1, List.length_take, Nat.min_eq_left (by omega)] at h2
      exact h2
  · exact ⟨0, 0, (endsL 10 0 l).2, by omega, fun w hl => zag_err A m c l w hl hm h, .inl h⟩
/-- What Long says of any bytes. -/
theorem long_back (A : Option Addr) (m c : Nat) (l : List UInt8) (hm : m ≤ maxLen) (hlen : l.length = m) : ∃ (x : Nat) (s e : Nat), s ≤ m ∧ (∀ w : World, RB w A m l →
    Calls Try.prog 29 #[.slice A m c] w fun r w' => r = .returned (.tuple #[.int .i64 (x : Nat), .int .i64 (s : Nat), .int .i64 (e : Nat)]) ∧ w = w') ∧
    ((((e : Nat) : Int) ≠ 0 ∧ x = 0 ∧ s = 0) ∨ (e = 0 ∧ ∀ w : World, Calls Try.prog 27 #[.int .i64 (x : Nat)] w fun r w' => ∃ A c, r = .returned (.tuple #[.slice A s c, .int .i64 0]) ∧ OB w' w.heap.size 5 A s c (l.take s) ∧ Below w.heap.size w w')) := by
  refine ⟨longV l, (endsL 9 0 l).1, (endsL 9 0 l).2, ?_, fun w hl => long_any A m c l w hl hm, ?_⟩
  · by_cases h : (endsL 9 0 l).2 = 0
    · have := (endsL_le 9 l 0 h).2.2; omega
    · rw [(endsL_err 9 l 0 h).1]; omega
  · by_cases h : (endsL 9 0 l).2 = 0
    · refine .inr ⟨h, fun w => ?_⟩
      have hle := endsL_le 9 l 0 h
      have h2 := sevL_lt (l.take (endsL 9 0 l).1)
      have h3 : 128 ^ (l.take (endsL 9 0 l).1).length ≤ 128 ^ 9 := Nat.pow_le_pow_right (by omega) (by rw [List.length_take]; omega)
      have hv : longV l = sevL (l.take (endsL 9 0 l).1) := by
        unfold longV readV
        rw [if_pos h]
        exact Nat.mod_eq_of_lt (by omega)
      have h4 := short_any (longV l) w (by rw [hv]; omega)
      rw [hv, (dig_sevL 9 l 0 (endsL 9 0 l).1 9 (by rw [Nat.zero_add]; exact Prod.ext rfl h) (by omega)).1, List.length_take, Nat.min_eq_left (by omega), ← hv] at h4
      exact h4
    · refine .inl ⟨by omega, ?_, (endsL_err 9 l 0 h).1⟩
      unfold longV readV
      rw [if_neg h]

set_option maxRecDepth 100000 in
set_option maxHeartbeats 1000000 in
theorem walk_small (n : Int) (A B : Option Addr) (m c k d : Nat) (l more : List UInt8) (w : World) (h : m ≤ 100) (hk : k ≤ 100) (hl : RB w A m l) (hmore : RB w B k more) (hc : m ≤ c) (h0 : -9223372036854775808 ≤ n) (h1 : n ≤ 9223372036854775807) :
    Calls Try.prog 10 #[.int .i64 n, .slice A m c, .slice B k d] w fun e w' => e = .returned (.bool true) ∧ Below w.heap.size w w' := by
  obtain ⟨x, s, er, hs, hzag, hz⟩ := zag_back A m c l (by unfold maxLen; omega) hl.1
  obtain ⟨x2, s2, e2, hs2, hlong, hl2⟩ := long_back A m c l (by unfold maxLen; omega) hl.1
  have hput := fun w => put_any n w
  have hget : ∀ (A : Option Addr) (c : Nat) (w : World), RB w A 8 (putL (un n)) → Calls Try.prog 23 #[.slice A 8 c] w fun e w' => e = .returned (.tuple #[.int .i64 n, .int .i64 0]) ∧ w = w' := fun A c w hl => by
    have := get_any A c _ w hl
    rwa [getL_putL _ (un_lt n), sg_un h0 h1] at this
  generalize putL (un n) = PL at *
  have hp := fun w => zig_any n w h0 h1
  have hq := fun A m c w => zag_zig n h0 h1 A m c more w
  have hlen := (digL_len 9 (zz n)).1
  generalize digL 9 (zz n) = L at *
  have hcut1 := run_cut_to elemU8 A m c s (by omega)
  have hcut2 := run_cut_to elemU8 A m c s2 (by omega)
  have hsame : ∀ (A B : Option Addr) (c d s : Nat) (w : World), s ≤ m → RB w A s (l.take s) → RB w B s (l.take s) → Calls Try.prog 19 #[.slice A s c, .slice B s d] w fun e w' => e = .returned (.bool true) ∧ ∃ q, w' = w.drewN q :=
    fun A B c d s w hs ha hb => (same_any A B _ _ c d _ _ w ha hb (by unfold maxLen; omega)).mono fun e w' ⟨h1, h2⟩ => ⟨by simpa using h1, h2⟩
  have hneg : (∃ (n2 : Nat) (K : List UInt8), n = n2 ∧ K.length ≤ 9 ∧ (∀ w, Calls Try.prog 27 #[.int .i64 (n2 : Nat)] w fun e w' => ∃ A c, e = .returned (.tuple #[.slice A K.length c, .int .i64 0]) ∧ OB w' w.heap.size 5 A K.length c K ∧ Below w.heap.size w w') ∧
      (∀ A m c w, RB w A m (K ++ more) → m ≤ maxLen → Calls Try.prog 29 #[.slice A m c] w fun e w' => e = .returned (.tuple #[.int .i64 (n2 : Nat), .int .i64 (K.length : Nat), .int .i64 0]) ∧ w = w')) ∨ n < 0 := by
    by_cases h : 0 ≤ n
    · exact .inl ⟨n.toNat, digL 9 n.toNat, by omega, digL_nine _ (by omega), fun w => short_any _ w (by omega), fun A m c w => long_short _ (by omega) A m c more w⟩
    · exact .inr (by omega)
  go_enter Try.func10, Try.ntmps10
  go_wp2_with (first
    | ((go_at_call 22; (with_reducible refine (awake1 _).mono ?_); rintro e w1 ⟨rfl, hb1⟩); have hb1s := hb1.size)
    | ((go_at_call 25; (with_reducible refine (hput _).mono ?_); rintro e w2 ⟨A2, c2, rfl, hown2, hb2⟩); replace hb2 := below_then' (a := w) (B := w.heap.size) (by (repeat' (first | (with_reducible exact Below.refl _ _) | (with_reducible assumption) | (with_reducible refine Below.drew ?_) | (with_reducible refine below_drewN ?_ _) | (with_reducible refine Below.alloc ?_ ?_ _) | (with_reducible refine Below.setCell ?_ ?_ _) | omega | (simp; done) | (simp; omega)))) hb2 (by first | omega | (simp; done) | (simp; omega)); have hb2s := hb2.size)
    | (go_at_call 23; (with_reducible refine (hget _ _ _ hown2.rd.rb).mono ?_); rintro e w3 ⟨rfl, rfl⟩)
    | ((go_at_call 33; (with_reducible refine (hp _).mono ?_); rintro e w4 ⟨A4, c4, rfl, hown4, hb4⟩); replace hb4 := below_then' (a := w) (B := w.heap.size) (by (repeat' (first | (with_reducible exact Below.refl _ _) | (with_reducible assumption) | (with_reducible refine Below.drew ?_) | (with_reducible refine below_drewN ?_ _) | (with_reducible refine Below.alloc ?_ ?_ _) | (with_reducible refine Below.setCell ?_ ?_ _) | omega | (simp; done) | (simp; omega)))) hb4 (by first | omega | (simp; done) | (simp; omega)); have hb4s := hb4.size)
    | (at_builtin; refine wpList_app rfl rfl elemU8 bv_one (s := .tmp 52) (N := L.length) (L := L) rfl (Ow.new _ _ #[] [] rfl (by decide)) rfl (k := L) ((hown4.rd.rb.below (B := w4.heap.size) (by (repeat' (first | (with_reducible exact Below.refl _ _) | (with_reducible assumption) | (with_reducible refine Below.drew ?_) | (with_reducible refine below_drewN ?_ _) | (with_reducible refine Below.alloc ?_ ?_ _) | (with_reducible refine Below.setCell ?_ ?_ _) | omega | (simp; done) | (simp; omega)))) (Nat.le_refl _)).rd) (by simp) (by simp) (by unfold maxLen; omega) (by omega) (by first | omega | (simp; done) | (simp; omega)) ?_; intro A5 c5 w5 hown5 hg5 hat5 hb5; replace hown5 := hown5.rebase (base' := w.heap.size) (by first | omega | (simp; done) | (simp; omega)); replace hb5 := below_then' (a := w) (B := w.heap.size) (by (repeat' (first | (with_reducible exact Below.refl _ _) | (with_reducible assumption) | (with_reducible refine Below.drew ?_) | (with_reducible refine below_drewN ?_ _) | (with_reducible refine Below.alloc ?_ ?_ _) | (with_reducible refine Below.setCell ?_ ?_ _) | omega | (simp; done) | (simp; omega)))) hb5 (by first | omega | (simp; done) | (simp; omega)); have hb5s := hb5.size)
    | (at_builtin; refine wpList_app rfl rfl elemU8 bv_one (s := .tmp 54) (N := L.length + k) (L := L ++ more) rfl (hown5.below (b := w5.heap.size) (by (repeat' (first | (with_reducible exact Below.refl _ _) | (with_reducible assumption) | (with_reducible refine Below.drew ?_) | (with_reducible refine below_drewN ?_ _) | (with_reducible refine Below.alloc ?_ ?_ _) | (with_reducible refine Below.setCell ?_ ?_ _) | omega | (simp; done) | (simp; omega)))) (by first | omega | (simp; done) | (simp; omega))) rfl (k := more) ((hmore.below (B := w.heap.size) (by (repeat' (first | (with_reducible exact Below.refl _ _) | (with_reducible assumption) | (with_reducible refine Below.drew ?_) | (with_reducible refine below_drewN ?_ _) | (with_reducible refine Below.alloc ?_ ?_ _) | (with_reducible refine Below.setCell ?_ ?_ _) | omega | (simp; done) | (simp; omega)))) (Nat.le_refl _)).rd) (by first | rfl | omega) (by first | rfl | (simp; done)) (by unfold maxLen; omega) (by omega) (by first | omega | (simp; done) | (simp; omega)) ?_; intro A6 c6 w6 hown6 hg6 hat6 hb6; replace hown6 := hown6.rebase (base' := w.heap.size) (by first | omega | (simp; done) | (simp; omega)); replace hb6 := below_then' (a := w) (B := w.heap.size) (by (repeat' (first | (with_reducible exact Below.refl _ _) | (with_reducible assumption) | (with_reducible refine Below.drew ?_) | (with_reducible refine below_drewN ?_ _) | (with_reducible refine Below.alloc ?_ ?_ _) | (with_reducible refine Below.setCell ?_ ?_ _) | omega | (simp; done) | (simp; omega)))) hb6 (by first | omega | (simp; done) | (simp; omega)); have hb6s := hb6.size)
    | (go_at_call 31; (with_reducible refine (hq _ _ _ _ hown6.rd.rb (by unfold maxLen; omega)).mono ?_); rintro e w7 ⟨rfl, rfl⟩)
    | (go_at_call 31; (with_reducible refine (hzag _ (hl.below (B := w.heap.size) (by (repeat' (first | (with_reducible exact Below.refl _ _) | (with_reducible assumption) | (with_reducible refine Below.drew ?_) | (with_reducible refine below_drewN ?_ _) | (with_reducible refine Below.alloc ?_ ?_ _) | (with_reducible refine Below.setCell ?_ ?_ _) | omega | (simp; done) | (simp; omega)))) (Nat.le_refl _))).mono ?_); rintro e w8 ⟨rfl, rfl⟩))
  rcases hz with he | ⟨rfl, hz⟩
  case' inl =>
    have he1 : (((er : Nat) : Int) == 0) = false := by rw [beq_eq_false_iff_ne]; omega
    go_quiet (fail)
    have hbx : Below w.heap.size w (w6.drewN nq) := (by (repeat' (first | (with_reducible exact Below.refl _ _) | (with_reducible assumption) | (with_reducible refine Below.drew ?_) | (with_reducible refine below_drewN ?_ _) | (with_reducible refine Below.alloc ?_ ?_ _) | (with_reducible refine Below.setCell ?_ ?_ _) | omega | (simp; done) | (simp; omega))))
  case' inr =>
    go_region_held3 (fun _ => True) (trivial) (first
      | ((go_at_call 33; (with_reducible refine (hz _).mono ?_); rintro e w9 ⟨A9, c9, rfl, hown9, hb9⟩); replace hb9 := below_then' (a := w) (B := w.heap.size) (by (repeat' (first | (with_reducible exact Below.refl _ _) | (with_reducible assumption) | (with_reducible refine Below.drew ?_) | (with_reducible refine below_drewN ?_ _) | (with_reducible refine Below.alloc ?_ ?_ _) | (with_reducible refine Below.setCell ?_ ?_ _) | omega | (simp; done) | (simp; omega)))) hb9 (by first | omega | (simp; done) | (simp; omega)); have hb9s := hb9.size)
      | (go_at_call 19; (with_reducible refine (hsame _ _ _ _ _ _ hs hown9.rd.rb (((hl.below (B := w.heap.size) (by (repeat' (first | (with_reducible exact Below.refl _ _) | (with_reducible assumption) | (with_reducible refine Below.drew ?_) | (with_reducible refine below_drewN ?_ _) | (with_reducible refine Below.alloc ?_ ?_ _) | (with_reducible refine Below.setCell ?_ ?_ _) | omega | (simp; done) | (simp; omega)))) (Nat.le_refl _))).less hs)).mono ?_); rintro e w10 ⟨rfl, q, rfl⟩))
  all_goals
    rcases hneg with ⟨n2, K, rfl, hK, hshort, hlongK⟩ | hneg
  all_goals
    rcases hl2 with ⟨he2, hx2, hs0⟩ | ⟨rfl, hshort2⟩
  all_goals
    try (
      have hex : (((e2 : Nat) : Int) != 0) = true := by rw [bne_iff_ne]; exact he2
      have hx2' : (((x2 : Nat) : Int) == 0) = true := by rw [hx2]; rfl
      have hs2' : (((s2 : Nat) : Int) == 0) = true := by rw [hs0]; rfl
      clear hx2 hs0 he2)
    go_wp2_with (first
      | ((go_at_call 27; (with_reducible refine (hshort _).mono ?_); rintro e w11 ⟨A11, c11, rfl, hown11, hb11⟩); replace hb11 := below_then' (a := w) (B := w.heap.size) (by (repeat' (first | (with_reducible exact Below.refl _ _) | (with_reducible assumption) | (with_reducible refine Below.drew ?_) | (with_reducible refine below_drewN ?_ _) | (with_reducible refine Below.alloc ?_ ?_ _) | (with_reducible refine Below.setCell ?_ ?_ _) | omega | (simp; done) | (simp; omega)))) hb11 (by first | omega | (simp; done) | (simp; omega)); have hb11s := hb11.size)
      | (at_builtin; refine wpList_app rfl rfl elemU8 bv_one (s := .tmp 99) (N := K.length) (L := K) rfl (Ow.new _ _ #[] [] rfl (by decide)) rfl (k := K) ((hown11.rd.rb.below (B := w11.heap.size) (by (repeat' (first | (with_reducible exact Below.refl _ _) | (with_reducible assumption) | (with_reducible refine Below.drew ?_) | (with_reducible refine below_drewN ?_ _) | (with_reducible refine Below.alloc ?_ ?_ _) | (with_reducible refine Below.setCell ?_ ?_ _) | omega | (simp; done) | (simp; omega)))) (Nat.le_refl _)).rd) (by simp) (by simp) (by unfold maxLen; omega) (by omega) (by first | omega | (simp; done) | (simp; omega)) ?_; intro A12 c12 w12 hown12 hg12 hat12 hb12; replace hown12 := hown12.rebase (base' := w.heap.size) (by first | omega | (simp; done) | (simp; omega)); replace hb12 := below_then' (a := w) (B := w.heap.size) (by (repeat' (first | (with_reducible exact Below.refl _ _) | (with_reducible assumption) | (with_reducible refine Below.drew ?_) | (with_reducible refine below_drewN ?_ _) | (with_reducible refine Below.alloc ?_ ?_ _) | (with_reducible refine Below.setCell ?_ ?_ _) | omega | (simp; done) | (simp; omega)))) hb12 (by first | omega | (simp; done) | (simp; omega)); have hb12s := hb12.size)
      | (at_builtin; refine wpList_app rfl rfl elemU8 bv_one (s := .tmp 101) (N := K.length + k) (L := K ++ more) rfl (hown12.below (b := w12.heap.size) (by (repeat' (first | (with_reducible exact Below.refl _ _) | (with_reducible assumption) | (with_reducible refine Below.drew ?_) | (with_reducible refine below_drewN ?_ _) | (with_reducible refine Below.alloc ?_ ?_ _) | (with_reducible refine Below.setCell ?_ ?_ _) | omega | (simp; done) | (simp; omega)))) (by first | omega | (simp; done) | (simp; omega))) rfl (k := more) ((hmore.below (B := w.heap.size) (by (repeat' (first | (with_reducible exact Below.refl _ _) | (with_reducible assumption) | (with_reducible refine Below.drew ?_) | (with_reducible refine below_drewN ?_ _) | (with_reducible refine Below.alloc ?_ ?_ _) | (with_reducible refine Below.setCell ?_ ?_ _) | omega | (simp; done) | (simp; omega)))) (Nat.le_refl _)).rd) (by first | rfl | omega) (by first | rfl | (simp; done)) (by unfold maxLen; omega) (by omega) (by first | omega | (simp; done) | (simp; omega)) ?_; intro A13 c13 w13 hown13 hg13 hat13 hb13; replace hown13 := hown13.rebase (base' := w.heap.size) (by first | omega | (simp; done) | (simp; omega)); replace hb13 := below_then' (a := w) (B := w.heap.size) (by (repeat' (first | (with_reducible exact Below.refl _ _) | (with_reducible assumption) | (with_reducible refine Below.drew ?_) | (with_reducible refine below_drewN ?_ _) | (with_reducible refine Below.alloc ?_ ?_ _) | (with_reducible refine Below.setCell ?_ ?_ _) | omega | (simp; done) | (simp; omega)))) hb13 (by first | omega | (simp; done) | (simp; omega)); have hb13s := hb13.size)
      | (go_at_call 29; (with_reducible refine (hlongK _ _ _ _ hown13.rd.rb (by unfold maxLen; omega)).mono ?_); rintro e w14 ⟨rfl, rfl⟩)
      | (go_at_call 29; (with_reducible refine (hlong _ (hl.below (B := w.heap.size) (by (repeat' (first | (with_reducible exact Below.refl _ _) | (with_reducible assumption) | (with_reducible refine Below.drew ?_) | (with_reducible refine below_drewN ?_ _) | (with_reducible refine Below.alloc ?_ ?_ _) | (with_reducible refine Below.setCell ?_ ?_ _) | omega | (simp; done) | (simp; omega)))) (Nat.le_refl _))).mono ?_); rintro e w15 ⟨rfl, rfl⟩)
      | ((go_at_call 27; (with_reducible refine (hshort2 _).mono ?_); rintro e w16 ⟨A16, c16, rfl, hown16, hb16⟩); replace hb16 := below_then' (a := w) (B := w.heap.size) (by (repeat' (first | (with_reducible exact Below.refl _ _) | (with_reducible assumption) | (with_reducible refine Below.drew ?_) | (with_reducible refine below_drewN ?_ _) | (with_reducible refine Below.alloc ?_ ?_ _) | (with_reducible refine Below.setCell ?_ ?_ _) | omega | (simp; done) | (simp; omega)))) hb16 (by first | omega | (simp; done) | (simp; omega)); have hb16s := hb16.size)
      | (go_at_call 19; (with_reducible refine (hsame _ _ _ _ _ _ hs2 hown16.rd.rb (((hl.below (B := w.heap.size) (by (repeat' (first | (with_reducible exact Below.refl _ _) | (with_reducible assumption) | (with_reducible refine Below.drew ?_) | (with_reducible refine below_drewN ?_ _) | (with_reducible refine Below.alloc ?_ ?_ _) | (with_reducible refine Below.setCell ?_ ?_ _) | omega | (simp; done) | (simp; omega)))) (Nat.le_refl _))).less hs2)).mono ?_); rintro e w17 ⟨rfl, q, rfl⟩))
    go_ret
    exact ⟨rfl, (by (repeat' (first | (with_reducible exact Below.refl _ _) | (with_reducible assumption) | (with_reducible refine Below.drew ?_) | (with_reducible refine below_drewN ?_ _) | (with_reducible refine Below.alloc ?_ ?_ _) | (with_reducible refine Below.setCell ?_ ?_ _) | omega | (simp; done) | (simp; omega))))⟩

theorem walk (w : World) (n : Int) (wf : (Lit.int .i64 n).wf = true) (A : Option Addr) (m c : Nat) (l : List UInt8) (r : RB w A m l) (nc : m ≤ c) (cm : c ≤ maxLen) (B : Option Addr) (k d : Nat) (more : List UInt8) (r2 : RB w B k more) (nd : k ≤ d) (dm : d ≤ maxLen) :
    Calls Try.prog 10 #[.int .i64 n, .slice A m c, .slice B k d] w fun e w' => e = .returned (.bool true) ∧ Below w.heap.size w w' := by
  have hb := bounds_i64 wf
  by_cases h : m ≤ 100 ∧ k ≤ 100
  · exact walk_small n A B m c k d l more w h.1 h.2 r r2 nc hb.1 hb.2
  · exact walk_big n A B m c k d w (by omega) (by omega) (by omega)

--FRAME tompionlaw01 NumBack numBack walk i64 bytes bytes
theorem own : ownKnob Try.prog.godebug = none := by kernel_rfl
theorem laidOut : laidOutB Try.prog = true := by kernel_rfl

set_option maxRecDepth 100000 in
theorem lifted (os : Os) (started : os.Started) (H : Type) (enc : TypeId × Value → H) :
    ReturnsInHanded {} Try.checked os 10 .any (Rows.numBackSpec.pre6 enc Try.prog Try.f10 Rows.numBackRow.domain false) (Rows.numBackSpec.post enc Try.prog Try.f10 false true false false) := by
  refine returnsInHanded_of_change (C := Try.checked) own started (by kernel_rfl) Try.func10
    (ChangeSpec.witness6 (enc := enc) (C := Try.checked) false ⟨#[], #[.int .i64 0, .slice none 0 0, .slice none 0 0], []⟩ 8 (by kernel_rfl) (by kernel_rfl) (by kernel_rfl) (by kernel_rfl)) ?_
  intro W base args ds gs before hval0 hW hcnd _
  have hval : ∀ (j : Nat) t v, Try.f10.params[j]? = some t → args[j]? = some v → Value.okWide Try.prog W .any base t v := hval0
  have hW' := hW
  obtain ⟨p, q, hA0, hV, rfl, hfz, hnd⟩ := hW
  have hA : DataW.TrodAll enc Try.prog W 0 (fun _ => true) true Try.f10.params.toList args.toList ds p := hA0
  rw [Try.params10] at hA hval
  obtain ⟨v0, vs0, d0, ds0, p0, q0, hargs, rfl, rfl, h0, rr0⟩ := trodAll_cons hA
  obtain ⟨v1, vs1, d1, ds1, p1, q1, rfl, rfl, rfl, h1, rr1⟩ := trodAll_cons rr0
  obtain ⟨v2, vs2, d2, ds2, p2, q2, rfl, rfl, rfl, h2, rr2⟩ := trodAll_cons rr1
  obtain ⟨rfl, rfl, rfl⟩ := trodAll_nil rr2
  obtain rfl : args = #[v0, v1, v2] := by cases args; simp_all
  obtain ⟨rfl, rfl⟩ := trodVars_none hV
  have k0 := h0
  have lt0 : ∀ x ∈ p0, x.block < W.heap.size := by obtain ⟨m, hm⟩ := k0; exact DataW.trod_lt m _ _ _ hm
  obtain ⟨a0, rfl, wf0⟩ := args_int Try.underlying3 (hval 0 3 v0 rfl rfl) h0
  have k1 := h1
  have lt1 : ∀ x ∈ p1, x.block < W.heap.size := by obtain ⟨m, hm⟩ := k1; exact DataW.trod_lt m _ _ _ hm
  obtain ⟨A1, n1, c1, l1, rfl, r1, nc1, cm1⟩ := args_bytes Try.underlying22 Try.underlying5 (by kernel_rfl) (hval 1 22 v1 rfl rfl) h1
  have k2 := h2
  have lt2 : ∀ x ∈ p2, x.block < W.heap.size := by obtain ⟨m, hm⟩ := k2; exact DataW.trod_lt m _ _ _ hm
  obtain ⟨A2, n2, c2, l2, rfl, r2, nc2, cm2⟩ := args_bytes Try.underlying22 Try.underlying5 (by kernel_rfl) (hval 2 22 v2 rfl rfl) h2
  clear hA0 hval0
  refine (walk W a0 wf0 A1 n1 c1 l1 r1 nc1 cm1 A2 n2 c2 l2 r2 nc2 cm2).mono fun e W' ⟨he, bel⟩ => ?_
  subst he
  exact ⟨_, rfl, _, _, _, [], _, [], hW', trodAll_mk1 (shut_bool Try.underlying4 _), (trodAll_cons_mk (Below.trod laidOut (by kernel_rfl) (of_decide_eq_true (by kernel_rfl)) k0 bel lt0) (trodAll_cons_mk (Below.trod laidOut (by kernel_rfl) (of_decide_eq_true (by kernel_rfl)) k1 bel lt1) (trodAll_cons_mk (Below.trod laidOut (by kernel_rfl) (of_decide_eq_true (by kernel_rfl)) k2 bel lt2) trodAll_mk0))), rfl, bel.frame _, fun h => by cases h⟩

theorem over : Rows.numBackRow.holds Try.pinned (OpenSpec.ofChange Rows.numBackSpec) :=
  OpenClaim.holds_of_wide 10 Try.f10 rfl rfl rfl rfl rfl rfl rfl ⟨rfl, rfl, rfl, rfl, rfl⟩ rfl rfl rfl rfl rfl (by kernel_rfl) Try.func10 (by kernel_rfl)
    (of_decide_eq_true (by kernel_rfl)) (by unfold Func.isWrapper; first | (rw [if_pos (by decide +kernel)]; kernel_rfl) | (rw [if_neg (by decide +kernel)]; exact ⟨rfl, rfl⟩))
    (fun os started H enc _ => lifted os started H enc)

theorem proved : Rows.NumBackSaid := over
--ENDFRAME
end Go.Proofs.Ytaokboendpkjfaa.numBack
