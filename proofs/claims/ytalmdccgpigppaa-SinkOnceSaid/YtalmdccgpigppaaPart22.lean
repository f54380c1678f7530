/- Parts: RowC, RefNumF, Zag, RowD, RowE, FeedM. -/
import Derived.Test.YtalmdccgpigppaaPart21
import Derived.Test.YtalmdccgpigppaaPart18
import Derived.Deep.RegionHeld3
import Derived.Deep.RegionLaw
import Derived.Deep.AppendLies
import Derived.Test.YtalmdccgpigppaaPart19
import Derived.Test.YtalmdccgpigppaaPart20
namespace Go.Proofs.Ytalmdccgpigppaa
open Go.RowKit

theorem write_arg (A B : Option Addr) (n m c d : Nat) (ts : List Int) (w : World) (ht : RI w A n ts) (hn : n ≤ maxLen) (h : rightB ts = false) :
    Calls Try.prog 64 #[.slice A n c, .slice B m d] w fun e w' => e = .returned (.tuple #[.slice none 0 0, .int .i64 2]) ∧ w = w' := by
  have hright := right_any A n c ts w ht hn
  rw [h] at hright
  clear h
  go_enter Try.func64, Try.ntmps64
  go_wp2_with (go_at_call 60; (with_reducible refine (hright).mono ?_); rintro e w' ⟨rfl, rfl⟩)
  go_ret2
  exact ⟨rfl, rfl⟩
theorem write_row (A B : Option Addr) (n m c d : Nat) (ts l : List Int) (w : World) (ht : RI w A n ts) (hl : RI w B m l) (hn : n ≤ maxLen) (hm : m ≤ maxLen) (h : rightB ts = true) (hf : fitsB ts l = false) :
    Calls Try.prog 64 #[.slice A n c, .slice B m d] w fun e w' => e = .returned (.tuple #[.slice none 0 0, .int .i64 41]) ∧ w = w' := by
  have hright := right_any A n c ts w ht hn
  have hfits := fits_any A B n m c d ts l w ht hl hn hm
  rw [h] at hright
  rw [hf] at hfits
  clear h hf
  go_enter Try.func64, Try.ntmps64
  go_wp2_with (first
    | (go_at_call 60; (with_reducible refine (hright).mono ?_); rintro e w' ⟨rfl, rfl⟩)
    | (go_at_call 90; (with_reducible refine (hfits).mono ?_); rintro e w' ⟨rfl, rfl⟩))
  go_ret2
  exact ⟨rfl, rfl⟩

theorem piece_two (v : Int) : piece 2 v = [UInt8.ofNat v.toNat] := by unfold piece; rw [if_pos rfl]
theorem piece_not {t : Int} (h : t ≠ 2) (v : Int) : piece t v = digL 9 (zz v) := by unfold piece; rw [if_neg h]

set_option maxHeartbeats 800000 in
theorem rowwrite_ok (A B : Option Addr) (n m c d : Nat) (ts l : List Int) (w : World) (ht : RI w A n ts) (hl : RI w B m l) (hn : n ≤ maxLen) (hm : m ≤ maxLen) (hf : fitsB ts l = true)
    (hb : ∀ i, i < l.length → -9223372036854775808 ≤ intAt l i ∧ intAt l i ≤ 9223372036854775807) :
    Calls Try.prog 64 #[.slice A n c, .slice B m d] w fun e w' => ∃ A' N c', e = .returned (.tuple #[.slice A' N c', .int .i64 0]) ∧ OB w' w.heap.size 5 A' N c' (rowB ts l ts.length) ∧ Below w.heap.size w w' := by
  have hright := right_any A n c ts w ht hn
  have hfits := fits_any A B n m c d ts l w ht hl hn hm
  obtain ⟨f1, f2, f3⟩ := fitsB_true.1 hf
  obtain ⟨r1, r2, r3⟩ := rightB_true.1 f1
  rw [hf] at hfits
  rw [f1] at hright
  have e1 := ht.1
  have e2 := hl.1
  have hmn : m = n := by omega
  subst hmn
  have hm8 : m ≤ 8 := by omega
  rw [e1] at f3 r1 ⊢
  rw [e2] at hb
  clear hf f1 f2 r2 r3 e1 e2
  have hrs : ∀ k, Hid (rowB ts l (k + 1) = rowB ts l k ++ piece (intAt ts k) (intAt l k)) := fun k => rfl
  have hr0 : Hid (rowB ts l 0 = []) := rfl
  generalize rowB ts l = R at *
  go_enter Try.func64, Try.ntmps64
  go_wp2_with (first
    | (go_at_call 60; (with_reducible refine (hright).mono ?_); rintro e w' ⟨rfl, rfl⟩)
    | (go_at_call 90; (with_reducible refine (hfits).mono ?_); rintro e w' ⟨rfl, rfl⟩))
  go_loopw [6, 20] (fun v i wr => ∃ k N A' c', k ≤ m ∧ i = .int .i64 (k : Nat) ∧ N ≤ 10 * k ∧ v = .slice A' N c' ∧ Ow bv wr w.heap.size 5 A' N c' (R k) ∧ Below w.heap.size w wr) (fun _ i _ => m - (intOf i).toNat)
  case atStart => exact ⟨0, 0, none, 0, by omega, rfl, by omega, rfl, by rw [hr0.out]; exact Ow.nil _ _ _ _, Below.refl _ _⟩
  case round =>
    obtain ⟨k, N, A1, c1, hk, rfl, hN, rfl, hown, hbel⟩ := hrel
    have hbs := hbel.size
    by_cases hlt : k < m
    · have ht' := ht.below hbel (Nat.le_refl _)
      have hl' := hl.below hbel (Nat.le_refl _)
      obtain ⟨b, o, rfl, _, hc⟩ := ht'.at_ hlt
      obtain ⟨b2, o2, rfl, _, hc2⟩ := hl'.at_ hlt
      have hk1 := hrs k
      have hbk := hb k hlt
      by_cases h2 : intAt ts k = 2
      · have h3 := f3 k hlt h2
        rw [h2] at hc
        clear hrs hb f3 r1
        rcases h3 with h3 | h3
        all_goals
          have hk2 : Hid (R k ++ [UInt8.ofNat (intAt l k).toNat] = R (k + 1)) := by
            show _ = _
            rw [hk1.out, h2, piece_two]
          rw [h3] at hc2 hk2
          clear h3 h2 hk1 hbk
        · go_wp2_with (at_builtin; refine wpList_app rfl rfl elemU8 bv_one (s := .tmp 27) (N := N + 1) (L := R (k + 1)) rfl (hown.below (b := wr.heap.size) (by (repeat' (first | (with_reducible exact Below.refl _ _) | (with_reducible assumption) | (with_reducible refine Below.drew ?_) | (with_reducible refine below_drewN ?_ _) | (with_reducible refine Below.alloc ?_ ?_ _) | (with_reducible refine Below.setCell ?_ ?_ _) | omega | (simp; done) | (simp; omega)))) (by first | omega | (simp; done) | (simp; omega))) rfl (k := [(0 : UInt8)]) (Rd.of_block (l := [(0 : UInt8)]) (heap_top _ _ (by simp)) rfl) rfl (hk2.out) (by unfold maxLen; omega) (by omega) (by first | omega | (simp; done) | (simp; omega)) ?_; intro A5 c5 w5 hown5 hg5 hat5 hb5)
          replace hb5 := below_then' (a := w) (B := w.heap.size) (by (repeat' (first | (with_reducible exact Below.refl _ _) | (with_reducible assumption) | (with_reducible refine Below.drew ?_) | (with_reducible refine below_drewN ?_ _) | (with_reducible refine Below.alloc ?_ ?_ _) | (with_reducible refine Below.setCell ?_ ?_ _) | omega | (simp; done) | (simp; omega)))) hb5 (by first | omega | (simp; done) | (simp; omega)); have hb5s := hb5.size
          go_roundw
          case rel => exact ⟨k + 1, N + 1, A5, c5, by omega, by go_num, by omega, rfl, hown5, hb5⟩
          case measure => simp [intOf]; omega
        · go_wp2_with (at_builtin; refine wpList_app rfl rfl elemU8 bv_one (s := .tmp 27) (N := N + 1) (L := R (k + 1)) rfl (hown.below (b := wr.heap.size) (by (repeat' (first | (with_reducible exact Below.refl _ _) | (with_reducible assumption) | (with_reducible refine Below.drew ?_) | (with_reducible refine below_drewN ?_ _) | (with_reducible refine Below.alloc ?_ ?_ _) | (with_reducible refine Below.setCell ?_ ?_ _) | omega | (simp; done) | (simp; omega)))) (by first | omega | (simp; done) | (simp; omega))) rfl (k := [(1 : UInt8)]) (Rd.of_block (l := [(1 : UInt8)]) (heap_top _ _ (by simp)) rfl) rfl (hk2.out) (by unfold maxLen; omega) (by omega) (by first | omega | (simp; done) | (simp; omega)) ?_; intro A5 c5 w5 hown5 hg5 hat5 hb5)
          replace hb5 := below_then' (a := w) (B := w.heap.size) (by (repeat' (first | (with_reducible exact Below.refl _ _) | (with_reducible assumption) | (with_reducible refine Below.drew ?_) | (with_reducible refine below_drewN ?_ _) | (with_reducible refine Below.alloc ?_ ?_ _) | (with_reducible refine Below.setCell ?_ ?_ _) | omega | (simp; done) | (simp; omega)))) hb5 (by first | omega | (simp; done) | (simp; omega)); have hb5s := hb5.size
          go_roundw
          case rel => exact ⟨k + 1, N + 1, A5, c5, by omega, by go_num, by omega, rfl, hown5, hb5⟩
          case measure => simp [intOf]; omega
      · have b2 : (intAt ts k == 2) = false := by rw [beq_eq_false_iff_ne]; exact h2
        have hkL : Hid (R k ++ digL 9 (zz (intAt l k)) = R (k + 1)) := by
          show _ = _
          rw [hk1.out, piece_not h2]
        have hz := fun w => zig_any (intAt l k) w hbk.1 hbk.2
        have hd := (digL_len 9 (zz (intAt l k))).1
        clear hrs hb f3 r1 h2 hk1 hbk
        generalize intAt ts k = t at *
        generalize digL 9 (zz (intAt l k)) = D at *
        generalize intAt l k = v at *
        go_wp2_with (first
          | ((go_at_call 91; (with_reducible refine (hz _).mono ?_); rintro e w4 ⟨A4, c4, rfl, hown4, hb4⟩); have hb4s := hb4.size; have hbw4 := below_then hbel hb4 hbs)
          | (at_builtin; refine wpList_app rfl rfl elemU8 bv_one (s := .tmp 35) (N := N + D.length) (L := R (k + 1)) rfl (hown.below (b := wr.heap.size) (by (repeat' (first | (with_reducible exact Below.refl _ _) | (with_reducible assumption) | (with_reducible refine Below.drew ?_) | (with_reducible refine below_drewN ?_ _) | (with_reducible refine Below.alloc ?_ ?_ _) | (with_reducible refine Below.setCell ?_ ?_ _) | omega | (simp; done) | (simp; omega)))) (by first | omega | (simp; done) | (simp; omega))) rfl (k := D) (hown4.rd) (by first | rfl | omega) (by first | exact hkL.out | rfl | (simp; done)) (by unfold maxLen; omega) (by omega) (by first | omega | (simp; done) | (simp; omega)) ?_; intro A5 c5 w5 hown5 hg5 hat5 hb5; replace hown5 := hown5.rebase (base' := w.heap.size) (by first | omega | (simp; done) | (simp; omega)); replace hb5 := below_then' (a := w) (B := w.heap.size) (by (repeat' (first | (with_reducible exact Below.refl _ _) | (with_reducible assumption) | (with_reducible refine Below.drew ?_) | (with_reducible refine below_drewN ?_ _) | (with_reducible refine Below.alloc ?_ ?_ _) | (with_reducible refine Below.setCell ?_ ?_ _) | omega | (simp; done) | (simp; omega)))) hb5 (by first | omega | (simp; done) | (simp; omega)); have hb5s := hb5.size))
        go_roundw
        case rel => exact ⟨k + 1, N + D.length, A5, c5, by omega, by go_num, by omega, rfl, hown5, hb5⟩
        case measure => simp [intOf]; omega
    · have hkn : k = m := by omega
      subst hkn
      clear hrs hb f3 r1
      go_wp2
      go_ret2
      exact ⟨A1, N, c1, rfl, hown, hbel⟩

end Go.Proofs.Ytalmdccgpigppaa
namespace Go.Proofs.Ytalmdccgpigppaa
open Go.RowKit

theorem sevL_part (l : List UInt8) : ∀ k, sevL l / 128 ^ k % 128 = if k < l.length then byteAt l k % 128 else 0 := by
  induction l with
  | nil => intro k; simp [sevL]
  | cons c l ih =>
    intro k
    cases k with
    | zero => simp only [sevL, Nat.pow_zero, Nat.div_one, List.length_cons, Nat.zero_lt_succ, if_true]; simp [byteAt]
    | succ k =>
      have hb : byteAt (c :: l) (k + 1) = byteAt l k := by simp [byteAt]
      rw [hb]
      simp only [List.length_cons, Nat.add_lt_add_iff_right]
      rw [← ih k, Nat.pow_succ, Nat.mul_comm (128 ^ k) 128, ← Nat.div_div_eq_div_mul]
      simp only [sevL]
      rw [show (c.toNat % 128 + 128 * sevL l) / 128 = sevL l from by omega]

end Go.Proofs.Ytalmdccgpigppaa
namespace Go.Proofs.Ytalmdccgpigppaa
open Go.RowKit

theorem zag_any (A : Option Addr) (n c : Nat) (l : List UInt8) (w : World) (hl : RB w A n l) (hn : n ≤ maxLen) :
    Calls Try.prog 95 #[.slice A n c] w fun e w' => e = .returned (.tuple #[.int .i64 (zagV l), .int .i64 (zagS l : Nat), .int .i64 (zagE l : Nat)]) ∧ w = w' := by
  by_cases h : (endsL 10 0 l).2 = 0
  · have hz : endsL 10 0 l = ((endsL 10 0 l).1, 0) := Prod.ext rfl h
    by_cases hb : (endsL 10 0 l).1 = 10 ∧ 1 < byteAt l 9
    · have e1 : zagE l = 11 := by unfold zagE; rw [if_neg (by omega), if_pos hb]
      have e2 : zagS l = 0 := by unfold zagS; rw [if_neg (by omega)]
      have e3 : zagV l = 0 := by unfold zagV; rw [if_neg (by omega)]
      rw [e1, e2, e3]
      rw [hb.1] at hz
      exact zag_big A n c l w hl hn hz hb.2
    · have e1 : zagE l = 0 := by unfold zagE; rw [if_neg (by omega), if_neg hb]
      have e2 : zagS l = (endsL 10 0 l).1 := by unfold zagS; rw [if_pos e1]
      have e3 : zagV l = unzz (sevL (l.take (endsL 10 0 l).1)) := by unfold zagV; rw [if_pos e1]
      rw [e1, e2, e3]
      exact zag_ok A n c _ l w hl hn hz (by omega)
  · have e1 : zagE l = (endsL 10 0 l).2 := by unfold zagE; rw [if_pos h]
    have e2 : zagS l = 0 := by unfold zagS; rw [if_neg (by omega)]
    have e3 : zagV l = 0 := by unfold zagV; rw [if_neg (by omega)]
    rw [e1, e2, e3]
    exact zag_err A n c l w hl hn h
end Go.Proofs.Ytalmdccgpigppaa
namespace Go.Proofs.Ytalmdccgpigppaa
open Go.RowKit

/-- What the reading of a row holds in its two variables: the bytes that are left, and the values. -/
structure RdSt (w0 w : World) (gb go : Nat) (bs : List UInt8) (out : List Int) (i : Nat) : Prop where
  below : Below w0.heap.size w0 w
  hb : w0.heap.size ≤ gb
  ho : w0.heap.size ≤ go
  bb : ∃ A n c, Blk w gb 26 [.slice A n c] ∧ RB w0 A n (bs.drop i) ∧ n ≤ c ∧ c ≤ maxLen
  bo : ∃ A n c, Blk w go 54 [.slice A n c] ∧ Ow iv w w0.heap.size 3 A n c out

theorem cut_rb {w : World} {A : Option Addr} {n c k : Nat} {l : List UInt8} (h : RB w A n l) (hk : k ≤ n) (hc : n ≤ c) : RB w (if c = k then A else A.map (·.add (k * 1))) (n - k) (l.drop k) := by
  refine ⟨by rw [List.length_drop, h.1], ?_⟩
  have := h.2.cut hk hc
  rw [Nat.mul_one]
  exact this.congr fun i hi => by unfold byteAt; simp [List.getD_eq_getElem?_getD]

set_option maxHeartbeats 1000000 in
theorem read1_int (gb go : Nat) (bs : List UInt8) (out : List Int) (i : Nat) (w0 w : World) (h : RdSt w0 w gb go bs out i) (ho : out.length ≤ 100) :
    Calls Try.prog 94 #[.int .i64 1, .pointer (some ⟨gb, 0, none⟩), .pointer (some ⟨go, 0, none⟩)] w fun e w' => e = .returned (.int .i64 (zagE (bs.drop i) : Nat)) ∧ RdSt w0 w' gb go bs (out ++ [zagV (bs.drop i)]) (i + zagS (bs.drop i)) := by
  obtain ⟨hbel, hb, ho2, ⟨A, n, c, hblk, hrb, hnc, hcm⟩, A2, n2, c2, hblk2, hown⟩ := h
  have hzag := fun w hl => zag_any A n c (bs.drop i) w hl (by omega)
  have hS := zagS_le (bs.drop i)
  have hlen := hrb.1
  rw [hlen] at hS
  have hcut := run_cut_from (P := Try.prog) elemU8 A n c (zagS (bs.drop i)) hS
  have hrb2 := cut_rb hrb hS hnc
  rw [List.drop_drop] at hrb2
  generalize zagS (bs.drop i) = s at *
  generalize zagV (bs.drop i) = v at *
  generalize (if c = s then A else A.map (·.add (s * 1))) = A' at *
  have hrbw := hrb.below hbel (Nat.le_refl _)
  clear hlen
  generalize zagE (bs.drop i) = z at *
  have c1 : w.cell? ⟨gb, 0, none⟩ = some (.slice A n c) := hblk.cell 0
  have f1 := hblk.frozen 0
  have c3 : w.cell? ⟨go, 0, none⟩ = some (.slice A2 n2 c2) := hblk2.cell 0
  have f3 := hblk2.frozen 0
  have hlt := hblk.lt
  have hlt2 := hblk2.lt
  have hbs := hbel.size
  have hn2 : n2 ≤ 100 := by have := hown.1; omega
  have hne1 := hown.ne_ hblk (by decide)
  have hne2 := hown.ne_ hblk2 (by decide)
  have hgo : gb ≠ go := hblk.ne_ hblk2 (by decide)
  go_enter Try.func94, Try.ntmps94
  go_wp2_with (go_at_call 95; (with_reducible refine (hzag _ hrbw).mono ?_); rintro e w' ⟨rfl, rfl⟩)
  go_region_law ((refine step_app rfl rfl elemInt iv_one (s := .tmp 16) (N := n2 + 1) (L := out ++ [v]) rfl (hown.below (b := w.heap.size) (by (repeat' (first | (with_reducible exact Below.refl _ _) | (with_reducible assumption) | (with_reducible refine Below.drew ?_) | (with_reducible refine below_drewN ?_ _) | (with_reducible refine Below.alloc ?_ ?_ _) | (with_reducible refine Below.setCell ?_ ?_ _) | omega | (simp; done) | (simp; omega)))) (Nat.le_refl _)) rfl (k := [v]) (Rd.of_block (l := [v]) (heap_top _ _ (by simp)) rfl) rfl rfl (by unfold maxLen; omega) (by omega) (by simp; omega) ?_; intro A5 c5 w5 hown5 hg5 hat5 hb5; have k1 : Blk w5 gb 26 [.slice A n c] := Blk.grown (by (repeat' (first | (with_reducible assumption) | (with_reducible refine Blk.top _ (by first | rfl | omega | (simp; done) | (simp; omega)) rfl) | (with_reducible refine Blk.alloc ?_ _) | (with_reducible refine Blk.drew ?_) | (with_reducible refine Blk.drewN ?_ _) | (with_reducible refine Blk.far ?_ (by first | omega | (simp; done) | (simp; omega)) _)))) hg5 hne1; have k2 : Blk w5 go 54 [.slice A2 n2 c2] := Blk.grown (by (repeat' (first | (with_reducible assumption) | (with_reducible refine Blk.top _ (by first | rfl | omega | (simp; done) | (simp; omega)) rfl) | (with_reducible refine Blk.alloc ?_ _) | (with_reducible refine Blk.drew ?_) | (with_reducible refine Blk.drewN ?_ _) | (with_reducible refine Blk.far ?_ (by first | omega | (simp; done) | (simp; omega)) _)))) hg5 hne2; have c15 : w5.cell? ⟨gb, 0, none⟩ = some (.slice A n c) := k1.cell 0; have f15 := k1.frozen 0; have c35 : w5.cell? ⟨go, 0, none⟩ = some (.slice A2 n2 c2) := k2.cell 0; have f35 := k2.frozen 0))
  all_goals
    go_wp2
    go_ret
    have hb6 : Below w0.heap.size w0 w5 := ((hbel.alloc (by omega) _).drew).trans hb5
    refine ⟨rfl, (hb6.setCell (by omega) _).setCell (by omega) _, hb, ho2, ⟨A', n - s, c - s, (k1.far hgo _).set_ 0 _, hrb2, by omega, by omega⟩, A5, n2 + 1, c5, (k2.set_ 0 _).far (Ne.symm hgo) _, ?_⟩
    exact (hown5.setFar k2 (by decide) 0 _).setFar (k1.far hgo _) (by decide) 0 _

theorem read1_end (t : Int) (gb go : Nat) (bs : List UInt8) (out : List Int) (i : Nat) (w0 w : World) (h : RdSt w0 w gb go bs out i) (ht : t ≠ 1) (hi : bs.length ≤ i) :
    Calls Try.prog 94 #[.int .i64 t, .pointer (some ⟨gb, 0, none⟩), .pointer (some ⟨go, 0, none⟩)] w fun e w' => e = .returned (.int .i64 10) ∧ w = w' := by
  obtain ⟨hbel, hb, ho2, ⟨A, n, c, hblk, hrb, hnc, hcm⟩, A2, n2, c2, hblk2, hown⟩ := h
  have hn : n = 0 := by have := hrb.1; rw [List.length_drop] at this; omega
  subst hn
  have c1 : w.cell? ⟨gb, 0, none⟩ = some (.slice A 0 c) := hblk.cell 0
  have b : (t == 1) = false := by rw [beq_eq_false_iff_ne]; exact ht
  clear ht
  go_enter Try.func94, Try.ntmps94
  go_wp2
  go_ret
  exact ⟨rfl, rfl⟩
theorem read1_form (t : Int) (gb go : Nat) (bs : List UInt8) (out : List Int) (i : Nat) (w0 w : World) (h : RdSt w0 w gb go bs out i) (ht : t ≠ 1) (hi : i < bs.length) (hf : 1 < byteAt bs i) :
    Calls Try.prog 94 #[.int .i64 t, .pointer (some ⟨gb, 0, none⟩), .pointer (some ⟨go, 0, none⟩)] w fun e w' => e = .returned (.int .i64 11) ∧ w = w' := by
  obtain ⟨hbel, hb, ho2, ⟨A, n, c, hblk, hrb, hnc, hcm⟩, A2, n2, c2, hblk2, hown⟩ := h
  have hn : 0 < n := by have := hrb.1; rw [List.length_drop] at this; omega
  have c1 : w.cell? ⟨gb, 0, none⟩ = some (.slice A n c) := hblk.cell 0
  have b : (t == 1) = false := by rw [beq_eq_false_iff_ne]; exact ht
  have hrb' := hrb.below hbel (Nat.le_refl _)
  obtain ⟨b2, o2, rfl, _, hc2⟩ := hrb'.at_ hn
  have e1 : byteAt (bs.drop i) 0 = byteAt bs i := by unfold byteAt; simp [List.getD_eq_getElem?_getD]
  rw [e1, Nat.add_zero] at hc2
  have e2 : (((byteAt bs i : Nat) : Int) == 0 || ((byteAt bs i : Nat) : Int) == 1) = false := by
    rw [Bool.or_eq_false_iff, beq_eq_false_iff_ne, beq_eq_false_iff_ne]; omega
  have hb256 := byteAt_lt bs i
  clear e1 ht hf hrb'
  have hnb : (((n : Nat) : Int) == 0) = false := by rw [beq_eq_false_iff_ne]; omega
  have ht2 := fun w => truth_any ((byteAt bs i : Nat) : Int) w
  rw [e2] at ht2
  clear e2
  generalize byteAt bs i = y at *
  unfold maxLen at hcm
  go_enter Try.func94, Try.ntmps94
  go_wp2_with (go_at_call 96; (with_reducible refine (ht2 _).mono ?_); rintro e w' ⟨rfl, rfl⟩)
  go_ret
  exact ⟨rfl, rfl⟩

set_option maxHeartbeats 1000000 in
theorem read1_bool (t : Int) (gb go : Nat) (bs : List UInt8) (out : List Int) (i : Nat) (w0 w : World) (h : RdSt w0 w gb go bs out i) (ho : out.length ≤ 100) (ht : t ≠ 1) (hi : i < bs.length) (hf : byteAt bs i ≤ 1) :
    Calls Try.prog 94 #[.int .i64 t, .pointer (some ⟨gb, 0, none⟩), .pointer (some ⟨go, 0, none⟩)] w fun e w' => e = .returned (.int .i64 0) ∧ RdSt w0 w' gb go bs (out ++ [(byteAt bs i : Int)]) (i + 1) := by
  obtain ⟨hbel, hb, ho2, ⟨A, n, c, hblk, hrb, hnc, hcm⟩, A2, n2, c2, hblk2, hown⟩ := h
  have hn : 0 < n := by have := hrb.1; rw [List.length_drop] at this; omega
  have hrb2 := cut_rb hrb (k := 1) hn hnc
  rw [List.drop_drop] at hrb2
  have b : (t == 1) = false := by rw [beq_eq_false_iff_ne]; exact ht
  have hrb' := hrb.below hbel (Nat.le_refl _)
  obtain ⟨b2, o2, hA, hb2, hc2⟩ := hrb'.at_ hn
  have e1 : byteAt (bs.drop i) 0 = byteAt bs i := by unfold byteAt; simp [List.getD_eq_getElem?_getD]
  rw [e1, Nat.add_zero] at hc2
  have e2 : (((byteAt bs i : Nat) : Int) == 0 || ((byteAt bs i : Nat) : Int) == 1) = true := by
    rw [Bool.or_eq_true, beq_iff_eq, beq_iff_eq]; omega
  have hb256 := byteAt_lt bs i
  have hcut : ∀ W, (Instr.slice 26 (.slice A n c) (some (.int .i64 1)) none none).run Try.prog W = .ok (.slice (if c = 1 then A else A.map (·.add (1 * 1))) (n - 1) (c - 1)) W := fun W => run_cut_from (P := Try.prog) elemU8 A n c 1 hn W
  generalize (if c = 1 then A else A.map (·.add (1 * 1))) = A' at *
  subst hA
  clear e1 ht hf hrb'
  have hnb : (((n : Nat) : Int) == 0) = false := by rw [beq_eq_false_iff_ne]; omega
  have ht2 := fun w => truth_any ((byteAt bs i : Nat) : Int) w
  rw [e2] at ht2
  clear e2
  generalize byteAt bs i = y at *
  have c1 : w.cell? ⟨gb, 0, none⟩ = some (.slice (some ⟨b2, o2, none⟩) n c) := hblk.cell 0
  have f1 := hblk.frozen 0
  have c3 : w.cell? ⟨go, 0, none⟩ = some (.slice A2 n2 c2) := hblk2.cell 0
  have f3 := hblk2.frozen 0
  have hlt := hblk.lt
  have hlt2 := hblk2.lt
  have hbs := hbel.size
  have hn2 : n2 ≤ 100 := by have := hown.1; omega
  have hne1 := hown.ne_ hblk (by decide)
  have hne2 := hown.ne_ hblk2 (by decide)
  have hgo : gb ≠ go := hblk.ne_ hblk2 (by decide)
  have hi0 : (0 : Int) < (n : Int) := by omega
  have hi1 : (1 : Int) ≤ (n : Int) := by omega
  have hw : IntKind.i64.wrap ((y : Nat) : Int) = (y : Int) := by rw [IntKind.wrap_i64]; omega
  unfold maxLen at hcm
  go_enter Try.func94, Try.ntmps94
  go_wp2_with (go_at_call 96; (with_reducible refine (ht2 _).mono ?_); rintro e w' ⟨rfl, rfl⟩)
  go_region_law ((refine step_app rfl rfl elemInt iv_one (s := .tmp 35) (N := n2 + 1) (L := out ++ [((y : Nat) : Int)]) rfl (hown.below (b := w.heap.size) (by (repeat' (first | (with_reducible exact Below.refl _ _) | (with_reducible assumption) | (with_reducible refine Below.drew ?_) | (with_reducible refine below_drewN ?_ _) | (with_reducible refine Below.alloc ?_ ?_ _) | (with_reducible refine Below.setCell ?_ ?_ _) | omega | (simp; done) | (simp; omega)))) (Nat.le_refl _)) rfl (k := [((y : Nat) : Int)]) (Rd.of_block (l := [((y : Nat) : Int)]) (heap_top _ _ (by simp)) rfl) rfl rfl (by unfold maxLen; omega) (by omega) (by simp; omega) ?_; intro A5 c5 w5 hown5 hg5 hat5 hb5; have k1 : Blk w5 gb 26 [.slice (some ⟨b2, o2, none⟩) n c] := Blk.grown (by (repeat' (first | (with_reducible assumption) | (with_reducible refine Blk.top _ (by first | rfl | omega | (simp; done) | (simp; omega)) rfl) | (with_reducible refine Blk.alloc ?_ _) | (with_reducible refine Blk.drew ?_) | (with_reducible refine Blk.drewN ?_ _) | (with_reducible refine Blk.far ?_ (by first | omega | (simp; done) | (simp; omega)) _)))) hg5 hne1; have k2 : Blk w5 go 54 [.slice A2 n2 c2] := Blk.grown (by (repeat' (first | (with_reducible assumption) | (with_reducible refine Blk.top _ (by first | rfl | omega | (simp; done) | (simp; omega)) rfl) | (with_reducible refine Blk.alloc ?_ _) | (with_reducible refine Blk.drew ?_) | (with_reducible refine Blk.drewN ?_ _) | (with_reducible refine Blk.far ?_ (by first | omega | (simp; done) | (simp; omega)) _)))) hg5 hne2; have c15 : w5.cell? ⟨gb, 0, none⟩ = some (.slice (some ⟨b2, o2, none⟩) n c) := k1.cell 0; have f15 := k1.frozen 0; have c35 : w5.cell? ⟨go, 0, none⟩ = some (.slice A2 n2 c2) := k2.cell 0; have f35 := k2.frozen 0))
  all_goals
    go_wp2
    go_ret
    have hb6 : Below w0.heap.size w0 w5 := ((hbel.alloc (by omega) _).drew).trans hb5
    refine ⟨rfl, (hb6.setCell (by omega) _).setCell (by omega) _, hb, ho2, ⟨A', n - 1, c - 1, (k1.far hgo _).set_ 0 _, hrb2, by omega, by unfold maxLen; omega⟩, A5, n2 + 1, c5, (k2.set_ 0 _).far (Ne.symm hgo) _, ?_⟩
    exact (hown5.setFar k2 (by decide) 0 _).setFar (k1.far hgo _) (by decide) 0 _
end Go.Proofs.Ytalmdccgpigppaa
namespace Go.Proofs.Ytalmdccgpigppaa
open Go.RowKit

/-- How the reading of a row's values ends. -/
def RdEnd (w0 w : World) (gb go : Nat) (bs : List UInt8) (s : List Int × Nat × Nat) : Prop := Below w0.heap.size w0 w ∧ (s.2.2 = 0 → RdSt w0 w gb go bs s.1 s.2.1)
theorem each_read (A : Option Addr) (n c gb go : Nat) (ts : List Int) (bs : List UInt8) (w0 w : World) (ht : RI w0 A n ts) (hn : n ≤ 8) (h : RdSt w0 w gb go bs [] 0) :
    Calls Try.prog 93 #[.slice A n c, .func (.func 94) #[] #[.pointer (some ⟨gb, 0, none⟩), .pointer (some ⟨go, 0, none⟩)]] w fun e w' => e = .returned (.int .i64 ((rowK ts bs n).2.2 : Nat)) ∧ RdEnd w0 w' gb go bs (rowK ts bs n) := by
  go_enter Try.func93, Try.ntmps93
  go_wp2
  go_loopw [10] (fun i wr => ∃ k : Nat, k ≤ n ∧ i = .int .i64 (k : Nat) ∧ Hid ((rowK ts bs k).2.2 = 0) ∧ RdSt w0 wr gb go bs (rowK ts bs k).1 (rowK ts bs k).2.1) (fun i _ => n - (intOf i).toNat)
  case atStart => exact ⟨0, by omega, rfl, rfl, h⟩
  case round =>
    obtain ⟨k, hk, rfl, he, hst⟩ := hrel
    by_cases hlt : k < n
    · have hbad : ∀ s', Hid (rowK ts bs (k + 1) = s' → s'.2.2 ≠ 0 → rowK ts bs n = s') := fun s' e1 e2 => by
        rw [← e1] at e2 ⊢
        exact rdK_bad (by omega) e2
      have hrd : Hid (rowK ts bs (k + 1) = rdStep bs (intAt ts k) (rowK ts bs k)) := rfl
      have hinv := (rdK_inv ts bs k).2.1
      have ht' := ht.below hst.below (Nat.le_refl _)
      obtain ⟨b, o, rfl, _, hc⟩ := ht'.at_ hlt
      have hs : Hid (rowK ts bs k = ((rowK ts bs k).1, (rowK ts bs k).2.1, 0)) := Prod.ext rfl (Prod.ext rfl he.out)
      generalize (rowK ts bs k).1 = out at *
      generalize (rowK ts bs k).2.1 = i at *
      generalize rowK ts bs k = s at *
      generalize hfin : rowK ts bs n = fin at *
      generalize hnxt : rowK ts bs (k + 1) = nxt at *
      have Hfin := Lib.hid hfin
      have Hnxt := Lib.hid hnxt
      clear hfin hnxt
      have hrd2 : Hid (nxt = rdStep bs (intAt ts k) (out, i, 0)) := by show nxt = _; rw [← hs.out]; exact hrd.out
      by_cases h1 : intAt ts k = 1
      · rw [h1] at hc hrd2
        have hcall := read1_int gb go bs out i w0 wr hst (by omega)
        by_cases hz : zagE (bs.drop i) = 0
        · have hn2 : Hid (nxt = (out ++ [zagV (bs.drop i)], i + zagS (bs.drop i), 0)) := by show nxt = _; rw [hrd2.out, rdStep_int hz]
          rw [hz] at hcall
          clear hz h1 hrd hrd2 hbad hs
          generalize zagV (bs.drop i) = v at *
          generalize zagS (bs.drop i) = sz at *
          go_wp2_with (go_at_call 94; (with_reducible refine (hcall).mono ?_); rintro e w2 ⟨rfl, hst2⟩)
          go_roundw
          case rel => exact ⟨k + 1, by omega, by go_num, by show (rowK ts bs (k + 1)).2.2 = 0; rw [Hnxt.out, hn2.out], by rw [Hnxt.out, hn2.out]; exact hst2⟩
          case measure => simp [intOf]; omega
        · have hn2 : Hid (fin = (out, i, zagE (bs.drop i))) := by
            show fin = _
            rw [(hbad nxt).out rfl (by rw [hrd2.out, rdStep_intE hz]; exact hz), hrd2.out, rdStep_intE hz]
          have hb : (((zagE (bs.drop i) : Nat) : Int) != 0) = true := by rw [bne_iff_ne]; omega
          have Hz := Lib.hid hz
          clear hz h1 hrd hrd2 hbad hs
          generalize zagE (bs.drop i) = z at *
          go_wp2_with (go_at_call 94; (with_reducible refine (hcall).mono ?_); rintro e w2 ⟨rfl, hst2⟩)
          go_ret
          exact ⟨ret_nat (by rw [Hfin.out, hn2.out]), hst2.below, fun hx => absurd (by rw [Hfin.out, hn2.out] at hx; exact hx) Hz.out⟩
      · by_cases h2 : bs.length ≤ i
        · have hcall := read1_end (intAt ts k) gb go bs out i w0 wr hst h1 h2
          have hn2 : Hid (fin = (out, i, 10)) := by
            show fin = _
            rw [(hbad nxt).out rfl (by rw [hrd2.out, rdStep_end h1 h2]; simp), hrd2.out, rdStep_end h1 h2]
          clear h1 hrd hrd2 hbad hs
          go_wp2_with (go_at_call 94; (with_reducible refine (hcall).mono ?_); rintro e w2 ⟨rfl, rfl⟩)
          go_ret
          exact ⟨ret_nat (b := (rowK ts bs n).2.2) (a := 10) (by rw [Hfin.out, hn2.out]), hst.below, fun hx => absurd hx (by rw [Hfin.out, hn2.out]; simp)⟩
        · by_cases h3 : 1 < byteAt bs i
          · have hcall := read1_form (intAt ts k) gb go bs out i w0 wr hst h1 (by omega) h3
            have hn2 : Hid (fin = (out, i, 11)) := by
              show fin = _
              rw [(hbad nxt).out rfl (by rw [hrd2.out, rdStep_form h1 (by omega) h3]; simp), hrd2.out, rdStep_form h1 (by omega) h3]
            clear h1 hrd hrd2 hbad hs
            go_wp2_with (go_at_call 94; (with_reducible refine (hcall).mono ?_); rintro e w2 ⟨rfl, rfl⟩)
            go_ret
            exact ⟨ret_nat (b := (rowK ts bs n).2.2) (a := 11) (by rw [Hfin.out, hn2.out]), hst.below, fun hx => absurd hx (by rw [Hfin.out, hn2.out]; simp)⟩
          · have hcall := read1_bool (intAt ts k) gb go bs out i w0 wr hst (by omega) h1 (by omega) (by omega)
            have hn2 : Hid (nxt = (out ++ [(byteAt bs i : Int)], i + 1, 0)) := by show nxt = _; rw [hrd2.out, rdStep_bool h1 (by omega) (by omega)]
            clear h1 hrd hrd2 hbad hs
            generalize byteAt bs i = y at *
            go_wp2_with (go_at_call 94; (with_reducible refine (hcall).mono ?_); rintro e w2 ⟨rfl, hst2⟩)
            go_roundw
            case rel => exact ⟨k + 1, by omega, by go_num, by show (rowK ts bs (k + 1)).2.2 = 0; rw [Hnxt.out, hn2.out], by rw [Hnxt.out, hn2.out]; exact hst2⟩
            case measure => simp [intOf]; omega
    · have hkn : k = n := by omega
      subst hkn
      go_wp2
      go_ret
      exact ⟨ret_nat (b := (rowK ts bs k).2.2) (a := 0) (by rw [he.out]), hst.below, fun _ => hst⟩

/-- What reading hands back. -/
def ReadEnd (w : World) (r : List Int × Nat) (e : Ending) (w' : World) : Prop := ∃ A n c, e = .returned (.tuple #[.slice A n c, .int .i64 (r.2 : Nat)]) ∧ Ow iv w' w.heap.size 3 A n c r.1 ∧ Below w.heap.size w w'
theorem ReadEnd.bad {w w' : World} {r : List Int × Nat} (z : Int) (h1 : r.1 = []) (h2 : z = (r.2 : Nat)) (hb : Below w.heap.size w w') : ReadEnd w r (.returned (.tuple #[.slice none 0 0, .int .i64 z])) w' :=
  ⟨none, 0, 0, by rw [h2], by rw [h1]; exact Ow.nil _ _ _ _, hb⟩
set_option maxHeartbeats 800000 in
theorem read_row (A B : Option Addr) (n m c d : Nat) (ts : List Int) (bs : List UInt8) (w : World) (ht : RI w A n ts) (hl : RB w B m bs) (hn : n ≤ maxLen) (hm : m ≤ d) (hd : d ≤ maxLen) :
    Calls Try.prog 68 #[.slice A n c, .slice B m d] w (ReadEnd w (readR ts bs)) := by
  have hright := fun w hl => right_any A n c ts w hl hn
  have hlen := ht.1
  generalize hr : readR ts bs = r
  unfold readR at hr
  cases hri : rightB ts with
  | false =>
    rw [hri] at hright
    rw [if_pos hri] at hr
    subst hr
    clear hri hlen
    go_enter Try.func68, Try.ntmps68
    go_wp2_with (go_at_call 60; (with_reducible refine (hright _ (ht.below ((Below.refl _ _).alloc (Nat.le_refl _) _) (Nat.le_refl _))).mono ?_); rintro e w' ⟨rfl, rfl⟩)
    go_ret2
    exact ReadEnd.bad 2 rfl rfl (by (repeat' (first | (with_reducible exact Below.refl _ _) | (with_reducible assumption) | (with_reducible refine Below.drew ?_) | (with_reducible refine below_drewN ?_ _) | (with_reducible refine Below.alloc ?_ ?_ _) | (with_reducible refine Below.setCell ?_ ?_ _) | omega | (simp; done) | (simp; omega))))
  | true =>
    have h8 := (rightB_true.1 hri).2.2
    rw [hri] at hright
    rw [if_neg (by simp [hri])] at hr
    rw [hlen] at hr h8
    have heach := fun w1 h => each_read A n c w.heap.size (w.heap.size + 1) ts bs w w1 ht h8 h
    have hst : ∀ w1, Blk w1 w.heap.size 26 [.slice B m d] → Blk w1 (w.heap.size + 1) 54 [.slice none 0 0] → Below w.heap.size w w1 → RdSt w w1 w.heap.size (w.heap.size + 1) bs [] 0 :=
      fun w1 h1 h2 h3 => ⟨h3, Nat.le_refl _, by omega, ⟨B, m, d, h1, by simpa using hl, hm, hd⟩, none, 0, 0, h2, Ow.nil _ _ _ _⟩
    have hi := (rdK_inv ts bs n).1
    generalize rowK ts bs n = s at *
    obtain ⟨out, i, z⟩ := s
    have Hr := Lib.hid hr
    clear hr hri hlen
    simp only at hi
    by_cases hz : z = 0
    · subst hz
      have heach2 : ∀ w1, RdSt w w1 w.heap.size (w.heap.size + 1) bs [] 0 → Calls Try.prog 93 #[.slice A n c, .func (.func 94) #[] #[.pointer (some ⟨w.heap.size, 0, none⟩), .pointer (some ⟨w.heap.size + 1, 0, none⟩)]] w1 fun e w' =>
          e = .returned (.int .i64 0) ∧ RdSt w w' w.heap.size (w.heap.size + 1) bs out i := fun w1 h => (heach w1 h).mono fun e w' ⟨h1, h2⟩ => ⟨h1, h2.2 rfl⟩
      clear heach
      by_cases hlt : i < bs.length
      · have hr2 : Hid (r = ([], 12)) := by show r = _; rw [← Hr.out]; simp [hlt]
        go_enter Try.func68, Try.ntmps68
        go_wp2_with (first
          | (go_at_call 60; (with_reducible refine (hright _ (ht.below ((Below.refl _ _).alloc (Nat.le_refl _) _) (Nat.le_refl _))).mono ?_); rintro e w' ⟨rfl, rfl⟩)
          | ((go_at_call 93; (with_reducible refine (heach2 _ (hst _ (by (repeat' (first | (with_reducible assumption) | (with_reducible refine Blk.top _ (by first | rfl | omega | (simp; done) | (simp; omega)) rfl) | (with_reducible refine Blk.alloc ?_ _) | (with_reducible refine Blk.drew ?_) | (with_reducible refine Blk.drewN ?_ _) | (with_reducible refine Blk.far ?_ (by first | omega | (simp; done) | (simp; omega)) _)))) (by (repeat' (first | (with_reducible assumption) | (with_reducible refine Blk.top _ (by first | rfl | omega | (simp; done) | (simp; omega)) rfl) | (with_reducible refine Blk.alloc ?_ _) | (with_reducible refine Blk.drew ?_) | (with_reducible refine Blk.drewN ?_ _) | (with_reducible refine Blk.far ?_ (by first | omega | (simp; done) | (simp; omega)) _)))) (by (repeat' (first | (with_reducible exact Below.refl _ _) | (with_reducible assumption) | (with_reducible refine Below.drew ?_) | (with_reducible refine below_drewN ?_ _) | (with_reducible refine Below.alloc ?_ ?_ _) | (with_reducible refine Below.setCell ?_ ?_ _) | omega | (simp; done) | (simp; omega)))))).mono ?_); rintro e w2 ⟨rfl, hst2⟩); obtain ⟨hb2, _, _, ⟨A3, n3, c3, hk3, hrb3, hn3, hc3⟩, A4, n4, c4, hk4, hown4⟩ := hst2; have hl3 := hrb3.1; rw [List.length_drop] at hl3; have h03 : (0 : Int) < (n3 : Int) := (by omega); clear hl3; have k3 : w2.cell? ⟨w.heap.size, 0, none⟩ = some (.slice A3 n3 c3) := hk3.cell 0; have k4 : w2.cell? ⟨w.heap.size + 1, 0, none⟩ = some (.slice A4 n4 c4) := hk4.cell 0; clear hk3 hk4))
        go_ret2
        exact ReadEnd.bad 12 (by rw [hr2.out]) (by rw [hr2.out]; rfl) hb2
      · have hr2 : Hid (r = (out, 0)) := by show r = _; rw [← Hr.out]; simp [hlt]
        go_enter Try.func68, Try.ntmps68
        go_wp2_with (first
          | (go_at_call 60; (with_reducible refine (hright _ (ht.below ((Below.refl _ _).alloc (Nat.le_refl _) _) (Nat.le_refl _))).mono ?_); rintro e w' ⟨rfl, rfl⟩)
          | ((go_at_call 93; (with_reducible refine (heach2 _ (hst _ (by (repeat' (first | (with_reducible assumption) | (with_reducible refine Blk.top _ (by first | rfl | omega | (simp; done) | (simp; omega)) rfl) | (with_reducible refine Blk.alloc ?_ _) | (with_reducible refine Blk.drew ?_) | (with_reducible refine Blk.drewN ?_ _) | (with_reducible refine Blk.far ?_ (by first | omega | (simp; done) | (simp; omega)) _)))) (by (repeat' (first | (with_reducible assumption) | (with_reducible refine Blk.top _ (by first | rfl | omega | (simp; done) | (simp; omega)) rfl) | (with_reducible refine Blk.alloc ?_ _) | (with_reducible refine Blk.drew ?_) | (with_reducible refine Blk.drewN ?_ _) | (with_reducible refine Blk.far ?_ (by first | omega | (simp; done) | (simp; omega)) _)))) (by (repeat' (first | (with_reducible exact Below.refl _ _) | (with_reducible assumption) | (with_reducible refine Below.drew ?_) | (with_reducible refine below_drewN ?_ _) | (with_reducible refine Below.alloc ?_ ?_ _) | (with_reducible refine Below.setCell ?_ ?_ _) | omega | (simp; done) | (simp; omega)))))).mono ?_); rintro e w2 ⟨rfl, hst2⟩); obtain ⟨hb2, _, _, ⟨A3, n3, c3, hk3, hrb3, hn3, hc3⟩, A4, n4, c4, hk4, hown4⟩ := hst2; have hl3 := hrb3.1; rw [List.length_drop] at hl3; have h03 : n3 = 0 := (by omega); subst h03; clear hl3; have k3 : w2.cell? ⟨w.heap.size, 0, none⟩ = some (.slice A3 0 c3) := hk3.cell 0; have k4 : w2.cell? ⟨w.heap.size + 1, 0, none⟩ = some (.slice A4 n4 c4) := hk4.cell 0; clear hk3 hk4))
        go_ret2
        exact ⟨A4, n4, c4, by rw [hr2.out]; rfl, by rw [hr2.out]; exact hown4, hb2⟩
    · have hr2 : Hid (r = ([], z)) := by show r = _; rw [← Hr.out]; simp [hz]
      have hb : (((z : Nat) : Int) != 0) = true := by rw [bne_iff_ne]; omega
      have hb3 : (((z : Nat) : Int) == 0) = false := by rw [beq_eq_false_iff_ne]; omega
      clear hz
      go_enter Try.func68, Try.ntmps68
      go_wp2_with (first
        | (go_at_call 60; (with_reducible refine (hright _ (ht.below ((Below.refl _ _).alloc (Nat.le_refl _) _) (Nat.le_refl _))).mono ?_); rintro e w' ⟨rfl, rfl⟩)
        | ((go_at_call 93; (with_reducible refine (heach _ (hst _ (by (repeat' (first | (with_reducible assumption) | (with_reducible refine Blk.top _ (by first | rfl | omega | (simp; done) | (simp; omega)) rfl) | (with_reducible refine Blk.alloc ?_ _) | (with_reducible refine Blk.drew ?_) | (with_reducible refine Blk.drewN ?_ _) | (with_reducible refine Blk.far ?_ (by first | omega | (simp; done) | (simp; omega)) _)))) (by (repeat' (first | (with_reducible assumption) | (with_reducible refine Blk.top _ (by first | rfl | omega | (simp; done) | (simp; omega)) rfl) | (with_reducible refine Blk.alloc ?_ _) | (with_reducible refine Blk.drew ?_) | (with_reducible refine Blk.drewN ?_ _) | (with_reducible refine Blk.far ?_ (by first | omega | (simp; done) | (simp; omega)) _)))) (by (repeat' (first | (with_reducible exact Below.refl _ _) | (with_reducible assumption) | (with_reducible refine Below.drew ?_) | (with_reducible refine below_drewN ?_ _) | (with_reducible refine Below.alloc ?_ ?_ _) | (with_reducible refine Below.setCell ?_ ?_ _) | omega | (simp; done) | (simp; omega)))))).mono ?_); rintro e w2 ⟨rfl, hst2⟩); have hb2 := hst2.1))
      go_ret2
      exact ReadEnd.bad _ (by rw [hr2.out]) (by rw [hr2.out]) hb2

end Go.Proofs.Ytalmdccgpigppaa
namespace Go.Proofs.Ytalmdccgpigppaa
open Go.RowKit
set_option linter.unusedVariables false
set_option linter.unusedSimpArgs false
def IntsAt (w : World) (base : Nat) (A : Option Addr) (n : Nat) (l : List Int) : Prop := RI w A n l ∧ n ≤ maxLen ∧ (0 < n → Rests w base 3 A)
section
variable {M : List TypeId} {w w' : World} {base n : Nat} {p : DiskP} {D : DiskV} {A : Option Addr} {l : List Int}
theorem IntsAt.step (H : IntsAt w base A n l) (hd : DiskS w base p D) (k : Step M base p w w') (ht : 3 ∉ 4 :: M) : IntsAt w' base A n l :=
  ⟨⟨H.1.1, H.1.2.stepR H.2.2 hd k ht⟩, H.2.1, fun h0 => (H.2.2 h0).step hd k ht⟩
theorem IntsAt.below (H : IntsAt w base A n l) (hb : Below w.heap.size w w') : IntsAt w' base A n l :=
  ⟨H.1.below hb (Nat.le_refl _), H.2.1, fun h0 g hg => by
    rcases H.2.2 h0 g hg with q | ⟨cs, q⟩
    · exact .inl q
    · exact .inr ⟨cs, q.below hb q.lt⟩⟩
theorem IntsAt.old {w0 : World} (H : RI w0 A n l) (hm : n ≤ maxLen) (hb : Below w0.heap.size w0 w) (hs : w0.heap.size ≤ base) : IntsAt w base A n l :=
  ⟨H.below hb (Nat.le_refl _), hm, fun h0 g hg => by
    obtain ⟨b, o, e, q, _⟩ := H.2 h0
    rw [e] at hg
    simp only [Option.map_some, Option.some.injEq] at hg
    exact .inl (by omega)⟩
theorem IntsAt.of_ow {b c : Nat} (H : Ow iv w b 3 A n c l) : IntsAt w base A n l :=
  ⟨H.rd.ri, by have := H.cap; omega, fun _ g hg => .inr (H.blk hg)⟩
theorem IntsAt.ri (H : IntsAt w base A n l) : RI w A n l := H.1
theorem IntsAt.len (H : IntsAt w base A n l) : n ≤ maxLen := H.2.1
theorem IntsAt.nil (w : World) (base : Nat) : IntsAt w base none 0 [] := ⟨⟨rfl, Row.nil _ _ _⟩, by unfold maxLen; omega, fun h => absurd h (by omega)⟩
end
/-- A journal of rows: a block of the type t. -/
def JRowsAt (t : TypeId) (w : World) (base g ga : Nat) (kind : Int) (next : Nat) (ts : List Int) : Prop :=
  ∃ gj A n c, Blk w g t [.pointer (some ⟨gj, 0, none⟩), .slice A n c] ∧ base ≤ gj ∧ JrnAt w gj ga kind next ∧ IntsAt w base A n ts
section
variable {M : List TypeId} {t : TypeId} {w w' : World} {base g ga next : Nat} {kind : Int} {ts : List Int} {p : DiskP} {D : DiskV}
theorem JRowsAt.step (H : JRowsAt t w base g ga kind next ts) (hd : DiskS w base p D) (k : Step M base p w w') (h1 : t ∉ 4 :: M) (h2 : 178 ∉ 4 :: M) (h3 : 3 ∉ 4 :: M) : JRowsAt t w' base g ga kind next ts := by
  obtain ⟨gj, A, n, c, hb, hg, hj, hi⟩ := H
  exact ⟨gj, A, n, c, hd.blk hb k.tch h1, hg, hd.blk hj k.tch h2, hi.step hd k h3⟩
theorem JRowsAt.below (H : JRowsAt t w base g ga kind next ts) (hb : Below w.heap.size w w') : JRowsAt t w' base g ga kind next ts := by
  obtain ⟨gj, A, n, c, hx, hg, hj, hi⟩ := H
  exact ⟨gj, A, n, c, hx.below hb hx.lt, hg, hj.below hb, hi.below hb⟩
end
end Go.Proofs.Ytalmdccgpigppaa
