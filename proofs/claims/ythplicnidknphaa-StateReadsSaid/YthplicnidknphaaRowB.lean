/- Contracts of package row and of its reference: how many bytes there may be; a row's bytes. -/
import Derived.Test.YthplicnidknphaaRowA
import Derived.Test.YthplicnidknphaaKeep
import Derived.Test.YthplicnidknphaaNumB
import Derived.Test.YthplicnidknphaaRefNumE
namespace Go.Proofs.Ythplicnidknphaa
open Go.RowKit

theorem size1_any (t v : Int) (g : Nat) (w : World) (h : Blk w g 3 [.int .i64 v]) (h0 : 0 ≤ v) (h1 : v ≤ 1000) :
    Calls Try.prog 65 #[.int .i64 t, .pointer (some ⟨g, 0, none⟩)] w fun e w' => e = .returned (.int .i64 0) ∧ Blk w' g 3 [.int .i64 (v + if t = 1 then 10 else 1)] ∧ w.grownBy w' (some g) ∧ w'.heap.size = w.heap.size := by
  have c0 : w.cell? ⟨g, 0, none⟩ = some (.int .i64 v) := h.cell 0
  have f0 := h.frozen 0
  have H := Lib.hid h
  clear h
  have hset : ∀ x y : Int, Blk ((w.setCell ⟨g, 0, none⟩ (.int .i64 x)).setCell ⟨g, 0, none⟩ (.int .i64 y)) g 3 [.int .i64 y] := fun x y => (H.out.set_ 0 _).set_ 0 _
  by_cases ht : t = 1
  · subst ht
    rw [if_pos rfl]
    go_enter Try.func65, Try.ntmps65
    go_wp2
    go_ret
    refine ⟨rfl, ?_, (grown_setCell _).trans (grown_setCell _), by simp [World.setCell]⟩
    exact (show v + 1 + 9 = v + 10 by omega) ▸ hset (v + 1) (v + 1 + 9)
  · rw [if_neg ht]
    have b : (t == 1) = false := by rw [beq_eq_false_iff_ne]; exact ht
    clear ht
    go_enter Try.func65, Try.ntmps65
    go_wp2
    go_ret
    exact ⟨rfl, H.out.set_ 0 _, grown_setCell _, by simp [World.setCell]⟩

theorem each_size (A : Option Addr) (n c g : Nat) (ts : List Int) (w0 w : World) (ht : RI w0 A n ts) (hn : n ≤ 8) (hb : Below w0.heap.size w0 w) (hg : w0.heap.size ≤ g) (h : Blk w g 3 [.int .i64 0]) :
    Calls Try.prog 64 #[.slice A n c, .func (.func 65) #[] #[.pointer (some ⟨g, 0, none⟩)]] w fun e w' => e = .returned (.int .i64 0) ∧ Blk w' g 3 [.int .i64 (sizeK ts n : Nat)] ∧ Below w0.heap.size w0 w' ∧ w'.heap.size = w.heap.size := by
  have hs := sizeK_le ts
  have hst : ∀ k, Hid (sizeK ts (k + 1) = sizeK ts k + if intAt ts k = 1 then 10 else 1) := fun k => rfl
  generalize sizeK ts = S at *
  have HS0 : Hid (S 0 = 0) := show S 0 = 0 by have := hs 0; omega
  go_enter Try.func64, Try.ntmps64
  go_wp2
  go_loopw [10] (fun i wr => ∃ k : Nat, k ≤ n ∧ i = .int .i64 (k : Nat) ∧ Blk wr g 3 [.int .i64 (S k : Nat)] ∧ Below w0.heap.size w0 wr ∧ wr.heap.size = w.heap.size) (fun i _ => n - (intOf i).toNat)
  case atStart => exact ⟨0, by omega, rfl, by rw [HS0.out]; exact h, hb, rfl⟩
  case round =>
    obtain ⟨k, hk, rfl, hblk, hbel, hsz⟩ := hrel
    have Hsz := Lib.hid hsz
    clear hsz
    by_cases hlt : k < n
    · have ht' := ht.below hbel (Nat.le_refl _)
      obtain ⟨b, o, rfl, _, hc⟩ := ht'.at_ hlt
      have hk1 := hst k
      have hk2 := hs k
      clear hst hs
      generalize intAt ts k = t at *
      go_wp2_with ((go_at_call 65; (with_reducible refine (size1_any t _ g _ hblk (by omega) (by omega)).mono ?_); rintro e w2 ⟨rfl, hblk2, hg2, hs2⟩); have Hs2 := Lib.hid hs2; clear hs2)
      go_roundw
      case rel =>
        refine ⟨k + 1, by omega, by go_num, ?_, below_of_only hbel hg2 hbel.size hg, Hs2.out.trans Hsz.out⟩
        rw [hk1.out]
        have e : ((S k + if t = 1 then 10 else 1 : Nat) : Int) = (S k : Int) + if t = 1 then 10 else 1 := by split <;> omega
        rw [e]; exact hblk2
      case measure => simp [intOf]; omega
    · have hkn : k = n := by omega
      subst hkn
      go_wp2
      go_ret
      exact ⟨rfl, hblk, hbel, Hsz.out⟩

def sizeR (ts : List Int) : Nat := if rightB ts then sizeK ts ts.length else 0
theorem size_row (A : Option Addr) (n c : Nat) (ts : List Int) (w : World) (ht : RI w A n ts) (hn : n ≤ maxLen) :
    Calls Try.prog 21 #[.slice A n c] w fun e w' => e = .returned (.int .i64 (sizeR ts : Nat)) ∧ Below w.heap.size w w' := by
  have hright := right_any A n c ts w ht hn
  have hlen := ht.1
  unfold sizeR
  cases hr : rightB ts with
  | false =>
    rw [hr] at hright
    simp only [Bool.false_eq_true, if_false]
    clear hr hlen
    go_enter Try.func21, Try.ntmps21
    go_wp2_with (go_at_call 17; (with_reducible refine (hright).mono ?_); rintro e w' ⟨rfl, rfl⟩)
    go_ret
    exact ⟨rfl, Below.refl _ _⟩
  | true =>
    have h8 := (rightB_true.1 hr).2.2
    rw [hr] at hright
    simp only [if_true]
    rw [hlen]
    rw [hlen] at h8
    clear hr hlen
    have heach := fun w1 hb hg h => each_size A n c w.heap.size ts w w1 ht h8 hb hg h
    generalize sizeK ts n = S at *
    go_enter Try.func21, Try.ntmps21
    go_wp2_with (first
      | (go_at_call 17; (with_reducible refine (hright).mono ?_); rintro e w' ⟨rfl, rfl⟩)
      | ((go_at_call 64; (with_reducible refine (heach _ (by (repeat' (first | (with_reducible exact Below.refl _ _) | (with_reducible assumption) | (with_reducible refine Below.drew ?_) | (with_reducible refine below_drewN ?_ _) | (with_reducible refine Below.alloc ?_ ?_ _) | (with_reducible refine Below.setCell ?_ ?_ _) | omega | (simp; done) | (simp; omega)))) (Nat.le_refl _) (Blk.top _ rfl rfl)).mono ?_); rintro e w1 ⟨rfl, hblk, hb1, hs1⟩); have c0 : w1.cell? ⟨w.heap.size, 0, none⟩ = some (.int .i64 (S : Nat)) := hblk.cell 0; clear hs1))
    go_ret
    exact ⟨rfl, hb1⟩

theorem refsize_row (A : Option Addr) (n c : Nat) (ts : List Int) (w : World) (ht : RI w A n ts) (hn : n ≤ maxLen) :
    Calls Try.prog 22 #[.slice A n c] w fun e w' => e = .returned (.int .i64 (sizeR ts : Nat)) ∧ w = w' := by
  have hright := refright_any A n c ts w ht hn
  have hlen := ht.1
  unfold sizeR
  cases hr : rightB ts with
  | false =>
    rw [hr] at hright
    simp only [Bool.false_eq_true, if_false]
    clear hr hlen
    go_enter Try.func22, Try.ntmps22
    go_wp2_with (go_at_call 18; (with_reducible refine (hright).mono ?_); rintro e w' ⟨rfl, rfl⟩)
    go_ret
    exact ⟨rfl, rfl⟩
  | true =>
    have h8 := (rightB_true.1 hr).2.2
    rw [hr] at hright
    simp only [if_true]
    rw [hlen]
    rw [hlen] at h8
    clear hr hlen
    have hs := sizeK_le ts
    have hst : ∀ k, Hid (sizeK ts (k + 1) = sizeK ts k + if intAt ts k = 1 then 10 else 1) := fun k => rfl
    generalize sizeK ts = S at *
    have HS0 : Hid (S 0 = 0) := show S 0 = 0 by have := hs 0; omega
    go_enter Try.func22, Try.ntmps22
    go_wp2_with (go_at_call 18; (with_reducible refine (hright).mono ?_); rintro e w' ⟨rfl, rfl⟩)
    go_loop [3, 4] (fun v i => ∃ k : Nat, k ≤ n ∧ i = .int .i64 (k : Nat) ∧ v = .int .i64 (S k : Nat)) (fun _ i => n - (intOf i).toNat)
    case atStart => exact ⟨0, by omega, rfl, by rw [HS0.out]; rfl⟩
    case round =>
      obtain ⟨k, hk, rfl, rfl⟩ := hrel
      by_cases hlt : k < n
      · obtain ⟨b, o, rfl, _, hc⟩ := ht.at_ hlt
        have hk1 := hst k
        have hk2 := hs k
        clear hst hs
        by_cases h1 : intAt ts k = 1
        · rw [h1] at hc
          have hk3 : Hid (S (k + 1) = S k + 10) := by show _ = _; rw [hk1.out, if_pos h1]
          clear h1 hk1
          go_wp2
          go_round
          case rel => exact ⟨k + 1, by omega, by go_num, by rw [hk3.out]; go_num⟩
          case measure => simp [intOf]; omega
        · have hb : (intAt ts k == 1) = false := by rw [beq_eq_false_iff_ne]; exact h1
          have hk3 : Hid (S (k + 1) = S k + 1) := by show _ = _; rw [hk1.out, if_neg h1]
          clear h1 hk1
          go_wp2
          go_round
          case rel => exact ⟨k + 1, by omega, by go_num, by rw [hk3.out]; go_num⟩
          case measure => simp [intOf]; omega
      · have hkn : k = n := by omega
        subst hkn
        clear hst hs
        go_wp2
        go_ret
        exact ⟨rfl, rfl⟩
end Go.Proofs.Ythplicnidknphaa
