/- All counts. -/
import Derived.Test.YtmaiafmpihpleaaMeterB
import Derived.Test.YtmaiafmpihpleaaTab
namespace Go.Proofs.Ytmaiafmpihpleaa
open Go.RowKit

theorem mGet_take {l : List Int} {k : Nat} (hl : l.length = 6) (hk : k < 6) : l.take k ++ [mGet l ((k : Int) + 1)] = l.take (k + 1) := by
  rw [List.take_succ_eq_append_getElem (by omega)]
  unfold mGet
  rw [show ((k : Int) + 1 - 1).toNat = k from by omega]
  simp [List.getD_eq_getElem?_getD, show k < l.length from by omega]
theorem all_any (g : Nat) (l : List Int) (w : World) (hm : MeterAt w g l) :
    Calls Try.prog 28 #[.pointer (some ⟨g, 0, none⟩)] w fun e w' => ∃ A c, e = .returned (.slice A 6 c) ∧ Ow iv w' w.heap.size 3 A 6 c l ∧ Below w.heap.size w w' := by
  have hlt := hm.2.lt
  go_enter Try.func28, Try.ntmps28
  go_wp2
  go_loopw [3, 4] (fun v i wr => ∃ (k : Nat) (A : Option Addr) (c : Nat), k ≤ 6 ∧ i = .int .i64 ((k : Int) + 1) ∧ v = .slice A k c ∧ Ow iv wr w.heap.size 3 A k c (l.take k) ∧ Below w.heap.size w wr) (fun _ i _ => 7 - (intOf i).toNat)
  case atStart => exact ⟨0, none, 0, by omega, rfl, rfl, by simpa using Ow.nil iv w w.heap.size 3, Below.refl _ _⟩
  case round =>
    obtain ⟨k, A, c, hk, rfl, rfl, hown, hb⟩ := hrel
    have hbs := hb.size
    have hm1 := hm.below hb hlt
    by_cases hk6 : k < 6
    · have hL := Lib.hid (mGet_take hm.1 hk6)
      go_wp2_with (first
        | (go_at_call 68; (with_reducible refine (has_yes _ _ _ (by omega) (by omega)).mono ?_); rintro e w1 ⟨rfl, rfl⟩)
        | (go_at_call 24; (with_reducible refine (count_yes _ _ _ _ hm1 (by omega) (by omega)).mono ?_); rintro e w1 ⟨rfl, rfl⟩)
        | (at_builtin; refine wpList_app rfl rfl elemInt iv_one (s := .tmp 10) (N := k + 1) (L := l.take (k + 1)) rfl (hown.below (b := wr.heap.size) (by (repeat' (first | (with_reducible exact Below.refl _ _) | (with_reducible assumption) | (with_reducible refine Below.drew ?_) | (with_reducible refine below_drewN ?_ _) | (with_reducible refine Below.alloc ?_ ?_ _) | (with_reducible refine Below.setCell ?_ ?_ _) | omega | (simp; done) | (simp; omega)))) (by first | omega | (simp; done) | (simp; omega))) rfl (k := [mGet l ((k : Int) + 1)]) (Rd.of_block (l := [mGet l ((k : Int) + 1)]) (heap_top _ _ (by simp)) rfl) rfl (hL.out) (by unfold maxLen; omega) (by omega) (by first | omega | (simp; done) | (simp; omega)) ?_; intro A5 c5 w5 hown5 hg5 hat5 hb5))
      replace hb5 := below_then' (a := w) (B := w.heap.size) (by (repeat' (first | (with_reducible exact Below.refl _ _) | (with_reducible assumption) | (with_reducible refine Below.drew ?_) | (with_reducible refine below_drewN ?_ _) | (with_reducible refine Below.alloc ?_ ?_ _) | (with_reducible refine Below.setCell ?_ ?_ _) | omega | (simp; done) | (simp; omega)))) hb5 (by first | omega | (simp; done) | (simp; omega)); have hb5s := hb5.size
      go_roundw
      case rel => exact ⟨k + 1, A5, c5, by omega, by go_num, rfl, hown5, hb5⟩
      case measure => simp [intOf]; omega
    · have hk9 : k = 6 := by omega
      subst hk9
      go_wp2_with (go_at_call 68; (with_reducible refine (has_no _ _ _ (by omega)).mono ?_); rintro e w1 ⟨rfl, rfl⟩)
      go_ret
      rw [List.take_of_length_le (by rw [hm.1]; omega)] at hown
      exact ⟨A, c, rfl, hown, hb⟩
theorem all_nil (w : World) : Calls Try.prog 28 #[.pointer none] w fun e w' => e = .returned (.slice none 0 0) ∧ w = w' := by
  go_enter Try.func28, Try.ntmps28
  go_wp2
  refine wp_loop_rounds 1 ?_
  rw [rounds_succ]
  go_wp2_with (go_at_call 68; (with_reducible refine (has_nil _ _).mono ?_); rintro e w1 ⟨rfl, rfl⟩)
  go_ret
  exact ⟨rfl, rfl⟩
end Go.Proofs.Ytmaiafmpihpleaa
