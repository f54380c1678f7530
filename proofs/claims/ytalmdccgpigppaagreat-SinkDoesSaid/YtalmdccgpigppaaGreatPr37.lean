/- Parts: RowA. -/
import Derived.Test.YtalmdccgpigppaaGreatPr36
import Derived.Test.YtalmdccgpigppaaGreatPr23
namespace Go.Proofs.YtalmdccgpigppaaGreat
open Go.RowKit

theorem right_any (A : Option Addr) (n c : Nat) (l : List Int) (w : World) (hl : RI w A n l) (hn : n ≤ maxLen) :
    Calls Tryz.prog 49 #[.slice A n c] w fun e w' => e = .returned (.bool (rightB l)) ∧ w = w' := by
  unfold maxLen at hn
  have hlen := Lib.hid hl.1
  generalize hz : rightB l = z
  have Hz := Lib.hid hz; clear hz
  go_enter Tryz.func49, Tryz.ntmps49
  go_wp2
  go_loop [7] (fun i => ∃ k : Nat, k ≤ n ∧ i = .int .i64 (k : Nat) ∧ Hid (∀ i, i < k → tyB (intAt l i) = true)) (fun i => n - (intOf i).toNat)
  case atStart => exact ⟨0, by omega, rfl, fun i hi => absurd hi (by omega)⟩
  case round =>
    obtain ⟨k, hk, rfl, hall⟩ := hrel
    by_cases hlt : k < n
    · obtain ⟨b, o, rfl, _, hc⟩ := hl.at_ hlt
      have hne : ¬ (n : Int) ≤ (k : Int) := by omega
      by_cases ht : tyB (intAt l k) = true
      · have H := Lib.hid ht
        have hall' : Hid (∀ i, i < k + 1 → tyB (intAt l i) = true) := fun i hi => by
          rcases Nat.lt_or_ge i k with h | h
          · exact hall.out i h
          · rw [show i = k from by omega]; exact H.out
        rcases tyB_true.1 ht with h1 | h1
        all_goals
          rw [h1] at hc
          clear h1 H ht hall
          go_wp2
          go_round
          case rel => exact ⟨k + 1, by omega, by go_num, hall'⟩
          case measure => simp [intOf]; omega
      · have H := Lib.hid ht
        have h1 : intAt l k ≠ 1 ∧ intAt l k ≠ 2 := by
          constructor <;> intro e <;> exact ht (tyB_true.2 (by omega))
        have b1 : (intAt l k != 1) = true := by rw [bne_iff_ne]; exact h1.1
        have b2 : (intAt l k != 2) = true := by rw [bne_iff_ne]; exact h1.2
        clear h1 ht
        go_wp2
        go_ret
        refine ⟨ret_bool ?_, rfl⟩
        rw [← Hz.out]
        unfold rightB
        rw [allK_false (k := k) (by rw [hlen.out]; exact hlt) (by simpa using H.out)]
        rfl
    · have hkn : Hid (k = n) := show k = n by omega
      have hge : (n : Int) ≤ (k : Int) := by omega
      have hz2 : Hid (z = (decide (1 ≤ n) && decide (n ≤ 8))) := by
        show z = _
        rw [← Hz.out]
        unfold rightB
        rw [allK_true.2 (fun i hi => hall.out i (by rw [hlen.out] at hi; rw [hkn.out]; exact hi)), hlen.out]
        rfl
      rcases (show n = 0 ∨ (1 ≤ n ∧ n ≤ 8) ∨ 8 < n by omega) with h0 | ⟨h0, h1⟩ | h0
      · subst h0
        go_wp2
        go_ret
        exact ⟨ret_bool (by rw [hz2.out]; rfl), rfl⟩
      · go_wp2
        go_ret
        exact ⟨ret_bool (by rw [hz2.out, Bool.eq_iff_iff]; simp only [Bool.and_eq_true, decide_eq_true_eq]; omega), rfl⟩
      · go_wp2
        go_ret
        exact ⟨ret_bool (by rw [hz2.out, Bool.eq_iff_iff]; simp only [Bool.and_eq_true, decide_eq_true_eq]; omega), rfl⟩

theorem refright_any (A : Option Addr) (n c : Nat) (l : List Int) (w : World) (hl : RI w A n l) (hn : n ≤ maxLen) :
    Calls Tryz.prog 54 #[.slice A n c] w fun e w' => e = .returned (.bool (rightB l)) ∧ w = w' := by
  unfold maxLen at hn
  have hlen := Lib.hid hl.1
  generalize hz : rightB l = z
  have Hz := Lib.hid hz; clear hz
  go_enter Tryz.func54, Tryz.ntmps54
  go_wp2
  go_loop [3] (fun i => ∃ k : Nat, k ≤ n ∧ i = .int .i64 (k : Nat) ∧ Hid (∀ i, i < k → tyB (intAt l i) = true)) (fun i => n - (intOf i).toNat)
  case atStart => exact ⟨0, by omega, rfl, fun i hi => absurd hi (by omega)⟩
  case round =>
    obtain ⟨k, hk, rfl, hall⟩ := hrel
    by_cases hlt : k < n
    · obtain ⟨b, o, rfl, _, hc⟩ := hl.at_ hlt
      have hne : ¬ (n : Int) ≤ (k : Int) := by omega
      by_cases ht : tyB (intAt l k) = true
      · have H := Lib.hid ht
        have hall' : Hid (∀ i, i < k + 1 → tyB (intAt l i) = true) := fun i hi => by
          rcases Nat.lt_or_ge i k with h | h
          · exact hall.out i h
          · rw [show i = k from by omega]; exact H.out
        rcases tyB_true.1 ht with h1 | h1
        all_goals
          rw [h1] at hc
          clear h1 H ht hall
          go_wp2
          go_round
          case rel => exact ⟨k + 1, by omega, by go_num, hall'⟩
          case measure => simp [intOf]; omega
      · have H := Lib.hid ht
        have h1 : intAt l k ≠ 1 ∧ intAt l k ≠ 2 := by
          constructor <;> intro e <;> exact ht (tyB_true.2 (by omega))
        have b1 : (intAt l k != 1) = true := by rw [bne_iff_ne]; exact h1.1
        have b2 : (intAt l k != 2) = true := by rw [bne_iff_ne]; exact h1.2
        clear h1 ht
        go_wp2
        go_ret
        refine ⟨ret_bool ?_, rfl⟩
        rw [← Hz.out]
        unfold rightB
        rw [allK_false (k := k) (by rw [hlen.out]; exact hlt) (by simpa using H.out)]
        rfl
    · have hkn : Hid (k = n) := show k = n by omega
      have hge : (n : Int) ≤ (k : Int) := by omega
      have hz2 : Hid (z = (decide (1 ≤ n) && decide (n ≤ 8))) := by
        show z = _
        rw [← Hz.out]
        unfold rightB
        rw [allK_true.2 (fun i hi => hall.out i (by rw [hlen.out] at hi; rw [hkn.out]; exact hi)), hlen.out]
        rfl
      rcases (show n = 0 ∨ (1 ≤ n ∧ n ≤ 8) ∨ 8 < n by omega) with h0 | ⟨h0, h1⟩ | h0
      · subst h0
        go_wp2
        go_ret
        exact ⟨ret_bool (by rw [hz2.out]; rfl), rfl⟩
      · go_wp2
        go_ret
        exact ⟨ret_bool (by rw [hz2.out, Bool.eq_iff_iff]; simp only [Bool.and_eq_true, decide_eq_true_eq]; omega), rfl⟩
      · go_wp2
        go_ret
        exact ⟨ret_bool (by rw [hz2.out, Bool.eq_iff_iff]; simp only [Bool.and_eq_true, decide_eq_true_eq]; omega), rfl⟩

theorem truth_any (v : Int) (w : World) : Calls Tryz.prog 167 #[.int .i64 v] w fun e w' => e = .returned (.bool (v == 0 || v == 1)) ∧ w = w' := by
  by_cases h : v = 0
  · subst h
    go_enter Tryz.func167, Tryz.ntmps167
    go_wp2
    go_ret
    exact ⟨rfl, rfl⟩
  · have h1 : (v == 0) = false := by rw [beq_eq_false_iff_ne]; exact h
    rw [h1]
    clear h
    go_enter Tryz.func167, Tryz.ntmps167
    go_wp2
    go_ret
    exact ⟨rfl, rfl⟩

theorem fits_any (A B : Option Addr) (n m c d : Nat) (ts l : List Int) (w : World) (ht : RI w A n ts) (hl : RI w B m l) (hn : n ≤ maxLen) (hm : m ≤ maxLen) :
    Calls Tryz.prog 104 #[.slice A n c, .slice B m d] w fun e w' => e = .returned (.bool (fitsB ts l)) ∧ w = w' := by
  have hright := right_any A n c ts w ht hn
  unfold maxLen at hn hm
  have hlen := Lib.hid ht.1
  have hlen2 := Lib.hid hl.1
  generalize hz : fitsB ts l = z
  have Hz := Lib.hid hz; clear hz
  cases hr : rightB ts with
  | false =>
    rw [hr] at hright
    have hz3 : z = false := by rw [← Hz.out]; unfold fitsB; rw [hr]; rfl
    rw [hz3]
    clear hz3 hr
    go_enter Tryz.func104, Tryz.ntmps104
    go_wp2_with (go_at_call 49; (with_reducible refine (hright).mono ?_); rintro e w' ⟨rfl, rfl⟩)
    go_ret
    exact ⟨rfl, rfl⟩
  | true =>
    rw [hr] at hright
    have Hr := Lib.hid hr
    clear hr
    by_cases hnm : m = n
    · have Hnm := Lib.hid hnm
      subst hnm
      have hnn : (((m : Nat) : Int) != (m : Int)) = false := by simp
      go_enter Tryz.func104, Tryz.ntmps104
      go_wp2_with (go_at_call 49; (with_reducible refine (hright).mono ?_); rintro e w' ⟨rfl, rfl⟩)
      go_loop [19] (fun i => ∃ k : Nat, k ≤ m ∧ i = .int .i64 (k : Nat) ∧ Hid (∀ i, i < k → okAt (intAt ts i) (intAt l i) = true)) (fun i => m - (intOf i).toNat)
      case atStart => exact ⟨0, by omega, rfl, fun i hi => absurd hi (by omega)⟩
      case round =>
        obtain ⟨k, hk, rfl, hall⟩ := hrel
        by_cases hlt : k < m
        · obtain ⟨b, o, rfl, _, hc⟩ := ht.at_ hlt
          obtain ⟨b2, o2, rfl, _, hc2⟩ := hl.at_ hlt
          have hne : ¬ (m : Int) ≤ (k : Int) := by omega
          by_cases hok : okAt (intAt ts k) (intAt l k) = true
          · have hall' : Hid (∀ i, i < k + 1 → okAt (intAt ts i) (intAt l i) = true) := fun i hi => by
              rcases Nat.lt_or_ge i k with h | h
              · exact hall.out i h
              · rw [show i = k from by omega]; exact hok
            have h3 := okAt_true.1 hok
            clear hok hall
            by_cases h2 : intAt ts k = 2
            · have h4 := h3 h2
              rw [h2] at hc
              have h5 : Hid ((intAt l k == 0 || intAt l k == 1) = true) := by
                show _ = _
                rcases h4 with e | e <;> rw [e] <;> rfl
              clear h3 h4 h2
              generalize intAt l k = v at *
              go_wp2_with (go_at_call 167; (with_reducible refine (truth_any _ _).mono ?_); rintro e w' ⟨rfl, rfl⟩; rw [h5.out])
              go_round
              case rel => exact ⟨k + 1, by omega, by go_num, hall'⟩
              case measure => simp [intOf]; omega
            · have b2 : (intAt ts k == 2) = false := by rw [beq_eq_false_iff_ne]; exact h2
              clear h2 h3
              generalize intAt ts k = v at *
              go_wp2
              go_round
              case rel => exact ⟨k + 1, by omega, by go_num, hall'⟩
              case measure => simp [intOf]; omega
          · have h3 := okAt_false.1 (by simpa using hok)
            rw [h3.1] at hc
            have h5 : Hid ((intAt l k == 0 || intAt l k == 1) = false) := by
              show _ = _
              rw [Bool.or_eq_false_iff, beq_eq_false_iff_ne, beq_eq_false_iff_ne]; exact h3.2
            have hz3 : Hid (z = false) := by
              show z = false
              rw [← Hz.out]; unfold fitsB
              rw [allK_false (k := k) (by rw [hlen.out]; exact hlt) (by simpa using hok)]
              simp
            clear h3 hok
            generalize intAt l k = v at *
            go_wp2_with (go_at_call 167; (with_reducible refine (truth_any _ _).mono ?_); rintro e w' ⟨rfl, rfl⟩; rw [h5.out])
            go_ret
            exact ⟨ret_bool hz3.out.symm, rfl⟩
        · have hge : (m : Int) ≤ (k : Int) := by omega
          have hz3 : Hid (z = true) := by
            show z = true
            rw [← Hz.out]; unfold fitsB
            rw [allK_true.2 (fun i hi => hall.out i (by rw [hlen.out] at hi; omega)), Hr.out, hlen.out, hlen2.out]
            simp
          go_wp2
          go_ret
          exact ⟨ret_bool hz3.out.symm, rfl⟩
    · have hne : (((m : Nat) : Int) != (n : Int)) = true := by rw [bne_iff_ne]; omega
      have hz3 : z = false := by
        rw [← Hz.out]; unfold fitsB
        rw [show decide (l.length = ts.length) = false from decide_eq_false (by rw [hlen.out, hlen2.out]; exact hnm)]
        simp
      rw [hz3]
      clear hnm hz3
      go_enter Tryz.func104, Tryz.ntmps104
      go_wp2_with (go_at_call 49; (with_reducible refine (hright).mono ?_); rintro e w' ⟨rfl, rfl⟩)
      go_ret
      exact ⟨rfl, rfl⟩

theorem reffits_any (A B : Option Addr) (n m c d : Nat) (ts l : List Int) (w : World) (ht : RI w A n ts) (hl : RI w B m l) (hn : n ≤ maxLen) (hm : m ≤ maxLen) :
    Calls Tryz.prog 114 #[.slice A n c, .slice B m d] w fun e w' => e = .returned (.bool (fitsB ts l)) ∧ w = w' := by
  have hright := refright_any A n c ts w ht hn
  unfold maxLen at hn hm
  have hlen := Lib.hid ht.1
  have hlen2 := Lib.hid hl.1
  generalize hz : fitsB ts l = z
  have Hz := Lib.hid hz; clear hz
  cases hr : rightB ts with
  | false =>
    rw [hr] at hright
    have hz3 : z = false := by rw [← Hz.out]; unfold fitsB; rw [hr]; rfl
    rw [hz3]
    clear hz3 hr
    go_enter Tryz.func114, Tryz.ntmps114
    go_wp2_with (go_at_call 54; (with_reducible refine (hright).mono ?_); rintro e w' ⟨rfl, rfl⟩)
    go_ret
    exact ⟨rfl, rfl⟩
  | true =>
    rw [hr] at hright
    have Hr := Lib.hid hr
    clear hr
    by_cases hnm : m = n
    · have Hnm := Lib.hid hnm
      subst hnm
      have hnn : (((m : Nat) : Int) != (m : Int)) = false := by simp
      go_enter Tryz.func114, Tryz.ntmps114
      go_wp2_with (go_at_call 54; (with_reducible refine (hright).mono ?_); rintro e w' ⟨rfl, rfl⟩)
      go_loop [5] (fun i => ∃ k : Nat, k ≤ m ∧ i = .int .i64 (k : Nat) ∧ Hid (∀ i, i < k → okAt (intAt ts i) (intAt l i) = true)) (fun i => m - (intOf i).toNat)
      case atStart => exact ⟨0, by omega, rfl, fun i hi => absurd hi (by omega)⟩
      case round =>
        obtain ⟨k, hk, rfl, hall⟩ := hrel
        by_cases hlt : k < m
        · obtain ⟨b, o, rfl, _, hc⟩ := ht.at_ hlt
          obtain ⟨b2, o2, rfl, _, hc2⟩ := hl.at_ hlt
          have hne : ¬ (m : Int) ≤ (k : Int) := by omega
          by_cases hok : okAt (intAt ts k) (intAt l k) = true
          · have hall' : Hid (∀ i, i < k + 1 → okAt (intAt ts i) (intAt l i) = true) := fun i hi => by
              rcases Nat.lt_or_ge i k with h | h
              · exact hall.out i h
              · rw [show i = k from by omega]; exact hok
            have h3 := okAt_true.1 hok
            clear hok hall
            by_cases h2 : intAt ts k = 2
            · have h4 := h3 h2
              rw [h2] at hc
              clear h3 h2
              rcases h4 with h4 | h4
              all_goals
                rw [h4] at hc2
                clear h4
                go_wp2
                go_round
                case rel => exact ⟨k + 1, by omega, by go_num, hall'⟩
                case measure => simp [intOf]; omega
            · have b2 : (intAt ts k == 2) = false := by rw [beq_eq_false_iff_ne]; exact h2
              clear h2 h3
              generalize intAt ts k = v at *
              go_wp2
              go_round
              case rel => exact ⟨k + 1, by omega, by go_num, hall'⟩
              case measure => simp [intOf]; omega
          · have h3 := okAt_false.1 (by simpa using hok)
            rw [h3.1] at hc
            have b1 : (intAt l k != 0) = true := by rw [bne_iff_ne]; exact h3.2.1
            have b2 : (intAt l k != 1) = true := by rw [bne_iff_ne]; exact h3.2.2
            have hz3 : Hid (z = false) := by
              show z = false
              rw [← Hz.out]; unfold fitsB
              rw [allK_false (k := k) (by rw [hlen.out]; exact hlt) (by simpa using hok)]
              simp
            clear h3 hok
            generalize intAt l k = v at *
            go_wp2
            go_ret
            exact ⟨ret_bool hz3.out.symm, rfl⟩
        · have hge : (m : Int) ≤ (k : Int) := by omega
          have hz3 : Hid (z = true) := by
            show z = true
            rw [← Hz.out]; unfold fitsB
            rw [allK_true.2 (fun i hi => hall.out i (by rw [hlen.out] at hi; omega)), Hr.out, hlen.out, hlen2.out]
            simp
          go_wp2
          go_ret
          exact ⟨ret_bool hz3.out.symm, rfl⟩
    · have hne : (((m : Nat) : Int) != (n : Int)) = true := by rw [bne_iff_ne]; omega
      have hz3 : z = false := by
        rw [← Hz.out]; unfold fitsB
        rw [show decide (l.length = ts.length) = false from decide_eq_false (by rw [hlen.out, hlen2.out]; exact hnm)]
        simp
      rw [hz3]
      clear hnm hz3
      go_enter Tryz.func114, Tryz.ntmps114
      go_wp2_with (go_at_call 54; (with_reducible refine (hright).mono ?_); rintro e w' ⟨rfl, rfl⟩)
      go_ret
      exact ⟨rfl, rfl⟩
end Go.Proofs.YtalmdccgpigppaaGreat
