/- Parts: RefNumF. -/
import Derived.Test.YtalmdccgpigppaaGreatPr39
namespace Go.Proofs.YtalmdccgpigppaaGreat
open Go.RowKit

theorem sevL_part (l : List UInt8) : ∀ k, sevL l / 128 ^ k % 128 = if k < l.length then byteAt l k % 128 else 0 := by
  induction l with
  | nil => intro k; simp [sevL]
  | cons c l ih =>
    intro k
    cases k with
    | zero => simp only [sevL, Nat.pow_zero, Nat.div_one, List.length_cons, Nat.zero_lt_succ, if_true]; simp [byteAt]
    | succ k =>
      have hb : byteAt (c :: l) (k + 1) = byteAt l k := by simp [byteAt]
      rw [hb]
      simp only [List.length_cons, Nat.add_lt_add_iff_right]
      rw [← ih k, Nat.pow_succ, Nat.mul_comm (128 ^ k) 128, ← Nat.div_div_eq_div_mul]
      simp only [sevL]
      rw [show (c.toNat % 128 + 128 * sevL l) / 128 = sevL l from by omega]

theorem refzag_err (A : Option Addr) (n c : Nat) (l : List UInt8) (w : World) (hl : RB w A n l) (hn : n ≤ maxLen) (he : (endsL 10 0 l).2 ≠ 0) :
    Calls Tryz.prog 175 #[.slice A n c] w fun e w' => e = .returned (.tuple #[.int .i64 0, .int .i64 0, .int .i64 ((endsL 10 0 l).2 : Nat)]) ∧ w = w' := by
  have hd := fun w => ends10 A n c l w
  generalize endsL 10 0 l = z at *
  have h1 : (((z.2 : Nat) : Int) != 0) = true := by rw [bne_iff_ne]; omega
  clear he
  go_enter Tryz.func175, Tryz.ntmps175
  go_wp2_with (go_at_call 212; (with_reducible refine (hd _ hl hn).mono ?_); rintro e w' ⟨rfl, rfl⟩)
  go_ret3
  exact ⟨rfl, rfl⟩
theorem refzag_big (A : Option Addr) (n c : Nat) (l : List UInt8) (w : World) (hl : RB w A n l) (hn : n ≤ maxLen) (hz : endsL 10 0 l = (10, 0)) (hb : 1 < byteAt l 9) :
    Calls Tryz.prog 175 #[.slice A n c] w fun e w' => e = .returned (.tuple #[.int .i64 0, .int .i64 0, .int .i64 11]) ∧ w = w' := by
  have hd := fun w => ends10 A n c l w
  rw [hz] at hd
  have hle := (endsL_le 10 l 0 (by rw [hz])).2.2
  rw [hz] at hle
  have hlen := hl.1
  have h10 : 10 ≤ n := by simp at hle; omega
  clear hz hle hlen
  obtain ⟨b, o, rfl, _, hc⟩ := hl.at_ (k := 9) (by omega)
  generalize byteAt l 9 = y at *
  go_enter Tryz.func175, Tryz.ntmps175
  go_wp2_with (go_at_call 212; (with_reducible refine (hd _ hl hn).mono ?_); rintro e w' ⟨rfl, rfl⟩)
  go_ret3
  exact ⟨rfl, rfl⟩

set_option maxRecDepth 100000 in
set_option maxHeartbeats 2000000 in
theorem refzag_ok (A : Option Addr) (n c s : Nat) (l : List UInt8) (w : World) (hl : RB w A n l) (hn : n ≤ maxLen) (hz : endsL 10 0 l = (s, 0)) (hb : s ≠ 10 ∨ byteAt l 9 ≤ 1) (hS : sevL (l.take s) < 18446744073709551616) :
    Calls Tryz.prog 175 #[.slice A n c] w fun e w' => e = .returned (.tuple #[.int .i64 (unzz (sevL (l.take s))), .int .i64 s, .int .i64 0]) ∧ Below w.heap.size w w' := by
  have hd := fun w => ends10 A n c l w
  have hle := endsL_le 10 l 0 (by rw [hz])
  rw [hz] at hd hle
  simp only [Nat.zero_add] at hle
  have hlen := hl.1
  have hsn : s ≤ n := by omega
  have hs10 : s ≤ 10 := hle.2.1
  have hbit : ∀ k, k < 10 → ∀ m, m < 7 → Hid (bit (sevL (l.take s)) (7 * k + m) = (if k < s then byteAt l k % 128 else 0) / 2 ^ m % 2) := by
    intro k hk m hm
    show _ = _
    rw [bit_part _ k m hm, sevL_part]
    have h1 : (l.take s).length = s := by rw [List.length_take]; omega
    rw [h1]
    by_cases h2 : k < s
    · rw [if_pos h2, if_pos h2, byteAt_take _ _ _ h2]
    · rw [if_neg h2, if_neg h2]
  generalize sevL (l.take s) = S at *
  have hbd := unzz_bd hS
  have hV0 := bit_zz0 hbd.1 hbd.2
  have hVk := bit_zz hbd.1 hbd.2
  rw [zz_unzz] at hV0 hVk
  have hnum := fun A c w => number_any A c (un (unzz S)) w (un_lt _)
  rw [sg_un hbd.1 hbd.2] at hnum
  generalize un (unzz S) = V at *
  have HV : ∀ k, k < 63 → Hid (bit V k = if bit S 0 = 1 then 1 - bit S (k + 1) else bit S (k + 1)) := by
    intro k hk
    have := hVk k hk
    have b1 := bit_le V k
    show bit V k = _
    rw [hV0]
    split <;> rename_i h1
    · rw [if_pos h1] at this; omega
    · rw [if_neg h1] at this; omega
  have HV0 := Lib.hid hV0
  clear hV0 hVk
  generalize unzz S = R at *
  have hcase : (10 ≤ n ∧ s = 10 ∧ byteAt l 9 ≤ 1) ∨ s ≠ 10 := by
    by_cases h : s = 10
    · exact .inl ⟨by omega, h, by omega⟩
    · exact .inr h
  have hgo : (∃ b o y, A = some ⟨b, o, none⟩ ∧ w.cell? ⟨b, o + 9, none⟩ = some (.int .u8 ((y : Nat) : Int)) ∧ y ≤ 1 ∧ (((s : Nat) : Int) == 10) = true ∧ 10 ≤ n) ∨ (((s : Nat) : Int) == 10) = false := by
    rcases hcase with ⟨h1, h2, h3⟩ | h
    · obtain ⟨b, o, hA, _, hc⟩ := hl.at_ (k := 9) (by omega)
      exact .inl ⟨b, o, _, hA, hc, h3, by rw [beq_iff_eq]; omega, h1⟩
    · exact .inr (by rw [beq_eq_false_iff_ne]; omega)
  clear hcase hz hle hlen hb
  rcases hgo with ⟨b, o, y, rfl, hc9, hy, hs1, h10⟩ | hs1
  all_goals
    go_enter Tryz.func175, Tryz.ntmps175
    go_wp2_with (go_at_call 212; (with_reducible refine (hd _ hl hn).mono ?_); rintro e w' ⟨rfl, rfl⟩)
    clear hd
    go_loopw [7, 8] (fun v i wr => ∃ k A c, k ≤ 10 ∧ i = .int .i64 (k : Nat) ∧ v = .slice A (7 * k) c ∧ Ow iv wr w.heap.size 3 A (7 * k) c (tab (7 * k) (bit S)) ∧ Below w.heap.size w wr) (fun _ i _ => 10 - (intOf i).toNat)
    case atStart => exact ⟨0, none, 0, by omega, rfl, rfl, Ow.nil _ _ _ _, Below.refl _ _⟩
    case round =>
      obtain ⟨k, A2, c2, hk, rfl, rfl, hown, hb⟩ := hrel
      have hbs := hb.size
      by_cases hk10 : k < 10
      · have hbi := hbit k hk10
        clear hbit hnum HV HV0
        have hsplit : (k < s ∧ k < n) ∨ s ≤ k := by omega
        rcases hsplit with ⟨hks, hkn⟩ | hks
        case inl =>
          obtain ⟨b0, o0, hA, hb0, hc⟩ := hl.at_ hkn
          first
            | subst hA
            | (injection hA with hA; injection hA with e1 e2 _; subst e1 e2)
          have hc := (hb.cell (p := ⟨_, _, none⟩) hb0).trans hc
          have hyl := byteAt_lt l k
          rw [if_pos hks] at hbi
          generalize byteAt l k = y2 at *
          go_wp2
          obtain ⟨wo, rfl⟩ : ∃ wo : World, wo = wr := ⟨_, rfl⟩
          clear hc
          go_loopw [7, 9, 10] (fun v n j wi => ∃ m e A c, m ≤ 7 ∧ j = .int .i64 (m : Nat) ∧ Hid (e = (y2 % 128) / 2 ^ m) ∧ e ≤ 127 ∧ n = .int .i64 (e : Nat) ∧ v = .slice A (7 * k + m) c ∧ Ow iv wi w.heap.size 3 A (7 * k + m) c (tab (7 * k + m) (bit S)) ∧ Below w.heap.size w wi) (fun _ _ j _ => 7 - (intOf j).toNat)
          case atStart => exact ⟨0, y2 % 128, A2, c2, by omega, rfl, by show y2 % 128 = (y2 % 128) / 2 ^ 0; omega, by omega, by go_num, rfl, hown, hb⟩
          case round =>
            obtain ⟨m, e, A, c, hm, rfl, he, he15, rfl, rfl, hown, hb⟩ := hrel
            have hbs := hb.size
            by_cases hm4 : m < 7
            · have hL : Hid (tab (7 * k + m) (bit S) ++ [((e : Nat) : Int) % 2] = tab (7 * k + (m + 1)) (bit S)) := by
                show _ = tab (7 * k + m + 1) _
                rw [← tab_succ, (hbi m hm4).out, ← he.out]; rfl
              have he2 : Hid (e / 2 = (y2 % 128) / 2 ^ (m + 1)) := by
                show e / 2 = _
                rw [he.out, Nat.div_div_eq_div_mul, Nat.pow_succ]
              clear hbi
              go_wp2_with (at_builtin; refine wpList_app rfl rfl elemInt iv_one (s := .tmp 46) (N := 7 * k + (m + 1)) (L := tab (7 * k + (m + 1)) (bit S)) rfl (hown.below (b := wr.heap.size) (by (repeat' (first | (with_reducible exact Below.refl _ _) | (with_reducible assumption) | (with_reducible refine Below.drew ?_) | (with_reducible refine below_drewN ?_ _) | (with_reducible refine Below.alloc ?_ ?_ _) | (with_reducible refine Below.setCell ?_ ?_ _) | omega | (simp; done) | (simp; omega)))) (by first | omega | (simp; done) | (simp; omega))) rfl (k := [((e : Nat) : Int) % 2]) (Rd.of_block (l := [((e : Nat) : Int) % 2]) (heap_top _ _ (by simp)) rfl) rfl (hL.out) (by unfold maxLen; omega) (by omega) (by first | omega | (simp; done) | (simp; omega)) ?_; intro A5 c5 w5 hown5 hg5 hat5 hb5)
              replace hb5 := below_then' (a := w) (B := w.heap.size) (by (repeat' (first | (with_reducible exact Below.refl _ _) | (with_reducible assumption) | (with_reducible refine Below.drew ?_) | (with_reducible refine below_drewN ?_ _) | (with_reducible refine Below.alloc ?_ ?_ _) | (with_reducible refine Below.setCell ?_ ?_ _) | omega | (simp; done) | (simp; omega)))) hb5 (by first | omega | (simp; done) | (simp; omega)); have hb5s := hb5.size
              have r1 : m + 1 ≤ 7 := by omega
              have r2 : Value.int .i64 ((m : Int) + 1) = .int .i64 ((m + 1 : Nat) : Int) := by go_num
              have r3 : Value.int .i64 ((e : Int) / 2) = .int .i64 ((e / 2 : Nat) : Int) := by go_num
              have r4 : e / 2 ≤ 127 := by omega
              have r5 : 7 - (intOf (.int .i64 ((m : Int) + 1))).toNat < 7 - (intOf (.int .i64 (m : Int))).toNat := by simp [intOf]; omega
              first
                | exact ⟨⟨_, _, _, ⟨m + 1, r1, r2, e / 2, he2, r4, r3, A5, c5, rfl, hown5, hb5⟩, rfl, rfl, rfl⟩, r5⟩
                | exact ⟨⟨m + 1, e / 2, A5, c5, r1, r2, he2, r4, r3, rfl, hown5, hb5⟩, r5⟩
            · have hm5 : m = 7 := by omega
              subst hm5
              clear hbi
              go_wp2
              go_roundw
              case rel => exact ⟨k + 1, A, c, by omega, by go_num, rfl, hown, hb⟩
              case measure => simp [intOf]; omega
        case inr =>
          rw [if_neg (by omega)] at hbi
          obtain ⟨z0, hz0⟩ : ∃ z0 : Nat, z0 = 0 := ⟨0, rfl⟩
          replace hbi : ∀ m, m < 7 → Hid (bit S (7 * k + m) = z0 / 2 ^ m % 2) := by rw [hz0]; exact hbi
          have Hz0 := Lib.hid hz0
          have hz1 : z0 ≤ 127 := by omega
          clear hz0
          go_wp2
          obtain ⟨wo, rfl⟩ : ∃ wo : World, wo = wr := ⟨_, rfl⟩
          go_loopw [7, 9, 10] (fun v n j wi => ∃ m e A c, m ≤ 7 ∧ j = .int .i64 (m : Nat) ∧ Hid (e = (z0) / 2 ^ m) ∧ e ≤ 127 ∧ n = .int .i64 (e : Nat) ∧ v = .slice A (7 * k + m) c ∧ Ow iv wi w.heap.size 3 A (7 * k + m) c (tab (7 * k + m) (bit S)) ∧ Below w.heap.size w wi) (fun _ _ j _ => 7 - (intOf j).toNat)
          case atStart => exact ⟨0, z0, A2, c2, by omega, rfl, by show z0 = (z0) / 2 ^ 0; omega, by omega, by rw [Hz0.out]; rfl, rfl, hown, hb⟩
          case round =>
            obtain ⟨m, e, A, c, hm, rfl, he, he15, rfl, rfl, hown, hb⟩ := hrel
            have hbs := hb.size
            by_cases hm4 : m < 7
            · have hL : Hid (tab (7 * k + m) (bit S) ++ [((e : Nat) : Int) % 2] = tab (7 * k + (m + 1)) (bit S)) := by
                show _ = tab (7 * k + m + 1) _
                rw [← tab_succ, (hbi m hm4).out, ← he.out]; rfl
              have he2 : Hid (e / 2 = (z0) / 2 ^ (m + 1)) := by
                show e / 2 = _
                rw [he.out, Nat.div_div_eq_div_mul, Nat.pow_succ]
              clear hbi
              go_wp2_with (at_builtin; refine wpList_app rfl rfl elemInt iv_one (s := .tmp 46) (N := 7 * k + (m + 1)) (L := tab (7 * k + (m + 1)) (bit S)) rfl (hown.below (b := wr.heap.size) (by (repeat' (first | (with_reducible exact Below.refl _ _) | (with_reducible assumption) | (with_reducible refine Below.drew ?_) | (with_reducible refine below_drewN ?_ _) | (with_reducible refine Below.alloc ?_ ?_ _) | (with_reducible refine Below.setCell ?_ ?_ _) | omega | (simp; done) | (simp; omega)))) (by first | omega | (simp; done) | (simp; omega))) rfl (k := [((e : Nat) : Int) % 2]) (Rd.of_block (l := [((e : Nat) : Int) % 2]) (heap_top _ _ (by simp)) rfl) rfl (hL.out) (by unfold maxLen; omega) (by omega) (by first | omega | (simp; done) | (simp; omega)) ?_; intro A5 c5 w5 hown5 hg5 hat5 hb5)
              replace hb5 := below_then' (a := w) (B := w.heap.size) (by (repeat' (first | (with_reducible exact Below.refl _ _) | (with_reducible assumption) | (with_reducible refine Below.drew ?_) | (with_reducible refine below_drewN ?_ _) | (with_reducible refine Below.alloc ?_ ?_ _) | (with_reducible refine Below.setCell ?_ ?_ _) | omega | (simp; done) | (simp; omega)))) hb5 (by first | omega | (simp; done) | (simp; omega)); have hb5s := hb5.size
              have r1 : m + 1 ≤ 7 := by omega
              have r2 : Value.int .i64 ((m : Int) + 1) = .int .i64 ((m + 1 : Nat) : Int) := by go_num
              have r3 : Value.int .i64 ((e : Int) / 2) = .int .i64 ((e / 2 : Nat) : Int) := by go_num
              have r4 : e / 2 ≤ 127 := by omega
              have r5 : 7 - (intOf (.int .i64 ((m : Int) + 1))).toNat < 7 - (intOf (.int .i64 (m : Int))).toNat := by simp [intOf]; omega
              first
                | exact ⟨⟨_, _, _, ⟨m + 1, r1, r2, e / 2, he2, r4, r3, A5, c5, rfl, hown5, hb5⟩, rfl, rfl, rfl⟩, r5⟩
                | exact ⟨⟨m + 1, e / 2, A5, c5, r1, r2, he2, r4, r3, rfl, hown5, hb5⟩, r5⟩
            · have hm5 : m = 7 := by omega
              subst hm5
              clear hbi
              go_wp2
              go_roundw
              case rel => exact ⟨k + 1, A, c, by omega, by go_num, rfl, hown, hb⟩
              case measure => simp [intOf]; omega
      · have hk9 : k = 10 := by omega
        subst hk9
        clear hbit
        obtain ⟨g, rfl, _, hgl⟩ := hown.addr (by omega)
        have hcell : ∀ k, k < 70 → Hid (wr.cell? ⟨g, k, none⟩ = some (.int .i64 (bit S k : Nat))) := fun k hk => hown.tab_cell hk
        have hown' := Lib.hid hown
        clear hown
        obtain ⟨wo, rfl⟩ : ∃ wo : World, wo = wr := ⟨_, rfl⟩
        have hbw := hb
        go_wp2
        go_loopw [11, 12] (fun v i wr => ∃ k A c, k ≤ 63 ∧ i = .int .i64 ((k : Nat) + 1) ∧ v = .slice A k c ∧ Ow iv wr wo.heap.size 3 A k c (tab k (bit V)) ∧ Below wo.heap.size wo wr) (fun _ i _ => 64 - (intOf i).toNat)
        case atStart => exact ⟨0, none, 0, by omega, by go_num, rfl, Ow.nil _ _ _ _, Below.refl _ _⟩
        case round =>
          obtain ⟨k, A3, c3, hk, rfl, rfl, hown, hb⟩ := hrel
          have hbs := hb.size
          have h0 := (hb.cell (p := ⟨g, 0, none⟩) hgl).trans (hcell 0 (by omega)).out
          by_cases hk63 : k < 63
          · have hc := (hb.cell (p := ⟨g, k + 1, none⟩) hgl).trans (hcell (k + 1) (by omega)).out
            have hzk := HV k hk63
            have hl1 := bit_le S (k + 1)
            have hl2 := bit_le S 0
            generalize bit S (k + 1) = y3 at *
            generalize bit S 0 = s0 at *
            clear hcell HV hnum
            by_cases hs : s0 = 1
            · have hs1 : (((s0 : Nat) : Int) == 1) = true := by rw [beq_iff_eq]; omega
              have hL : Hid (tab k (bit V) ++ [1 - ((y3 : Nat) : Int)] = tab (k + 1) (bit V)) := by
                show _ = _
                rw [← tab_succ k, hzk.out, if_pos hs]; congr 2; omega
              clear hs hzk
              go_wp2_with (at_builtin; refine wpList_app rfl rfl elemInt iv_one (s := .tmp 61) (N := k + 1) (L := tab (k + 1) (bit V)) rfl (hown.below (b := wr.heap.size) (by (repeat' (first | (with_reducible exact Below.refl _ _) | (with_reducible assumption) | (with_reducible refine Below.drew ?_) | (with_reducible refine below_drewN ?_ _) | (with_reducible refine Below.alloc ?_ ?_ _) | (with_reducible refine Below.setCell ?_ ?_ _) | omega | (simp; done) | (simp; omega)))) (by first | omega | (simp; done) | (simp; omega))) rfl (k := [1 - ((y3 : Nat) : Int)]) (Rd.of_block (l := [1 - ((y3 : Nat) : Int)]) (heap_top _ _ (by simp)) rfl) rfl (hL.out) (by unfold maxLen; omega) (by omega) (by first | omega | (simp; done) | (simp; omega)) ?_; intro A5 c5 w5 hown5 hg5 hat5 hb5)
              replace hb5 := below_then' (a := wo) (B := wo.heap.size) (by (repeat' (first | (with_reducible exact Below.refl _ _) | (with_reducible assumption) | (with_reducible refine Below.drew ?_) | (with_reducible refine below_drewN ?_ _) | (with_reducible refine Below.alloc ?_ ?_ _) | (with_reducible refine Below.setCell ?_ ?_ _) | omega | (simp; done) | (simp; omega)))) hb5 (by first | omega | (simp; done) | (simp; omega)); have hb5s := hb5.size
              go_roundw
              case rel => exact ⟨k + 1, by omega, by omega, A5, c5, ⟨rfl, rfl, rfl⟩, hown5, hb5⟩
              case measure => simp [intOf]; omega
            · have hs1 : (((s0 : Nat) : Int) == 1) = false := by rw [beq_eq_false_iff_ne]; omega
              have hL : Hid (tab k (bit V) ++ [((y3 : Nat) : Int)] = tab (k + 1) (bit V)) := by
                show _ = _
                rw [← tab_succ k, hzk.out, if_neg hs]
              clear hs hzk
              go_wp2_with (at_builtin; refine wpList_app rfl rfl elemInt iv_one (s := .tmp 69) (N := k + 1) (L := tab (k + 1) (bit V)) rfl (hown.below (b := wr.heap.size) (by (repeat' (first | (with_reducible exact Below.refl _ _) | (with_reducible assumption) | (with_reducible refine Below.drew ?_) | (with_reducible refine below_drewN ?_ _) | (with_reducible refine Below.alloc ?_ ?_ _) | (with_reducible refine Below.setCell ?_ ?_ _) | omega | (simp; done) | (simp; omega)))) (by first | omega | (simp; done) | (simp; omega))) rfl (k := [((y3 : Nat) : Int)]) (Rd.of_block (l := [((y3 : Nat) : Int)]) (heap_top _ _ (by simp)) rfl) rfl (hL.out) (by unfold maxLen; omega) (by omega) (by first | omega | (simp; done) | (simp; omega)) ?_; intro A5 c5 w5 hown5 hg5 hat5 hb5)
              replace hb5 := below_then' (a := wo) (B := wo.heap.size) (by (repeat' (first | (with_reducible exact Below.refl _ _) | (with_reducible assumption) | (with_reducible refine Below.drew ?_) | (with_reducible refine below_drewN ?_ _) | (with_reducible refine Below.alloc ?_ ?_ _) | (with_reducible refine Below.setCell ?_ ?_ _) | omega | (simp; done) | (simp; omega)))) hb5 (by first | omega | (simp; done) | (simp; omega)); have hb5s := hb5.size
              go_roundw
              case rel => exact ⟨k + 1, by omega, by omega, A5, c5, ⟨rfl, rfl, rfl⟩, hown5, hb5⟩
              case measure => simp [intOf]; omega
          · have hk9 : k = 63 := by omega
            subst hk9
            have hL : Hid (tab 63 (bit V) ++ [((bit S 0 : Nat) : Int)] = tab 64 (bit V)) := by
              show _ = _
              rw [← tab_succ 63, ← HV0.out]
            generalize bit S 0 = s0 at *
            clear hcell HV
            go_wp2_with (first
              | (at_builtin; refine wpList_app rfl rfl elemInt iv_one (s := .tmp 76) (N := 64) (L := tab 64 (bit V)) rfl (hown.below (b := wr.heap.size) (by (repeat' (first | (with_reducible exact Below.refl _ _) | (with_reducible assumption) | (with_reducible refine Below.drew ?_) | (with_reducible refine below_drewN ?_ _) | (with_reducible refine Below.alloc ?_ ?_ _) | (with_reducible refine Below.setCell ?_ ?_ _) | omega | (simp; done) | (simp; omega)))) (by first | omega | (simp; done) | (simp; omega))) rfl (k := [((s0 : Nat) : Int)]) (Rd.of_block (l := [((s0 : Nat) : Int)]) (heap_top _ _ (by simp)) rfl) rfl (hL.out) (by unfold maxLen; omega) (by omega) (by first | omega | (simp; done) | (simp; omega)) ?_; intro A5 c5 w5 hown5 hg5 hat5 hb5)
              | (go_at_call 136; (with_reducible refine (hnum _ _ _ hown5.rd.ri).mono ?_); rintro e w' ⟨rfl, rfl⟩))
            go_ret3
            exact ⟨rfl, below_then' hbw (below_then' (a := wo) (B := wo.heap.size) (by (repeat' (first | (with_reducible exact Below.refl _ _) | (with_reducible assumption) | (with_reducible refine Below.drew ?_) | (with_reducible refine below_drewN ?_ _) | (with_reducible refine Below.alloc ?_ ?_ _) | (with_reducible refine Below.setCell ?_ ?_ _) | omega | (simp; done) | (simp; omega)))) hb5 (by first | omega | (simp; done) | (simp; omega))) (by omega)⟩
end Go.Proofs.YtalmdccgpigppaaGreat
