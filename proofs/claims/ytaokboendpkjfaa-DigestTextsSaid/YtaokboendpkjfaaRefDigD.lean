/- Contracts of the reference of digest: Read. -/
import Derived.Test.YtaokboendpkjfaaRefDigC
import Derived.Test.YtaokboendpkjfaaDigB
namespace Go.Proofs.Ytaokboendpkjfaa
open Go.RowKit

theorem refdread_short (s : ByteArray) (w : World) (h : s.size < 16) : Calls Try.prog 39 #[.string s] w fun e w' => e = .returned (.tuple #[.int .i64 0, .int .i64 10]) ∧ w = w' := by
  have h1 : decide ((s.size : Int) < 16) = true := by simp; omega
  go_enter Try.func39, Try.ntmps39
  go_wp2
  go_ret2
  exact ⟨rfl, rfl⟩
theorem refdread_long (s : ByteArray) (w : World) (h : 16 < s.size) (hs : s.size ≤ maxLen) : Calls Try.prog 39 #[.string s] w fun e w' => e = .returned (.tuple #[.int .i64 0, .int .i64 12]) ∧ w = w' := by
  unfold maxLen at hs
  have h1 : decide ((s.size : Int) < 16) = false := by simp; omega
  have h2 : decide ((16 : Int) < s.size) = true := by simp; omega
  go_enter Try.func39, Try.ntmps39
  go_wp2
  go_ret2
  exact ⟨rfl, rfl⟩

def nibF (l : List UInt8) (i : Nat) : Nat := hexD (byteAt l (15 - i / 4)) / 2 ^ (i % 4) % 2
theorem nibF_at (l : List UInt8) (j k : Nat) (h : k < 4) : nibF l (4 * j + k) = hexD (byteAt l (15 - j)) / 2 ^ k % 2 := by
  unfold nibF
  rw [show (4 * j + k) / 4 = j from by omega, show (4 * j + k) % 4 = k from by omega]
theorem nibF_bit (l : List UInt8) (h : hexOk l = true) (hl : l.length = 16) : tab 64 (nibF l) = tab 64 (bit (hexN l)) := tab_congr fun i hi => by
  have h1 := hexN_at l (15 - i / 4) h (by omega)
  rw [hl, show 16 - 1 - (15 - i / 4) = i / 4 from by omega] at h1
  have e : i = 4 * (i / 4) + i % 4 := by omega
  conv => rhs; rw [e]
  rw [bit_nib]
  unfold nibF
  rw [← h1]
  have hk : i % 4 < 4 := by omega
  generalize hexN l / 16 ^ (i / 4) = V
  generalize i % 4 = k at *
  rcases (by omega : k = 0 ∨ k = 1 ∨ k = 2 ∨ k = 3) with rfl | rfl | rfl | rfl <;> omega

theorem run_str_at (s : ByteArray) (k : Nat) (i : Int) (w : World) (h : k < s.size) (hi : i = k) :
    (Instr.index 9 (.string s) (.int .i64 i)).run Try.prog w = .ok (.int .u8 (byteAt s.data.toList k : Nat)) w := by
  subst hi
  refine (run_index_string (P := Try.prog) (w := w) 9 s .i64 (k : Nat) (by kernel_rfl)).trans ?_
  rw [dif_pos ⟨by omega, by omega⟩, ← byte_get s k h]
  rfl

set_option maxRecDepth 100000 in
set_option maxHeartbeats 1000000 in
theorem refdread_any (s : ByteArray) (w : World) (h : s.size = 16) :
    Calls Try.prog 39 #[.string s] w fun e w' => e = .returned (.tuple #[.int .i64 (if hexOk s.data.toList then sg (hexN s.data.toList) else 0), .int .i64 (if hexOk s.data.toList then 0 else 11)]) ∧ Below w.heap.size w w' := by
  have hl : s.data.toList.length = 16 := by simpa using h
  have hR : hexOk s.data.toList = true → (if hexOk s.data.toList then sg (hexN s.data.toList) else 0) = sg (hexN s.data.toList) := fun h => by rw [if_pos h]
  have hR2 : hexOk s.data.toList = false → (if hexOk s.data.toList then sg (hexN s.data.toList) else 0) = 0 := fun h => by rw [h]; rfl
  have hE : hexOk s.data.toList = true → (if hexOk s.data.toList then (0 : Int) else 11) = 0 := fun h => by rw [if_pos h]
  have hE2 : hexOk s.data.toList = false → (if hexOk s.data.toList then (0 : Int) else 11) = 11 := fun h => by rw [h]; rfl
  have hat := fun k i W hk hi => run_str_at s k i W hk hi
  generalize (if hexOk s.data.toList then sg (hexN s.data.toList) else 0) = R at *
  generalize (if hexOk s.data.toList then (0 : Int) else 11) = E at *
  generalize s.data.toList = l at *
  have h1 : decide ((s.size : Int) < 16) = false := by simp; omega
  have h2 : decide ((16 : Int) < s.size) = false := by simp; omega
  go_enter Try.func39, Try.ntmps39
  go_wp2
  go_loopw [4, 5] (fun x i wr => ∃ j A c, j ≤ 16 ∧ i = .int .i64 (15 - (j : Nat)) ∧ x = .slice A (4 * j) c ∧ Hid (∀ k, 16 - j ≤ k → k < 16 → hexD (byteAt l k) < 16) ∧ Ow iv wr w.heap.size 3 A (4 * j) c (tab (4 * j) (nibF l)) ∧ Below w.heap.size w wr) (fun _ i _ => (intOf i + 1).toNat)
  case atStart => exact ⟨0, none, 0, by omega, by go_num, rfl, fun k h1 h2 => by omega, Ow.nil _ _ _ _, Below.refl _ _⟩
  case round =>
    obtain ⟨j, A, c, hj, rfl, rfl, hall, hown, hb⟩ := hrel
    have hbs := hb.size
    by_cases hj16 : j < 16
    · have hix := fun W => hat (15 - j) (15 - (j : Int)) W (by omega) (by omega)
      have hbi := nibF_at l j
      have hy := byteAt_lt l (15 - j)
      obtain ⟨D, hD⟩ : ∃ D, D = hexD (byteAt l (15 - j)) := ⟨_, rfl⟩
      have hcase : (48 ≤ byteAt l (15 - j) ∧ byteAt l (15 - j) ≤ 57 ∧ D = byteAt l (15 - j) - 48) ∨ (97 ≤ byteAt l (15 - j) ∧ byteAt l (15 - j) ≤ 102 ∧ D = byteAt l (15 - j) - 87) ∨ ((byteAt l (15 - j) < 48 ∨ (57 < byteAt l (15 - j) ∧ byteAt l (15 - j) < 97) ∨ 102 < byteAt l (15 - j)) ∧ D = 16) := by
        rw [hD]; unfold hexD
        split
        · omega
        · split <;> omega
      have hall2 : D < 16 → Hid (∀ k, 16 - (j + 1) ≤ k → k < 16 → hexD (byteAt l k) < 16) := fun hlt k h1 h2 => by
        by_cases h3 : k = 15 - j
        · rw [h3, ← hD]; exact hlt
        · exact hall.out k (by omega) h2
      have hbad : D = 16 → hexOk l = false := fun h16 => by
        cases hb : hexOk l with
        | false => rfl
        | true => have := hexOk_at hb (15 - j) (by omega); omega
      rw [← hD] at hbi
      clear hD hat
      generalize byteAt l (15 - j) = y at *
      by_cases hgood : D < 16
      · have hall3 := hall2 hgood
        have hcase2 : (48 ≤ y ∧ y ≤ 57 ∧ D = y - 48) ∨ (97 ≤ y ∧ y ≤ 102 ∧ D = y - 87) := by omega
        have hR0 := Lib.hid hl
        clear hall2 hbad hR hR2 hE hE2 hall hcase hl
        rcases hcase2 with ⟨g1, g2, g3⟩ | ⟨g1, g2, g3⟩
        all_goals
          have G3 := Lib.hid g3
          clear g3
          go_wp2
          obtain ⟨wo, rfl⟩ : ∃ wo : World, wo = wr := ⟨_, rfl⟩
          go_loopw [4, 7, 8] (fun v n k wi => ∃ m e A c, m ≤ 4 ∧ k = .int .i64 (m : Nat) ∧ Hid (e = D / 2 ^ m) ∧ e ≤ 15 ∧ n = .int .i64 (e : Nat) ∧ v = .slice A (4 * j + m) c ∧ Ow iv wi w.heap.size 3 A (4 * j + m) c (tab (4 * j + m) (nibF l)) ∧ Below w.heap.size w wi) (fun _ _ k _ => 4 - (intOf k).toNat)
          case atStart => exact ⟨0, D, A, c, by omega, rfl, by show D = D / 2 ^ 0; omega, by omega, by have := G3.out; congr 1; omega, rfl, hown, hb⟩
          case round =>
            obtain ⟨m, e, A, c, hm, rfl, he, he15, rfl, rfl, hown, hb⟩ := hrel
            have hbs := hb.size
            by_cases hm4 : m < 4
            · have hL : Hid (tab (4 * j + m) (nibF l) ++ [((e : Nat) : Int) % 2] = tab (4 * j + (m + 1)) (nibF l)) := by
                show _ = tab (4 * j + m + 1) _
                rw [← tab_succ, hbi m hm4, ← he.out]; rfl
              have he2 : Hid (e / 2 = D / 2 ^ (m + 1)) := by
                show e / 2 = _
                rw [he.out, Nat.div_div_eq_div_mul, Nat.pow_succ]
              clear hbi
              go_wp2_with (at_builtin; refine wpList_app rfl rfl elemInt iv_one (s := .tmp 44) (N := 4 * j + (m + 1)) (L := tab (4 * j + (m + 1)) (nibF l)) rfl (hown.below (b := wr.heap.size) (by (repeat' (first | (with_reducible exact Below.refl _ _) | (with_reducible assumption) | (with_reducible refine Below.drew ?_) | (with_reducible refine below_drewN ?_ _) | (with_reducible refine Below.alloc ?_ ?_ _) | (with_reducible refine Below.setCell ?_ ?_ _) | omega | (simp; done) | (simp; omega)))) (by first | omega | (simp; done) | (simp; omega))) rfl (k := [((e : Nat) : Int) % 2]) (Rd.of_block (l := [((e : Nat) : Int) % 2]) (heap_top _ _ (by simp)) rfl) rfl (hL.out) (by unfold maxLen; omega) (by omega) (by first | omega | (simp; done) | (simp; omega)) ?_; intro A5 c5 w5 hown5 hg5 hat5 hb5)
              replace hb5 := below_then' (a := w) (B := w.heap.size) (by (repeat' (first | (with_reducible exact Below.refl _ _) | (with_reducible assumption) | (with_reducible refine Below.drew ?_) | (with_reducible refine below_drewN ?_ _) | (with_reducible refine Below.alloc ?_ ?_ _) | (with_reducible refine Below.setCell ?_ ?_ _) | omega | (simp; done) | (simp; omega)))) hb5 (by first | omega | (simp; done) | (simp; omega)); have hb5s := hb5.size
              have r1 : m + 1 ≤ 4 := by omega
              have r2 : Value.int .i64 ((m : Int) + 1) = .int .i64 ((m + 1 : Nat) : Int) := by go_num
              have r3 : Value.int .i64 ((e : Int) / 2) = .int .i64 ((e / 2 : Nat) : Int) := by go_num
              have r4 : e / 2 ≤ 15 := by omega
              have r5 : 4 - (intOf (.int .i64 ((m : Int) + 1))).toNat < 4 - (intOf (.int .i64 (m : Int))).toNat := by simp [intOf]; omega
              first
                | exact ⟨⟨_, _, _, ⟨m + 1, r1, r2, e / 2, he2, r4, r3, A5, c5, rfl, hown5, hb5⟩, rfl, rfl, rfl⟩, r5⟩
                | exact ⟨⟨m + 1, e / 2, A5, c5, r1, r2, he2, r4, r3, rfl, hown5, hb5⟩, r5⟩
                | exact ⟨⟨m + 1, r1, r2, e / 2, he2, r4, r3, A5, c5, rfl, hown5, hb5⟩, r5⟩
            · have hm5 : m = 4 := by omega
              subst hm5
              clear hbi
              go_wp2
              go_roundw
              case rel => exact ⟨j + 1, A, c, by omega, by go_num, rfl, hall3, hown, hb⟩
              case measure => simp [intOf]; omega
      · have hD16 : D = 16 := by omega
        have er := hR2 (hbad hD16)
        have ee := hE2 (hbad hD16)
        have hcase2 : y < 48 ∨ (57 < y ∧ y < 97) ∨ 102 < y := by omega
        clear hR hR2 hE hE2 hbad hall2 hbi hcase
        subst er ee
        rcases hcase2 with g1 | ⟨g1, g2⟩ | g1
        all_goals
          go_wp2
          go_ret2
          exact ⟨rfl, hb⟩
    · have hk9 : j = 16 := by omega
      subst hk9
      have hok : hexOk l = true := hexOk_of fun k hk => hall.out k (by omega) (by omega)
      have er := hR hok
      have ee := hE hok
      have hlt := hexN_lt l hok
      rw [hl] at hlt
      have hown : Ow iv wr w.heap.size 3 A 64 c (tab 64 (nibF l)) := hown
      rw [nibF_bit l hok hl] at hown
      have hnum := fun A c w => number_any A c (hexN l) w (by omega)
      clear hR hR2 hE hE2 hat hall
      subst er ee
      go_wp2_with (go_at_call 48; (with_reducible refine (hnum _ _ _ hown.rd.ri).mono ?_); rintro e w7 ⟨rfl, rfl⟩)
      go_ret2
      exact ⟨rfl, hb⟩
end Go.Proofs.Ytaokboendpkjfaa
