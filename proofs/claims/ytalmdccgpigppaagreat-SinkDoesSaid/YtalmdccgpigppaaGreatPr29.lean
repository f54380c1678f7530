/- Parts: RefCrc. -/
import Derived.Test.YtalmdccgpigppaaGreatPr03
import Derived.Test.YtalmdccgpigppaaGreatPr28
import Derived.Test.YtalmdccgpigppaaGreatPr23
namespace Go.Proofs.YtalmdccgpigppaaGreat
open Go.RowKit

theorem bit_ones : ∀ i, i < 32 → bit 4294967295 i = 1 := by decide
def dig (k : Nat) : Nat := [0, 2, 3, 8, 8, 11, 13, 14].getD k 0
theorem dig_bit : ∀ k, k < 8 → ∀ j, j < 4 → bit 3988292384 (4 * k + j) = dig k / 2 ^ j % 2 := by decide

theorem turn_any (w : World) : Calls Tryz.prog 235 #[] w fun e w' => ∃ A c, e = .returned (.slice A 32 c) ∧ Ow iv w' w.heap.size 3 A 32 c (tab 32 (bit 3988292384)) ∧ Below w.heap.size w w' := by
  go_enter Tryz.func235, Tryz.ntmps235
  go_wp2
  have hx := heap_top w (Obj.cells #[.int .i64 14, .int .i64 13, .int .i64 11, .int .i64 8, .int .i64 8, .int .i64 3, .int .i64 2, .int .i64 0] 3) rfl
  have hb0 : Below w.heap.size w (w.alloc (Obj.cells #[.int .i64 14, .int .i64 13, .int .i64 11, .int .i64 8, .int .i64 8, .int .i64 3, .int .i64 2, .int .i64 0] 3)) := (by (repeat' (first | (with_reducible exact Below.refl _ _) | (with_reducible assumption) | (with_reducible refine Below.drew ?_) | (with_reducible refine below_drewN ?_ _) | (with_reducible refine Below.alloc ?_ ?_ _) | (with_reducible refine Below.setCell ?_ ?_ _) | omega | (simp; done) | (simp; omega))))
  have hlt : w.heap.size < (w.alloc (Obj.cells #[.int .i64 14, .int .i64 13, .int .i64 11, .int .i64 8, .int .i64 8, .int .i64 3, .int .i64 2, .int .i64 0] 3)).heap.size := by simp
  generalize w.alloc (Obj.cells #[.int .i64 14, .int .i64 13, .int .i64 11, .int .i64 8, .int .i64 8, .int .i64 3, .int .i64 2, .int .i64 0] 3) = w0 at *
  have hcell : ∀ k, k < 8 → Hid (w0.cell? ⟨w.heap.size, 7 - k, none⟩ = some (.int .i64 (dig k : Nat))) := by
    intro k hk
    show w0.cell? ⟨w.heap.size, 7 - k, none⟩ = some (.int .i64 (dig k : Nat))
    rw [cell_of_row w0 w.heap.size (7 - k) _ _ _ hx]
    rcases (by omega : k = 0 ∨ k = 1 ∨ k = 2 ∨ k = 3 ∨ k = 4 ∨ k = 5 ∨ k = 6 ∨ k = 7) with rfl | rfl | rfl | rfl | rfl | rfl | rfl | rfl <;> rfl
  have hws := hb0.size
  go_loopw [2, 3] (fun v i wr => ∃ k A c, k ≤ 8 ∧ i = .int .i64 (7 - (k : Nat)) ∧ v = .slice A (4 * k) c ∧ Ow iv wr w0.heap.size 3 A (4 * k) c (tab (4 * k) (bit 3988292384)) ∧ Below w0.heap.size w0 wr) (fun _ i _ => (intOf i + 1).toNat)
  case atStart => exact ⟨0, none, 0, by omega, rfl, rfl, Ow.nil _ _ _ _, Below.refl _ _⟩
  case round =>
    obtain ⟨k, A, c, hk, rfl, rfl, hown, hb⟩ := hrel
    by_cases hk8 : k < 8
    · have hc := (hb.cell (p := ⟨w.heap.size, 7 - k, none⟩) hlt).trans (hcell k hk8).out
      clear hcell hx
      have hd := Lib.hid (dig_bit k hk8)
      have hd0 : dig k ≤ 15 := by
        rcases (by omega : k = 0 ∨ k = 1 ∨ k = 2 ∨ k = 3 ∨ k = 4 ∨ k = 5 ∨ k = 6 ∨ k = 7) with rfl | rfl | rfl | rfl | rfl | rfl | rfl | rfl <;> decide
      generalize dig k = d at *
      go_wp2
      obtain ⟨wo, rfl⟩ : ∃ wo : World, wo = wr := ⟨_, rfl⟩
      go_loopw [2, 4, 5] (fun v n j wi => ∃ m e A c, m ≤ 4 ∧ j = .int .i64 (m : Nat) ∧ Hid (e = d / 2 ^ m) ∧ e ≤ 15 ∧ n = .int .i64 (e : Nat) ∧ v = .slice A (4 * k + m) c ∧ Ow iv wi w0.heap.size 3 A (4 * k + m) c (tab (4 * k + m) (bit 3988292384)) ∧ Below w0.heap.size w0 wi) (fun _ _ j _ => 4 - (intOf j).toNat)
      case atStart => exact ⟨0, d, A, c, by omega, rfl, by show d = d / 2 ^ 0; omega, hd0, rfl, rfl, hown, hb⟩
      case round =>
        obtain ⟨m, e, A, c, hm, rfl, he, he15, rfl, rfl, hown, hb⟩ := hrel
        have hbs := hb.size
        by_cases hm4 : m < 4
        · have hL : Hid (tab (4 * k + m) (bit 3988292384) ++ [((e : Nat) : Int) % 2] = tab (4 * k + (m + 1)) (bit 3988292384)) := by
            show _ = tab (4 * k + m + 1) _
            rw [← tab_succ, hd.out m hm4, ← he.out]; rfl
          have he2 : Hid (e / 2 = d / 2 ^ (m + 1)) := by
            show e / 2 = _
            rw [he.out, Nat.div_div_eq_div_mul, Nat.pow_succ]
          go_wp2_with (at_builtin; refine wpList_app rfl rfl elemInt iv_one (s := .tmp 19) (N := 4 * k + (m + 1)) (L := tab (4 * k + (m + 1)) (bit 3988292384)) rfl (hown.below (b := wr.heap.size) (by (repeat' (first | (with_reducible exact Below.refl _ _) | (with_reducible assumption) | (with_reducible refine Below.drew ?_) | (with_reducible refine below_drewN ?_ _) | (with_reducible refine Below.alloc ?_ ?_ _) | (with_reducible refine Below.setCell ?_ ?_ _) | omega | (simp; done) | (simp; omega)))) (by first | omega | (simp; done) | (simp; omega))) rfl (k := [((e : Nat) : Int) % 2]) (Rd.of_block (l := [((e : Nat) : Int) % 2]) (heap_top _ _ (by simp)) rfl) rfl (hL.out) (by unfold maxLen; omega) (by omega) (by first | omega | (simp; done) | (simp; omega)) ?_; intro A5 c5 w5 hown5 hg5 hat5 hb5)
          replace hb5 := below_then' (a := w0) (B := w0.heap.size) (by (repeat' (first | (with_reducible exact Below.refl _ _) | (with_reducible assumption) | (with_reducible refine Below.drew ?_) | (with_reducible refine below_drewN ?_ _) | (with_reducible refine Below.alloc ?_ ?_ _) | (with_reducible refine Below.setCell ?_ ?_ _) | omega | (simp; done) | (simp; omega)))) hb5 (by first | omega | (simp; done) | (simp; omega)); have hb5s := hb5.size
          exact ⟨⟨_, _, _, ⟨m + 1, by omega, by go_num, e / 2, he2, by omega, by go_num, A5, c5, rfl, hown5, hb5⟩, rfl, rfl, rfl⟩, by simp [intOf]; omega⟩
        · have hm5 : m = 4 := by omega
          subst hm5
          go_wp2
          go_roundw
          case rel => exact ⟨k + 1, A, c, by omega, by go_num, rfl, hown, hb⟩
          case measure => simp [intOf]; omega
    · have hk9 : k = 8 := by omega
      subst hk9
      go_wp2
      go_ret
      exact ⟨A, c, rfl, hown.rebase hws, below_then' hb0 hb hws⟩

set_option maxRecDepth 100000 in
set_option maxHeartbeats 1000000 in
theorem bits_any (A : Option Addr) (n d : Nat) (l : List UInt8) (w : World) (hl : RB w A n l) (hn : n ≤ maxLen) :
    Calls Tryz.prog 226 #[.slice A n d] w fun e w' => ∃ B c, e = .returned (.slice B 32 c) ∧ Ow iv w' w.heap.size 3 B 32 c (tab 32 (bit (crcSum [l]))) ∧ Below w.heap.size w w' := by
  unfold maxLen at hn
  have hlen := Lib.hid hl.1
  generalize hzz : crcSum [l] = zz
  have Hz := Lib.hid hzz
  clear hzz
  go_enter Tryz.func226, Tryz.ntmps226
  go_wp2_with (go_at_call 235; (with_reducible refine (turn_any _).mono ?_); rintro e w1 ⟨At, ct, rfl, hownt, hb1⟩)
  have hb1s := hb1.size
  obtain ⟨gt, rfl, _, hgt⟩ := hownt.addr (by omega)
  have ht : ∀ k, k < 32 → w1.cell? ⟨gt, k, none⟩ = some (.int .i64 (bit 3988292384 k : Nat)) := fun k hk => hownt.tab_cell hk
  have Ht := Lib.hid ht
  clear ht hownt
  have hl1 := hl.below hb1 (Nat.le_refl _)
  go_loopw [4, 5] (fun v i wr => ∃ k A c, k ≤ 32 ∧ i = .int .i64 (k : Nat) ∧ v = .slice A k c ∧ Ow iv wr w1.heap.size 3 A k c (tab k (fun _ => 1)) ∧ Below w1.heap.size w1 wr) (fun _ i _ => 32 - (intOf i).toNat)
  case atStart => exact ⟨0, none, 0, by omega, rfl, rfl, Ow.nil _ _ _ _, Below.refl _ _⟩
  case round =>
    obtain ⟨k, A2, c, hk, rfl, rfl, hown, hb⟩ := hrel
    have hbs := hb.size
    by_cases hk32 : k < 32
    · go_wp2_with (at_builtin; refine wpList_app rfl rfl elemInt iv_one (s := .tmp 19) (N := k + 1) (L := tab (k + 1) (fun _ => 1)) rfl (hown.below (b := wr.heap.size) (by (repeat' (first | (with_reducible exact Below.refl _ _) | (with_reducible assumption) | (with_reducible refine Below.drew ?_) | (with_reducible refine below_drewN ?_ _) | (with_reducible refine Below.alloc ?_ ?_ _) | (with_reducible refine Below.setCell ?_ ?_ _) | omega | (simp; done) | (simp; omega)))) (by first | omega | (simp; done) | (simp; omega))) rfl (k := [1]) (Rd.of_block (l := [1]) (heap_top _ _ (by simp)) rfl) rfl ((by simpa using tab_succ k (fun _ => 1))) (by unfold maxLen; omega) (by omega) (by first | omega | (simp; done) | (simp; omega)) ?_; intro A5 c5 w5 hown5 hg5 hat5 hb5)
      replace hb5 := below_then' (a := w1) (B := w1.heap.size) (by (repeat' (first | (with_reducible exact Below.refl _ _) | (with_reducible assumption) | (with_reducible refine Below.drew ?_) | (with_reducible refine below_drewN ?_ _) | (with_reducible refine Below.alloc ?_ ?_ _) | (with_reducible refine Below.setCell ?_ ?_ _) | omega | (simp; done) | (simp; omega)))) hb5 (by first | omega | (simp; done) | (simp; omega)); have hb5s := hb5.size
      go_roundw
      case rel => exact ⟨k + 1, A5, c5, by omega, by go_num, rfl, hown5, hb5⟩
      case measure => simp [intOf]; omega
    · have hk9 : k = 32 := by omega
      subst hk9
      obtain ⟨g, rfl, hgb, _⟩ := hown.addr (by omega)
      have hown : Ow iv wr w1.heap.size 3 (some ⟨g, 0, none⟩) 32 c (tab 32 (bit 4294967295)) := by
        rw [tab_congr (g := bit 4294967295)] at hown
        · exact hown
        · decide
      obtain ⟨w2, rfl⟩ : ∃ w2 : World, w2 = wr := ⟨_, rfl⟩
      go_wp2
      go_loopw [6] (fun i wr => ∃ j x, j ≤ n ∧ i = .int .i64 (j : Nat) ∧ Hid (x = crcFold 4294967295 (l.take j)) ∧ x < 4294967296 ∧ Ow iv wr w1.heap.size 3 (some ⟨g, 0, none⟩) 32 c (tab 32 (bit x)) ∧ Below w1.heap.size w1 wr) (fun i _ => n - (intOf i).toNat)
      case atStart => exact ⟨0, 4294967295, Nat.zero_le _, rfl, rfl, by omega, hown, hb⟩
      case round =>
        obtain ⟨j, x, hj, rfl, hX, hx, hown, hb⟩ := hrel
        by_cases hjn : j < n
        · have hF : Hid (crcFold 4294967295 (l.take (j + 1)) = crcStep x (byteAt l j)) := by
            show _ = _
            rw [take_succ_byte l j (by rw [hlen.out]; exact hjn), crcFold_snoc, ← hX.out]; rfl
          obtain ⟨b0, o0, rfl, hb0, hc0⟩ := hl1.at_ hjn
          have hc0 := (hb.cell (p := ⟨b0, o0 + j, none⟩) hb0).trans hc0
          have hby := byteAt_lt l j
          have hy0 := crcStep_lt hx hby
          generalize byteAt l j = by_ at *
          go_wp2
          obtain ⟨w3, rfl⟩ : ∃ w3 : World, w3 = wr := ⟨_, rfl⟩
          go_loopw [7, 8] (fun nn kk wr => ∃ m e, m ≤ 8 ∧ kk = .int .i64 (m : Nat) ∧ nn = .int .i64 (e : Nat) ∧ Hid (e = by_ / 2 ^ m) ∧ e ≤ 255 ∧ Ow iv wr w1.heap.size 3 (some ⟨g, 0, none⟩) 32 c (tab 32 (fun i => if i < m then (bit x i + bit by_ i) % 2 else bit x i)) ∧ Below w1.heap.size w1 wr) (fun _ kk _ => 8 - (intOf kk).toNat)
          case atStart => exact ⟨0, by_, by omega, rfl, rfl, by show by_ = by_ / 2 ^ 0; omega, by omega, by simpa using hown, hb⟩
          case round =>
            obtain ⟨m, e, hm, rfl, rfl, he, he255, hown, hb⟩ := hrel
            have hbs := hb.size
            by_cases hm8 : m < 8
            · have hcell := hown.tab_cell (k := m) (by omega)
              simp only [Nat.lt_irrefl, if_false] at hcell
              have hfree := hown.free m
              have hbit : Hid (bit by_ m = e % 2) := by show _ = _; rw [he.out]; rfl
              have hset := fun u hu => Lib.hid (hown.tab_set (f' := fun i => if i < m + 1 then (bit x i + bit by_ i) % 2 else bit x i) m ((bit x m + e % 2) % 2) u (by omega) hu (fun i hi => by
                by_cases h1 : i = m
                · subst h1; simp [hbit.out]
                · by_cases h2 : i < m
                  · simp [h1, h2, Nat.lt_succ_of_lt h2]
                  · simp [h1, h2, show ¬ i < m + 1 from by omega]))
              have he2 : Hid (e / 2 = by_ / 2 ^ (m + 1)) := by
                show e / 2 = _
                rw [he.out, Nat.div_div_eq_div_mul, Nat.pow_succ]
              have hy := bit_le x m
              generalize hgy : bit x m = y at hcell hy hset
              clear hgy hbit hown hc0
              go_wp2
              go_roundw
              case rel => exact ⟨m + 1, e / 2, by omega, by go_num, by go_num, he2, by omega, (hset _ (by first | rfl | (congr 1; omega))).out, (by (repeat' (first | (with_reducible exact Below.refl _ _) | (with_reducible assumption) | (with_reducible refine Below.drew ?_) | (with_reducible refine below_drewN ?_ _) | (with_reducible refine Below.alloc ?_ ?_ _) | (with_reducible refine Below.setCell ?_ ?_ _) | omega | (simp; done) | (simp; omega))))⟩
              case measure => simp [intOf]; omega
            · have hm9 : m = 8 := by omega
              subst hm9
              have hown : Ow iv wr w1.heap.size 3 (some ⟨g, 0, none⟩) 32 c (tab 32 (bit (x ^^^ by_))) := by
                rw [tab_congr (g := bit (x ^^^ by_))] at hown
                · exact hown
                · intro i _
                  rw [bit_xor]
                  by_cases h8 : i < 8
                  · simp [h8]
                  · have hx1 := bit_le x i
                    rw [bit_high (x := by_) (n := 8) hby (by omega)]; simp [h8]; omega
              have hX2 : Hid (crcBits (8 - 0) (x ^^^ by_) = crcStep x by_) := rfl
              have hz : x ^^^ by_ < 4294967296 := u32_lt_xor hx (by omega)
              obtain ⟨w4, rfl⟩ : ∃ w4 : World, w4 = wr := ⟨_, rfl⟩
              clear hc0 he
              go_wp2
              go_loopw [9] (fun rr wr => ∃ r y, r ≤ 8 ∧ rr = .int .i64 (r : Nat) ∧ Hid (crcBits (8 - r) y = crcStep x by_) ∧ y < 4294967296 ∧ Ow iv wr w1.heap.size 3 (some ⟨g, 0, none⟩) 32 c (tab 32 (bit y)) ∧ Below w1.heap.size w1 wr) (fun rr _ => 8 - (intOf rr).toNat)
              case atStart => exact ⟨0, _, by omega, rfl, hX2, hz, hown, hb⟩
              case round =>
                obtain ⟨r, y, hr, rfl, hY, hy, hown, hb⟩ := hrel
                by_cases hr8 : r < 8
                · have hc0 := hown.tab_cell (k := 0) (by omega)
                  go_wp2
                  obtain ⟨w5, rfl⟩ : ∃ w5 : World, w5 = wr := ⟨_, rfl⟩
                  have hb5 := hb
                  go_loopw [11] (fun kk wr => ∃ k, k ≤ 31 ∧ kk = .int .i64 (k : Nat) ∧ Ow iv wr w1.heap.size 3 (some ⟨g, 0, none⟩) 32 c (tab 32 (fun i => if i < k then bit y (i + 1) else bit y i)) ∧ Below w1.heap.size w1 wr) (fun kk _ => 31 - (intOf kk).toNat)
                  case atStart => exact ⟨0, by omega, rfl, by simpa using hown, hb⟩
                  case round =>
                    obtain ⟨k, hk, rfl, hown, hb⟩ := hrel
                    have hbs := hb.size
                    by_cases hk31 : k < 31
                    · have hcell := hown.tab_cell (k := k + 1) (by omega)
                      have hcell0 := hown.tab_cell (k := k) (by omega)
                      simp only [show ¬ k + 1 < k from by omega, if_false, Nat.lt_irrefl] at hcell hcell0
                      have hfree := hown.free k
                      have hset := fun u hu => Lib.hid (hown.tab_set (f' := fun i => if i < k + 1 then bit y (i + 1) else bit y i) k (bit y (k + 1)) u (by omega) hu (fun i hi => by
                        by_cases h1 : i = k
                        · subst h1; simp
                        · by_cases h2 : i < k
                          · simp [h1, h2, Nat.lt_succ_of_lt h2]
                          · simp [h1, h2, show ¬ i < k + 1 from by omega]))
                      clear hown hc0
                      go_wp2
                      go_roundw
                      case rel => exact ⟨k + 1, by omega, by go_num, (hset _ rfl).out, (by (repeat' (first | (with_reducible exact Below.refl _ _) | (with_reducible assumption) | (with_reducible refine Below.drew ?_) | (with_reducible refine below_drewN ?_ _) | (with_reducible refine Below.alloc ?_ ?_ _) | (with_reducible refine Below.setCell ?_ ?_ _) | omega | (simp; done) | (simp; omega))))⟩
                      case measure => simp [intOf]; omega
                    · have hk9 : k = 31 := by omega
                      subst hk9
                      have hfree := hown.free 31
                      have hcell0 := hown.tab_cell (k := 31) (by omega)
                      have hset := fun u hu => Lib.hid (hown.tab_set (f' := bit (y / 2)) 31 0 u (by omega) hu (fun i hi => by
                        rw [bit_half]
                        by_cases h1 : i = 31
                        · subst h1
                          rw [if_pos rfl, bit_high (n := 32) hy (by omega)]
                        · simp [h1, show i < 31 from by omega]))
                      have hy2 : Hid (bit y 0 = y % 2) := by show y / 2 ^ 0 % 2 = _; omega
                      have hb0 := bit_le y 0
                      generalize hgo : bit y 0 = out at *
                      clear hc0 hown
                      go_wp2
                      have hown := (hset (.int .i64 0) rfl).out
                      have hb : Below w1.heap.size w1 (wr.setCell ⟨g, 31, none⟩ (.int .i64 0)) := (by (repeat' (first | (with_reducible exact Below.refl _ _) | (with_reducible assumption) | (with_reducible refine Below.drew ?_) | (with_reducible refine below_drewN ?_ _) | (with_reducible refine Below.alloc ?_ ?_ _) | (with_reducible refine Below.setCell ?_ ?_ _) | omega | (simp; done) | (simp; omega))))
                      clear hset hfree hcell0 hb5
                      generalize wr.setCell ⟨g, 31, none⟩ (.int .i64 0) = w6 at *
                      by_cases ho : out = 1
                      · have hcb : Hid (crcBit y = y / 2 ^^^ 3988292384) := by
                          show crcBit y = _
                          unfold crcBit; rw [if_pos (by rw [← hy2.out]; exact ho)]
                        have ho2 : (((out : Nat) : Int) == 1) = true := by rw [ho]; rfl
                        clear hgo hy2
                        go_loopw [12] (fun kk wr => ∃ k, k ≤ 32 ∧ kk = .int .i64 (k : Nat) ∧ Ow iv wr w1.heap.size 3 (some ⟨g, 0, none⟩) 32 c (tab 32 (fun i => if i < k then (bit (y / 2) i + bit 3988292384 i) % 2 else bit (y / 2) i)) ∧ Below w1.heap.size w1 wr) (fun kk _ => 32 - (intOf kk).toNat)
                        case atStart => exact ⟨0, by omega, rfl, by simpa using hown, hb⟩
                        case round =>
                          obtain ⟨k, hk, rfl, hown, hb⟩ := hrel
                          have hbs := hb.size
                          by_cases hk32 : k < 32
                          · have hcell := hown.tab_cell (k := k) (by omega)
                            simp only [if_false, Nat.lt_irrefl] at hcell
                            have hct := (hb.cell (p := ⟨gt, k, none⟩) hgt).trans (Ht.out k hk32)
                            have hfree := hown.free k
                            have hset := fun u hu => Lib.hid (hown.tab_set (f' := fun i => if i < k + 1 then (bit (y / 2) i + bit 3988292384 i) % 2 else bit (y / 2) i) k ((bit (y / 2) k + bit 3988292384 k) % 2) u (by omega) hu (fun i hi => by
                              by_cases h1 : i = k
                              · subst h1; simp
                              · by_cases h2 : i < k
                                · simp [h1, h2, Nat.lt_succ_of_lt h2]
                                · simp [h1, h2, show ¬ i < k + 1 from by omega]))
                            have hk32' : ((k : Nat) : Int) < 32 := by omega
                            have l1 := bit_le (y / 2) k
                            have l2 := bit_le 3988292384 k
                            generalize bit (y / 2) k = p at hcell hset l1
                            generalize bit 3988292384 k = q at hct hset l2
                            clear hown
                            go_wp2
                            refine wp_region_quiet_tail 13 (by kernel_rfl) (by kernel_rfl) ?_
                            simp only [List.take_succ_cons, List.take_zero, List.drop_succ_cons, List.drop_zero]
                            repeat (go_big_quiet_step (fail))
                            refine wpQuiet_nil ?_
                            go_wp2
                            go_roundw
                            case rel => exact ⟨k + 1, by omega, by go_num, (hset _ (by first | rfl | (congr 1; omega))).out.drew', (by (repeat' (first | (with_reducible exact Below.refl _ _) | (with_reducible assumption) | (with_reducible refine Below.drew ?_) | (with_reducible refine below_drewN ?_ _) | (with_reducible refine Below.alloc ?_ ?_ _) | (with_reducible refine Below.setCell ?_ ?_ _) | omega | (simp; done) | (simp; omega))))⟩
                            case measure => simp [intOf]; omega
                          · have hk9 : k = 32 := by omega
                            subst hk9
                            have hown : Ow iv wr w1.heap.size 3 (some ⟨g, 0, none⟩) 32 c (tab 32 (bit (crcBit y))) := by
                              rw [tab_congr (g := bit (crcBit y))] at hown
                              · exact hown
                              · intro i hi
                                rw [hcb.out, bit_xor]; simp [hi]
                            have hy1 := crcBit_lt hy
                            have hY2 : Hid (crcBits (8 - (r + 1)) (crcBit y) = crcStep x by_) := by
                              show _ = _
                              rw [← hY.out, show 8 - r = (8 - (r + 1)) + 1 from by omega]; rfl
                            go_wp2
                            go_roundw
                            case rel => exact ⟨r + 1, crcBit y, by omega, by go_num, hY2, hy1, hown, hb⟩
                            case measure => simp [intOf]; omega
                      · have hcb : Hid (crcBit y = y / 2) := by
                          show crcBit y = _
                          unfold crcBit; rw [if_neg (by rw [← hy2.out]; exact ho)]
                        have ho2 : (((out : Nat) : Int) == 1) = false := by rw [beq_eq_false_iff_ne]; omega
                        clear hgo hy2
                        go_loopw [12] (fun kk wr => kk = .int .i64 0 ∧ Ow iv wr w1.heap.size 3 (some ⟨g, 0, none⟩) 32 c (tab 32 (bit (y / 2))) ∧ Below w1.heap.size w1 wr) (fun kk _ => 0)
                        case atStart => exact ⟨rfl, hown, hb⟩
                        case round =>
                          obtain ⟨rfl, hown, hb⟩ := hrel
                          have hy1 := crcBit_lt hy
                          rw [← hcb.out] at hown
                          have hY2 : Hid (crcBits (8 - (r + 1)) (crcBit y) = crcStep x by_) := by
                            show _ = _
                            rw [← hY.out, show 8 - r = (8 - (r + 1)) + 1 from by omega]; rfl
                          go_wp2
                          go_roundw
                          case rel => exact ⟨r + 1, crcBit y, by omega, by go_num, hY2, hy1, hown, hb⟩
                          case measure => simp [intOf]; omega
                · have hr9 : r = 8 := by omega
                  subst hr9
                  have hX3 : Hid (y = crcFold 4294967295 (l.take (j + 1))) := by
                    show y = _
                    rw [hF.out, ← hY.out]; rfl
                  go_wp2
                  go_roundw
                  case rel => exact ⟨j + 1, y, by omega, by go_num, hX3, hy, hown, hb⟩
                  case measure => simp [intOf]; omega
        · have hX3 : Hid (zz = 4294967295 - x) := by
            show _ = _
            rw [← Hz.out, crcSum_one, hX.out, List.take_of_length_le (by rw [hlen.out]; omega), sub_eq_xor]
            exact crcFold_lt _ (by omega)
          clear hl1 hl hX Ht
          go_wp2
          go_loopw [13] (fun kk wr => ∃ k, k ≤ 32 ∧ kk = .int .i64 (k : Nat) ∧ Ow iv wr w1.heap.size 3 (some ⟨g, 0, none⟩) 32 c (tab 32 (fun i => if i < k then 1 - bit x i else bit x i)) ∧ Below w1.heap.size w1 wr) (fun kk _ => 32 - (intOf kk).toNat)
          case atStart => exact ⟨0, by omega, rfl, by simpa using hown, hb⟩
          case round =>
            obtain ⟨k, hk, rfl, hown, hb⟩ := hrel
            have hbs := hb.size
            by_cases hk32 : k < 32
            · have hcell := hown.tab_cell (k := k) (by omega)
              simp only [if_false, Nat.lt_irrefl] at hcell
              have hfree := hown.free k
              have l1 := bit_le x k
              have hset := fun u hu => Lib.hid (hown.tab_set (f' := fun i => if i < k + 1 then 1 - bit x i else bit x i) k (1 - bit x k) u (by omega) hu (fun i hi => by
                by_cases h1 : i = k
                · subst h1; simp
                · by_cases h2 : i < k
                  · simp [h1, h2, Nat.lt_succ_of_lt h2]
                  · simp [h1, h2, show ¬ i < k + 1 from by omega]))
              generalize bit x k = p at hcell hset l1
              clear hown
              go_wp2
              go_roundw
              case rel => exact ⟨k + 1, by omega, by go_num, (hset _ (by first | rfl | (congr 1; omega))).out, (by (repeat' (first | (with_reducible exact Below.refl _ _) | (with_reducible assumption) | (with_reducible refine Below.drew ?_) | (with_reducible refine below_drewN ?_ _) | (with_reducible refine Below.alloc ?_ ?_ _) | (with_reducible refine Below.setCell ?_ ?_ _) | omega | (simp; done) | (simp; omega))))⟩
              case measure => simp [intOf]; omega
            · have hk9 : k = 32 := by omega
              subst hk9
              have hown : Ow iv wr w1.heap.size 3 (some ⟨g, 0, none⟩) 32 c (tab 32 (bit (4294967295 - x))) := by
                rw [tab_congr (g := bit (4294967295 - x))] at hown
                · exact hown
                · intro i hi
                  rw [sub_eq_xor x hx, bit_xor, bit_ones i hi]
                  have := bit_le x i
                  simp [hi]; omega
              go_wp2
              go_ret
              rw [hX3.out]
              exact ⟨_, c, rfl, hown.rebase hb1s, below_then' hb1 hb hb1s⟩

theorem sum_ref (A : Option Addr) (n d : Nat) (l : List UInt8) (w : World) (hl : RB w A n l) (hn : n ≤ maxLen) :
    Calls Tryz.prog 193 #[.slice A n d] w fun e w' => e = .returned (.int .i64 (crcSum [l] : Nat)) ∧ Below w.heap.size w w' := by
  have hx := crcSum_lt [l]
  have hb := fun w => bits_any A n d l w
  generalize crcSum [l] = x at *
  go_enter Tryz.func193, Tryz.ntmps193
  go_wp2_with (go_at_call 226; (with_reducible refine (hb _ hl hn).mono ?_); rintro e w1 ⟨B, c, rfl, hown, hb1⟩)
  obtain ⟨g, rfl, hgb, _⟩ := hown.addr (by omega)
  clear hb
  go_loopw [4, 5] (fun nn kk wr => ∃ k y, k ≤ 32 ∧ kk = .int .i64 (31 - (k : Nat)) ∧ nn = .int .i64 (y : Nat) ∧ Hid (y = x / 2 ^ (32 - k)) ∧ y < 4294967296 ∧ wr = w1) (fun _ kk _ => (intOf kk + 1).toNat)
  case atStart => exact ⟨0, 0, by omega, rfl, rfl, by show 0 = _; omega, by omega, rfl⟩
  case round =>
    obtain ⟨k, y, hk, rfl, rfl, hy, hy2, rfl⟩ := hrel
    by_cases hk32 : k < 32
    · have hcell := hown.tab_cell (k := 31 - k) (by omega)
      have hbl := bit_le x (31 - k)
      have hy3 : Hid (2 * y + bit x (31 - k) = x / 2 ^ (32 - (k + 1))) := by
        show _ = _
        have e : 32 - k = (31 - k) + 1 := by omega
        rw [hy.out, e, show 32 - (k + 1) = 31 - k from by omega, Nat.pow_succ, ← Nat.div_div_eq_div_mul]
        unfold bit; omega
      have hy4 : Hid (2 * y + bit x (31 - k) < 4294967296) := by
        show _ < _
        rw [hy3.out]
        exact Nat.lt_of_le_of_lt (Nat.div_le_self _ _) hx
      generalize bit x (31 - k) = q at *
      go_wp2
      go_roundw
      case rel => exact ⟨k + 1, _, by omega, by go_num, by go_num, hy3, hy4.out, trivial⟩
      case measure => simp [intOf]; omega
    · have hk9 : k = 32 := by omega
      subst hk9
      go_wp2
      go_ret
      refine ⟨ret_nat ?_, hb1⟩
      rw [hy.out]; simp
end Go.Proofs.YtalmdccgpigppaaGreat
