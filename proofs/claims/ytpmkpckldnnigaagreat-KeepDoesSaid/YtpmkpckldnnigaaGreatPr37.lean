/- Parts: CodeG, CodeH. -/
import Derived.Test.YtpmkpckldnnigaaGreatPr02
import Derived.Test.YtpmkpckldnnigaaGreatPr03
import Derived.Test.YtpmkpckldnnigaaGreatPr09
import Derived.Lib.AppendZerosOnto
import Derived.Lib.AppendZeros
set_option linter.unusedVariables false
set_option linter.unusedSimpArgs false
set_option maxRecDepth 100000
set_option maxHeartbeats 40000000
namespace Go.Proofs.YtpmkpckldnnigaaGreat
open Go.RowKit
theorem grow_any (n : Nat) (h0 : 0 < n) (hn : n ≤ 1000000) (w : World) : Calls Tryz.prog 253 #[.slice none 0 0, .int .i64 (n : Nat)] w fun e w' => ∃ g c, e = .returned (.slice (some ⟨g, 0, none⟩) 0 c) ∧ OB w' w.heap.size 5 (some ⟨g, 0, none⟩) 0 c [] ∧ Below w.heap.size w w' := by
  obtain ⟨ht, ⟨i0, hi, hz, hs, hby⟩, hzs, _⟩ := qb4; have hold : (Builtin.firstCells i0.size 0 (.slice none 0 0)).run Tryz.prog w.drew = .ok ([] : List Value).toArray w.drew := by simp [Builtin.firstCells]
  have hrz : ∀ ty, (Builtin.append_ #[22, 3] ty #[.slice none 0 0, .int .i64 (n : Nat)]).run Tryz.prog w =
      .ok (.slice (some ⟨w.heap.size, 0, none⟩) n (grownCap w n 0 5)) (w.drew.alloc (.cells (([] : List Value).toArray ++ Builtin.zeroCells (Value.int .u8 0).cells n ++ Builtin.zeroCells (Value.int .u8 0).cells (grownCap w n 0 5 - n)) 5)) := fun ty => by
    have h := Lib.run_append_grow_zeros (P := Tryz.prog) w 22 3 ty 5 i0 (.int .u8 0) .i64 .i64 ht Tryz.underlying3 hi hz none 0 0 [] hold n h0 (by rw [hs]; omega) omg omg (by rw [hby]; omega)
      (by rw [Nat.zero_add]; exact growslice_fits h0 (by rw [hby]; omega))
    rw [Nat.zero_add] at h; exact h
  have hGn : n ≤ grownCap w n 0 5 := grownCap_ge w _ _ _; have hG63 := grownCap_le_maxLen w n 0 5 uml; have hown : ∀ w' : World, w'.heap[w.heap.size]? = some (.cells (([] : List Value).toArray ++ Builtin.zeroCells (Value.int .u8 0).cells n ++ Builtin.zeroCells (Value.int .u8 0).cells (grownCap w n 0 5 - n)) 5 (0, 0)) →
      OB w' w.heap.size 5 (some ⟨w.heap.size, 0, none⟩) 0 (grownCap w n 0 5) [] := fun w' h =>
    ⟨rfl, rfl, .inr ⟨w.heap.size, _, _, rfl, Nat.le_refl _, h, Nat.zero_le _, hG63, by
      rw [Array.size_append, Array.size_append, size_zeroCells, size_zeroCells, hzs]
      show 0 + n * 1 + _ * 1 = _ * 1
      omega, by simp⟩⟩
  have hown2 := hown (w.drew.alloc (.cells (([] : List Value).toArray ++ Builtin.zeroCells (Value.int .u8 0).cells n ++ Builtin.zeroCells (Value.int .u8 0).cells (grownCap w n 0 5 - n)) 5)) (heap_alloc_new w.drew _); clear hold hi hz hs hby hzs ht hown i0; generalize (([] : List Value).toArray ++ Builtin.zeroCells (Value.int .u8 0).cells n ++ Builtin.zeroCells (Value.int .u8 0).cells (grownCap w n 0 5 - n)) = C at *; generalize grownCap w n 0 5 = G at *; unfold maxLen at hG63; have Hown := hdd hown2; clear hown2; go_enter Tryz.func253, Tryz.ntmps253; go_wp2_with (at_builtin; refine Lib.wpList_append_run _ rfl _ _ _ _ rfl _ _ rfl rfl _ _ (hrz _) ?_); go_ret; exact ⟨w.heap.size, G, rfl, Hown.out, gwn⟩
theorem qq6 (n : Nat) (w : World) (h : n < 9223372036854775808) : Calls Tryz.prog 209 #[.int .i64 n] w fun e w' => ∃ A c, e = .returned (.slice A (digL 9 n).length c) ∧ OB w' w.heap.size 5 A (digL 9 n).length c (digL 9 n) ∧ Below w.heap.size w w' := by
  have hs := fun w => short_any n w h
  generalize digL 9 n = L at *; clear h; go_enter Tryz.func209, Tryz.ntmps209; go_wp2_with (go_at_call 254; (with_reducible refine (hs _).mono ?_); rintro e w1 ⟨A1, c1, rfl, hown, hb⟩); go_ret; exact ⟨A1, c1, rfl, hown, hb⟩
theorem u8_wrap (t : Int) (h : t = 1 ∨ t = 2) : bv (UInt8.ofNat t.toNat) = .int .u8 t := by rcases h with rfl | rfl <;> rfl
theorem qy6 (A : Option Addr) (n c : Nat) (l : List Int) (w : World) (hl : RI w A n l) (hr : qk0 l = true) :
    Calls Tryz.prog 208 #[.slice A n c] w fun e w' => ∃ A N c, e = .returned (.slice A N c) ∧ OB w' w.heap.size 5 A N c (qi9 l) ∧ Below w.heap.size w w' := by
  obtain ⟨r1, r2, r3⟩ := qi1.1 hr; have hlen := hl.1; rw [hlen] at r1 r2 r3; have hs := fun w => qq6 n w omg
  have hT : ∀ k, k < n → Hid (digL 9 n ++ (l.take k).map (fun t => UInt8.ofNat t.toNat) ++ [UInt8.ofNat (qd5 l k).toNat] = digL 9 n ++ (l.take (k + 1)).map (fun t => UInt8.ofNat t.toNat)) := fun k hk => by
    show _ = _
    rw [List.take_succ_eq_append_getElem (show k < l.length by omega), List.map_append, List.append_assoc]; unfold qd5; rw [List.getD_eq_getElem?_getD, List.getElem?_eq_getElem (show k < l.length by omega)]
    rfl
  have hD := (qf8 9 n).1; have hfin : Hid (qi9 l = digL 9 n ++ (l.take n).map (fun t => UInt8.ofNat t.toNat)) := by
    show _ = _
    unfold qi9; rw [hlen, List.take_of_length_le omg]
  have hL0 : Hid (digL 9 n ++ (l.take 0).map (fun t => UInt8.ofNat t.toNat) = digL 9 n) := by show _ = _; simp
  generalize qi9 l = B at *; have hlen2 : ∀ k, k ≤ n → (digL 9 n ++ (l.take k).map (fun t => UInt8.ofNat t.toNat)).length = (digL 9 n).length + k := fun k hk => by simp [hlen]; omega
  have Hlen2 := hdd hlen2; clear hlen hr hlen2; generalize hK : (fun k : Nat => digL 9 n ++ (l.take k).map (fun t => UInt8.ofNat t.toNat)) = K; have HK : ∀ k, Hid (digL 9 n ++ (l.take k).map (fun t => UInt8.ofNat t.toNat) = K k) := fun k => by rw [← hK]; rfl
  clear hK; go_enter Tryz.func208, Tryz.ntmps208; go_wp2_with ((go_at_call 209; (with_reducible refine (hs _).mono ?_); rintro e w1 ⟨A1, c1, rfl, hown, hb⟩); have hbs := hb.size); go_loopw [3, 11] (fun v i wr => ∃ k A2 c2, k ≤ n ∧ i = .int .i64 (k : Nat) ∧ v = .slice A2 ((digL 9 n).length + k) c2 ∧ Ow bv wr w.heap.size 5 A2 ((digL 9 n).length + k) c2 (K k) ∧ Below w.heap.size w wr) (fun _ i _ => n - (intOf i).toNat)
  case atStart => exact ⟨0, A1, c1, omg, rfl, rfl, by rw [← (HK 0).out, hL0.out]; exact hown, hb⟩
  case round =>
    obtain ⟨k, A2, c2, hk, rfl, rfl, hown2, hbel⟩ := hrel; have hbs2 := hbel.size
    by_cases hlt : k < n
    · obtain ⟨b, o, rfl, _, hc⟩ := (hl.below hbel nlr).at_ hlt; have h12 := r1 k hlt; have hkT := hT k hlt; have hbv := hdd (u8_wrap _ h12); have hkL : Hid (K k ++ [UInt8.ofNat (qd5 l k).toNat] = K (k + 1)) := by show _ = _; rw [← (HK k).out, ← (HK (k + 1)).out]; exact hkT.out
      clear r1 hT hkT HK hL0; rcases h12 with h | h
      all_goals
        rw [h] at hc hkL; clear h hbv
      · go_wp2_with (at_builtin; refine qa6 rfl rfl qb4 qc2 (s := .tmp 15) (N := (digL 9 n).length + (k + 1)) (L := K (k + 1)) rfl (hown2.below (b := wr.heap.size) gwn szz) rfl (k := [(1 : UInt8)]) (Rd.of_block (l := [(1 : UInt8)]) (qb7 _ _ smp) rfl) rfl (hkL.out) uml omg szz ?_; intro A5 c5 w5 hown5 hg5 hat5 hb5); replace hb5 := qa0 (a := w) (B := w.heap.size) gwn hb5 szz; have hb5s := hb5.size; go_roundw
        case rel => exact ⟨k + 1, A5, c5, omg, by go_num, rfl, hown5, hb5⟩
        case measure => simp [intOf]; omega
      · go_wp2_with (at_builtin; refine qa6 rfl rfl qb4 qc2 (s := .tmp 15) (N := (digL 9 n).length + (k + 1)) (L := K (k + 1)) rfl (hown2.below (b := wr.heap.size) gwn szz) rfl (k := [(2 : UInt8)]) (Rd.of_block (l := [(2 : UInt8)]) (qb7 _ _ smp) rfl) rfl (hkL.out) uml omg szz ?_; intro A5 c5 w5 hown5 hg5 hat5 hb5); replace hb5 := qa0 (a := w) (B := w.heap.size) gwn hb5 szz; have hb5s := hb5.size; go_roundw
        case rel => exact ⟨k + 1, A5, c5, omg, by go_num, rfl, hown5, hb5⟩
        case measure => simp [intOf]; omega
    · have hkn : k = n := omg; subst hkn; have hF : Hid (B = K k) := by show _ = _; rw [hfin.out]; exact (HK k).out
      clear r1 hT HK hfin; go_wp2; go_ret; exact ⟨A2, _, c2, rfl, by rw [hF.out]; exact hown2, hbel⟩
def sumK (f : Nat → Nat) : Nat → Nat
  | 0 => 0
  | k + 1 => sumK f k + f k
def catK (L : Nat → List UInt8) : Nat → List UInt8
  | 0 => []
  | k + 1 => catK L k ++ L k
theorem sumK_le (f : Nat → Nat) (B : Nat) : ∀ k, (∀ i, i < k → f i ≤ B) → sumK f k ≤ B * k := by
  intro k
  induction k with
  | zero => intro _; simp [sumK]
  | succ k ih =>
    intro h; have h1 := ih (fun i hi => h i omg); have h2 := h k omg
    show sumK f k + f k ≤ B * (k + 1)
    rw [Nat.mul_succ]; omega
theorem sumK_mono (f : Nat → Nat) {j k : Nat} (h : j ≤ k) : sumK f j ≤ sumK f k := by
  induction k with
  | zero => rw [show j = 0 by omega]; exact Nat.le_refl _
  | succ k ih =>
    by_cases e : j = k + 1
    · rw [e]; exact Nat.le_refl _
    · exact Nat.le_trans (ih omg) (Nat.le_add_right _ _)
theorem catK_len (L : Nat → List UInt8) (f : Nat → Nat) (k : Nat) (h : ∀ i, i < k → (L i).length = f i) : (catK L k).length = sumK f k := by
  induction k with
  | zero => rfl
  | succ k ih => show (catK L k ++ L k).length = _; rw [List.length_append, ih (fun i hi => h i omg), h k omg]; rfl
theorem concat_any (b m c : Nat) (Av : Nat → Option Addr) (nv cv : Nat → Nat) (L : Nat → List UInt8) (w : World) (hm : m ≤ 10) (hb : b < w.heap.size)
    (hrow : ∀ i, i < m → w.cell? ⟨b, i, none⟩ = some (.slice (Av i) (nv i) (cv i))) (hrd : ∀ i, i < m → RB w (Av i) (nv i) (L i)) (hn : ∀ i, i < m → nv i ≤ 1000) (h1 : 0 < sumK nv m) :
    Calls Tryz.prog 207 #[.slice (some ⟨b, 0, none⟩) m c] w fun e w' => ∃ A N c, e = .returned (.slice A N c) ∧ OB w' w.heap.size 5 A N c (catK L m) ∧ Below w.heap.size w w' := by
  have hle := sumK_le nv 1000 m hn; have hS : ∀ k, Hid (sumK nv (k + 1) = sumK nv k + nv k) := fun k => rfl
  have hmono := fun k (h : k ≤ m) => sumK_mono nv h
  have hcl : ∀ k, k ≤ m → (catK L k).length = sumK nv k := fun k hk => catK_len L nv k (fun i hi => (hrd i omg).1)
  have Hcl := hdd hcl; clear hcl; have hC : ∀ k, Hid (catK L k ++ L k = catK L (k + 1)) := fun k => rfl
  have hS0 : Hid (sumK nv 0 = 0) := rfl; have hC0 : Hid (catK L 0 = []) := rfl; generalize catK L = K at *; generalize sumK nv = S at *; go_enter Tryz.func207, Tryz.ntmps207; go_wp2; go_loop [3, 11] (fun v i => ∃ k : Nat, k ≤ m ∧ i = .int .i64 (k : Nat) ∧ v = .int .i64 (S k : Nat)) (fun _ i => m - (intOf i).toNat)
  case atStart => exact ⟨0, omg, rfl, by rw [hS0.out]; rfl⟩
  case round =>
    obtain ⟨k, hk, rfl, rfl⟩ := hrel
    by_cases hlt : k < m
    · have hc := hrow k hlt; have hs := hS k; have hnk := hn k hlt; have hmk := hmono k hk; clear hrow hS hC hmono hrd hn; generalize nv k = x at *; go_wp2; go_round
      case rel => exact ⟨k + 1, omg, by go_num, by rw [hs.out]; go_num⟩
      case measure => simp [intOf]; omega
    · have hkm : k = m := omg; subst hkm; have hg := fun w => grow_any (S k) h1 omg w
      go_wp2_with (go_at_call 253; (with_reducible refine (hg _).mono ?_); rintro e w1 ⟨g, c1, rfl, hown, hb1⟩); clear hg; go_loopw [6, 27] (fun v i wr => ∃ (j : Nat) (A2 : Option Addr) (c2 : Nat), j ≤ k ∧ i = .int .i64 (j : Nat) ∧ v = .slice A2 (S j) c2 ∧ Ow bv wr w.heap.size 5 A2 (S j) c2 (K j) ∧ Below w.heap.size w wr) (fun _ i _ => k - (intOf i).toNat)
      case atStart => exact ⟨0, some ⟨g, 0, none⟩, c1, omg, rfl, by rw [hS0.out], by rw [hS0.out, hC0.out]; exact hown, hb1⟩
      case round =>
        obtain ⟨j, A2, c2, hj, rfl, rfl, hown2, hbel⟩ := hrel; have hbs := hbel.size
        by_cases hlt2 : j < k
        · have hc : wr.cell? ⟨b, j, none⟩ = some (.slice (Av j) (nv j) (cv j)) := (hbel.cell (p := ⟨b, j, none⟩) hb).trans (hrow j hlt2); have hrj := (hrd j hlt2).below hbel nlr; have hs := hS j; have hnk := hn j hlt2; have hmk := hmono j hj; have hkL : Hid (K j ++ L j = K (j + 1)) := hC j; have hmk2 := hmono (j + 1) omg; clear hrow hS hC hmono hrd hn hown hb1; generalize nv j = x at *; generalize Av j = A3 at *; generalize cv j = c3 at *; go_wp2_with (at_builtin; refine qa6 rfl rfl qb4 qc2 (s := .tmp 31) (N := S (j + 1)) (L := K (j + 1)) rfl hown2 rfl (k := L j) hrj.rd hs.out.symm hkL.out uml omg omg ?_; intro A5 c5 w5 hown5 hg5 hat5 hb5); replace hb5 := qa0 (a := w) (B := w.heap.size) gwn hb5 szz; have hb5s := hb5.size; go_roundw
          case rel => exact ⟨j + 1, A5, c5, omg, by go_num, rfl, hown5, hb5⟩
          case measure => simp [intOf]; omega
        · have hjk : j = k := omg; subst hjk; clear hrow hS hC hmono hrd hn hown hb1; go_wp2; go_ret; exact ⟨A2, _, c2, rfl, hown2, hbel⟩
end Go.Proofs.YtpmkpckldnnigaaGreat
