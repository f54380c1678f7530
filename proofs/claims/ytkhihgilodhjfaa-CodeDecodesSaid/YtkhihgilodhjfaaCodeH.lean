/- The contract of Concat of four slices of bytes. -/
import Derived.Test.YtkhihgilodhjfaaCodeG
namespace Go.Proofs.Ytkhihgilodhjfaa
open Go.RowKit

def sumK (f : Nat → Nat) : Nat → Nat
  | 0 => 0
  | k + 1 => sumK f k + f k
def catK (L : Nat → List UInt8) : Nat → List UInt8
  | 0 => []
  | k + 1 => catK L k ++ L k
theorem sumK_le (f : Nat → Nat) (B : Nat) : ∀ k, (∀ i, i < k → f i ≤ B) → sumK f k ≤ B * k := by
  intro k
  induction k with
  | zero => intro _; simp [sumK]
  | succ k ih =>
    intro h
    have h1 := ih (fun i hi => h i (by omega))
    have h2 := h k (by omega)
    show sumK f k + f k ≤ B * (k + 1)
    rw [Nat.mul_succ]; omega
theorem sumK_mono (f : Nat → Nat) {j k : Nat} (h : j ≤ k) : sumK f j ≤ sumK f k := by
  induction k with
  | zero => rw [show j = 0 by omega]; exact Nat.le_refl _
  | succ k ih =>
    by_cases e : j = k + 1
    · rw [e]; exact Nat.le_refl _
    · exact Nat.le_trans (ih (by omega)) (Nat.le_add_right _ _)
theorem catK_len (L : Nat → List UInt8) (f : Nat → Nat) (k : Nat) (h : ∀ i, i < k → (L i).length = f i) : (catK L k).length = sumK f k := by
  induction k with
  | zero => rfl
  | succ k ih => show (catK L k ++ L k).length = _; rw [List.length_append, ih (fun i hi => h i (by omega)), h k (by omega)]; rfl

set_option maxHeartbeats 1000000 in
theorem concat_any (b m c : Nat) (Av : Nat → Option Addr) (nv cv : Nat → Nat) (L : Nat → List UInt8) (w : World) (hm : m ≤ 10) (hb : b < w.heap.size)
    (hrow : ∀ i, i < m → w.cell? ⟨b, i, none⟩ = some (.slice (Av i) (nv i) (cv i))) (hrd : ∀ i, i < m → RB w (Av i) (nv i) (L i)) (hn : ∀ i, i < m → nv i ≤ 1000) (h1 : 0 < sumK nv m) :
    Calls Try.prog 55 #[.slice (some ⟨b, 0, none⟩) m c] w fun e w' => ∃ A N c, e = .returned (.slice A N c) ∧ OB w' w.heap.size 5 A N c (catK L m) ∧ Below w.heap.size w w' := by
  have hle := sumK_le nv 1000 m hn
  have hS : ∀ k, Hid (sumK nv (k + 1) = sumK nv k + nv k) := fun k => rfl
  have hmono := fun k (h : k ≤ m) => sumK_mono nv h
  have hcl : ∀ k, k ≤ m → (catK L k).length = sumK nv k := fun k hk => catK_len L nv k (fun i hi => (hrd i (by omega)).1)
  have Hcl := Lib.hid hcl
  clear hcl
  have hC : ∀ k, Hid (catK L k ++ L k = catK L (k + 1)) := fun k => rfl
  have hS0 : Hid (sumK nv 0 = 0) := rfl
  have hC0 : Hid (catK L 0 = []) := rfl
  generalize catK L = K at *
  generalize sumK nv = S at *
  go_enter Try.func55, Try.ntmps55
  go_wp2
  go_loop [3, 11] (fun v i => ∃ k : Nat, k ≤ m ∧ i = .int .i64 (k : Nat) ∧ v = .int .i64 (S k : Nat)) (fun _ i => m - (intOf i).toNat)
  case atStart => exact ⟨0, by omega, rfl, by rw [hS0.out]; rfl⟩
  case round =>
    obtain ⟨k, hk, rfl, rfl⟩ := hrel
    by_cases hlt : k < m
    · have hc := hrow k hlt
      have hs := hS k
      have hnk := hn k hlt
      have hmk := hmono k hk
      clear hrow hS hC hmono hrd hn
      generalize nv k = x at *
      go_wp2
      go_round
      case rel => exact ⟨k + 1, by omega, by go_num, by rw [hs.out]; go_num⟩
      case measure => simp [intOf]; omega
    · have hkm : k = m := by omega
      subst hkm
      have hg := fun w => grow_any (S k) h1 (by omega) w
      go_wp2_with (go_at_call 82; (with_reducible refine (hg _).mono ?_); rintro e w1 ⟨g, c1, rfl, hown, hb1⟩)
      clear hg
      go_loopw [6, 27] (fun v i wr => ∃ (j : Nat) (A2 : Option Addr) (c2 : Nat), j ≤ k ∧ i = .int .i64 (j : Nat) ∧ v = .slice A2 (S j) c2 ∧ Ow bv wr w.heap.size 5 A2 (S j) c2 (K j) ∧ Below w.heap.size w wr) (fun _ i _ => k - (intOf i).toNat)
      case atStart => exact ⟨0, some ⟨g, 0, none⟩, c1, by omega, rfl, by rw [hS0.out], by rw [hS0.out, hC0.out]; exact hown, hb1⟩
      case round =>
        obtain ⟨j, A2, c2, hj, rfl, rfl, hown2, hbel⟩ := hrel
        have hbs := hbel.size
        by_cases hlt2 : j < k
        · have hc : wr.cell? ⟨b, j, none⟩ = some (.slice (Av j) (nv j) (cv j)) := (hbel.cell (p := ⟨b, j, none⟩) hb).trans (hrow j hlt2)
          have hrj := (hrd j hlt2).below hbel (Nat.le_refl _)
          have hs := hS j
          have hnk := hn j hlt2
          have hmk := hmono j hj
          have hkL : Hid (K j ++ L j = K (j + 1)) := hC j
          have hmk2 := hmono (j + 1) (by omega)
          clear hrow hS hC hmono hrd hn hown hb1
          generalize nv j = x at *
          generalize Av j = A3 at *
          generalize cv j = c3 at *
          go_wp2_with (at_builtin; refine wpList_app rfl rfl elemU8 bv_one (s := .tmp 31) (N := S (j + 1)) (L := K (j + 1)) rfl hown2 rfl (k := L j) hrj.rd hs.out.symm hkL.out (by unfold maxLen; omega) (by omega) (by omega) ?_; intro A5 c5 w5 hown5 hg5 hat5 hb5)
          replace hb5 := below_then' (a := w) (B := w.heap.size) (by (repeat' (first | (with_reducible exact Below.refl _ _) | (with_reducible assumption) | (with_reducible refine Below.drew ?_) | (with_reducible refine below_drewN ?_ _) | (with_reducible refine Below.alloc ?_ ?_ _) | (with_reducible refine Below.setCell ?_ ?_ _) | omega | (simp; done) | (simp; omega)))) hb5 (by first | omega | (simp; done) | (simp; omega)); have hb5s := hb5.size
          go_roundw
          case rel => exact ⟨j + 1, A5, c5, by omega, by go_num, rfl, hown5, hb5⟩
          case measure => simp [intOf]; omega
        · have hjk : j = k := by omega
          subst hjk
          clear hrow hS hC hmono hrd hn hown hb1
          go_wp2
          go_ret
          exact ⟨A2, _, c2, rfl, hown2, hbel⟩
end Go.Proofs.Ytkhihgilodhjfaa
