/- Contracts of the reference of digest: texts of numbers. -/
import Derived.Test.YtaokboendpkjfaaRefDigA
import Derived.Test.YtaokboendpkjfaaDigA
import Derived.Laws.DeepStrings4
import Derived.Laws.Concat
namespace Go.Proofs.Ytaokboendpkjfaa
open Go.RowKit

theorem bit_nib (U i j : Nat) : bit U (4 * i + j) = U / 16 ^ i / 2 ^ j % 2 := by
  unfold bit
  rw [Nat.pow_add, ← Nat.div_div_eq_div_mul, Nat.pow_mul]
theorem nib_sum (U i : Nat) : 8 * bit U (4 * i + 3) + 4 * bit U (4 * i + 2) + 2 * bit U (4 * i + 1) + bit U (4 * i) = U / 16 ^ i % 16 := by
  have h0 := bit_nib U i 0
  rw [Nat.add_zero] at h0
  rw [h0, bit_nib U i 1, bit_nib U i 2, bit_nib U i 3]
  omega
theorem run_hexcut (w : World) (d : Nat) (h : d < 16) :
    (Instr.slice 9 (.string { data := #[48, 49, 50, 51, 52, 53, 54, 55, 56, 57, 97, 98, 99, 100, 101, 102] }) (some (.int .i64 (d : Nat))) (some (.int .i64 ((d : Nat) + 1))) none).run Try.prog w = .ok (.string ⟨[UInt8.ofNat (hexC d)].toArray⟩) w := by
  rw [run_slice_string_if (P := Try.prog) (w := w) 9 _ .i64 .i64 (d : Nat) ((d : Nat) + 1) (by kernel_rfl)]
  rw [if_pos ⟨by omega, by show (d : Int) + 1 ≤ ((16 : Nat) : Int); omega⟩, if_pos ⟨by omega, by omega⟩]
  have e1 : ((d : Nat) : Int).toNat = d := by omega
  have e2 : (((d : Nat) : Int) + 1).toNat = d + 1 := by omega
  rw [e1, e2]
  have : ∀ d : Fin 16, (ByteArray.mk #[48, 49, 50, 51, 52, 53, 54, 55, 56, 57, 97, 98, 99, 100, 101, 102]).extract d.val (d.val + 1) = ⟨[UInt8.ofNat (hexC d.val)].toArray⟩ := by decide +kernel
  rw [this ⟨d, h⟩]
theorem run_str_add (w : World) (a b : List UInt8) (h : a.length + b.length ≤ 1000000) : (Op.stringOp .add ⟨a.toArray⟩ ⟨b.toArray⟩).run Try.prog w = .ok (.string ⟨(a ++ b).toArray⟩) w := by
  rw [run_string_add_sum w _ _ (by
    have h0 : (ByteArray.mk a.toArray).size = a.length := by show a.toArray.size = _; simp
    have h1 : (ByteArray.mk b.toArray).size = b.length := by show b.toArray.size = _; simp
    omega), ByteArray.mk_append_mk]

set_option maxRecDepth 100000 in
theorem reftext_any (n : Int) (w : World) (h0 : -9223372036854775808 ≤ n) (h1 : n ≤ 9223372036854775807) :
    Calls Try.prog 41 #[.int .i64 n] w fun e w' => e = .returned (.string ⟨(textL (un n)).toArray⟩) ∧ Below w.heap.size w w' := by
  have hbits := fun w => allbits_any n w h0 h1
  unfold textL
  generalize un n = U at *
  go_enter Try.func41, Try.ntmps41
  go_wp2_with ((go_at_call 49; (with_reducible refine (hbits _).mono ?_); rintro e w1 ⟨A1, c1, rfl, hown1, hb1⟩); replace hown1 := hown1.rebase (base' := w.heap.size) (by first | omega | (simp; done) | (simp; omega)); replace hb1 := below_then' (a := w) (B := w.heap.size) (by (repeat' (first | (with_reducible exact Below.refl _ _) | (with_reducible assumption) | (with_reducible refine Below.drew ?_) | (with_reducible refine below_drewN ?_ _) | (with_reducible refine Below.alloc ?_ ?_ _) | (with_reducible refine Below.setCell ?_ ?_ _) | omega | (simp; done) | (simp; omega)))) hb1 (by first | omega | (simp; done) | (simp; omega)); have hb1s := hb1.size)
  obtain ⟨g, rfl, hg, hgl⟩ := hown1.addr (by omega)
  have hcell : ∀ k, k < 64 → Hid (w1.cell? ⟨g, k, none⟩ = some (.int .i64 (bit U k : Nat))) := fun k hk => hown1.tab_cell hk
  clear hown1 hbits
  go_loopw [4, 5] (fun s i wr => ∃ k q, k ≤ 16 ∧ i = .int .i64 (15 - (k : Nat)) ∧ s = .string ⟨(tabB k (fun i => hexC (U / 16 ^ (15 - i) % 16))).toArray⟩ ∧ wr = w1.drewN q) (fun _ i _ => (intOf i + 1).toNat)
  case atStart => exact ⟨0, 0, by omega, by go_num, rfl, rfl⟩
  case round =>
    obtain ⟨k, q, hk, rfl, rfl, rfl⟩ := hrel
    by_cases hk16 : k < 16
    · have c0 := (hcell (4 * (15 - k)) (by omega)).out
      have c1 := (hcell (4 * (15 - k) + 1) (by omega)).out
      have c2 := (hcell (4 * (15 - k) + 2) (by omega)).out
      have c3 := (hcell (4 * (15 - k) + 3) (by omega)).out
      have hs := Lib.hid (nib_sum U (15 - k))
      have b0 := bit_le U (4 * (15 - k))
      have b1 := bit_le U (4 * (15 - k) + 1)
      have b2 := bit_le U (4 * (15 - k) + 2)
      have b3 := bit_le U (4 * (15 - k) + 3)
      generalize bit U (4 * (15 - k)) = x0 at *
      generalize bit U (4 * (15 - k) + 1) = x1 at *
      generalize bit U (4 * (15 - k) + 2) = x2 at *
      generalize bit U (4 * (15 - k) + 3) = x3 at *
      clear hcell
      go_wp2
      go_quiet (fail)
      have hlen : (tabB k (fun i => hexC (U / 16 ^ (15 - i) % 16))).length = k := tabB_len _ _
      have hsucc := Lib.hid (tabB_succ k (fun i => hexC (U / 16 ^ (15 - i) % 16)))
      have hadd := fun W => run_str_add W (tabB k (fun i => hexC (U / 16 ^ (15 - i) % 16))) [UInt8.ofNat (hexC (U / 16 ^ (15 - k) % 16))] (by rw [hlen]; simp; omega)
      rw [hsucc.out] at hadd
      have hcut := fun W => run_hexcut W (U / 16 ^ (15 - k) % 16) (by omega)
      have hd : 8 * (x3 : Int) + 4 * (x2 : Int) + 2 * (x1 : Int) + (x0 : Int) = ((U / 16 ^ (15 - k) % 16 : Nat) : Int) := by have := hs.out; omega
      have hd16 : U / 16 ^ (15 - k) % 16 < 16 := by omega
      rw [hd]
      clear hd hs hsucc hlen
      generalize U / 16 ^ (15 - k) % 16 = d at *
      generalize hT : tabB k (fun i => hexC (U / 16 ^ (15 - i) % 16)) = T at *
      clear hT
      go_wp2
      go_roundw
      case rel => exact ⟨k + 1, q + nq, by omega, by go_num, rfl, rfl⟩
      case measure => simp [intOf]; omega
    · have hk9 : k = 16 := by omega
      subst hk9
      clear hcell
      go_wp2
      go_ret
      exact ⟨rfl, (by (repeat' (first | (with_reducible exact Below.refl _ _) | (with_reducible assumption) | (with_reducible refine Below.drew ?_) | (with_reducible refine below_drewN ?_ _) | (with_reducible refine Below.alloc ?_ ?_ _) | (with_reducible refine Below.setCell ?_ ?_ _) | omega | (simp; done) | (simp; omega))))⟩
end Go.Proofs.Ytaokboendpkjfaa
