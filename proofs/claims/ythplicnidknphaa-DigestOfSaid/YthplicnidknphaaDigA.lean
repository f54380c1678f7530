/- Contracts of package digest: Bytes, Text. -/
import Derived.Test.YthplicnidknphaaPlainDig
import Derived.Test.YthplicnidknphaaNumA
import Derived.Laws.BytesString
import Derived.Laws.IdiomStrings
namespace Go.Proofs.Ythplicnidknphaa
open Go.RowKit

theorem fnv_top (H : Nat) (_ : H < 18446744073709551616) : wrap64 (IntKind.u64.wrap ((H : Int) * 2) / 2) = ((H % 9223372036854775808 : Nat) : Int) := by
  rw [IntKind.wrap_u64]; unfold wrap64; omega
set_option maxRecDepth 100000 in
theorem dbytes_any (A : Option Addr) (n c : Nat) (l : List UInt8) (w : World) (hl : RB w A n l) (hn : n ≤ maxLen) :
    Calls Try.prog 101 #[.slice A n c] w fun e w' => e = .returned (.int .i64 ((fnv l % 9223372036854775808 : Nat) : Int)) ∧ w = w' := by
  unfold maxLen at hn
  have hlen := Lib.hid hl.1
  generalize hz : fnv l = Z at *
  have Hz := Lib.hid hz
  clear hz
  go_enter Try.func101, Try.ntmps101
  go_wp2
  go_loop [3, 8] (fun h i => ∃ k H, k ≤ n ∧ i = .int .i64 (k : Nat) ∧ h = .int .u64 (H : Nat) ∧ Hid (H = fnv (l.take k)) ∧ H < 18446744073709551616) (fun _ i => n - (intOf i).toNat)
  case atStart => exact ⟨0, 14695981039346656037, Nat.zero_le _, rfl, rfl, rfl, by omega⟩
  case round =>
    obtain ⟨k, H, hk, rfl, rfl, hH, hlt⟩ := hrel
    by_cases hkn : k < n
    · obtain ⟨b, o, rfl, _, hc⟩ := hl.at_ hkn
      have hstep := Lib.hid (fnv_take l k (by rw [hlen.out]; exact hkn))
      have hy := byteAt_lt l k
      generalize byteAt l k = y at *
      have hxor := bits_xor_u64_nat H y hlt (by omega)
      have hX : H ^^^ y < 18446744073709551616 := Nat.xor_lt_two_pow (n := 64) hlt (by omega)
      have hnext : Hid (1099511628211 * (H ^^^ y) % 18446744073709551616 = fnv (l.take (k + 1))) := by
        show _ = _
        rw [hstep.out, hH.out]; rfl
      generalize H ^^^ y = X at *
      have hmul : IntKind.u64.wrap ((X : Int) * 1099511628211) = ((1099511628211 * X % 18446744073709551616 : Nat) : Int) := by rw [IntKind.wrap_u64]; omega
      have hlt2 : 1099511628211 * X % 18446744073709551616 < 18446744073709551616 := by omega
      generalize 1099511628211 * X % 18446744073709551616 = Y at *
      go_wp2
      go_round
      case rel => exact ⟨k + 1, Y, by omega, by go_num, by go_num, hnext, hlt2⟩
      case measure => simp [intOf]; omega
    · have hkk : k = n := by omega
      have hHZ : Hid (H = Z) := by
        show _ = _
        rw [hH.out, ← Hz.out, hkk, ← hlen.out, List.take_length]
      clear hkk
      go_wp2
      go_ret
      rw [← hHZ.out]
      exact ⟨ret_int (fnv_top H hlt), rfl⟩

theorem hex_get (k : Nat) (h : k < 16) : (#[48, 49, 50, 51, 52, 53, 54, 55, 56, 57, 97, 98, 99, 100, 101, 102] : Array UInt8)[k]?.map (·.toNat) = some (hexC k) := by
  have : ∀ k : Fin 16, (#[48, 49, 50, 51, 52, 53, 54, 55, 56, 57, 97, 98, 99, 100, 101, 102] : Array UInt8)[k.val]?.map (·.toNat) = some (hexC k.val) := by decide
  exact this ⟨k, h⟩
def hexS : ByteArray := ⟨#[48, 49, 50, 51, 52, 53, 54, 55, 56, 57, 97, 98, 99, 100, 101, 102]⟩
theorem run_hex (w : World) (k : IntKind) (d : Int) (h0 : 0 ≤ d) (h1 : d < 16) :
    (Instr.index 9 (.string { data := #[48, 49, 50, 51, 52, 53, 54, 55, 56, 57, 97, 98, 99, 100, 101, 102] }) (.int k d)).run Try.prog w = .ok (.int .u8 (hexC d.toNat : Nat)) w := by
  refine (run_index_string (P := Try.prog) (w := w) 9 hexS k d (by kernel_rfl)).trans ?_
  rw [dif_pos ⟨h0, by exact h1⟩]
  have hk := hex_get d.toNat (by omega)
  rw [Array.getElem?_eq_getElem (by show d.toNat < 16; omega), Option.map_some] at hk
  injection hk with hk
  rw [← hk]
  rfl

set_option maxRecDepth 100000 in
theorem text_any (n : Int) (w : World) : Calls Try.prog 100 #[.int .i64 n] w fun e w' => e = .returned (.string ⟨(textL (un n)).toArray⟩) ∧ Below w.heap.size w w' := by
  have hw := wrap_un n
  have hu := un_lt n
  generalize un n = U at *
  have hmk : ∀ W : World, (Instr.makeSlice 27 (.int .i64 16) (.int .i64 16)).run Try.prog W = .ok (.slice (some ⟨W.heap.size, 0, none⟩) 16 16) (W.alloc (.cells (madeCells (Value.int .u8 0).cells 16) 5)) := run_make_one elemU8 16 (by omega) (by omega)
  have hown0 : Ow bv (w.alloc (.cells (madeCells (Value.int .u8 0).cells 16) 5)) w.heap.size 5 (some ⟨w.heap.size, 0, none⟩) 16 16 (tabB 16 (fun i => if 16 ≤ i + 0 then hexC (U / 16 ^ (15 - i) % 16) else 0)) := by
    have := Ow.made (enc := bv) w 5 0 (.int .u8 0) 16 rfl (by decide)
    rw [tabB_zero] at this
    rwa [tabB_congr (g := fun _ => 0)]
    intro i hi
    rw [if_neg (by omega)]
  have hb0 : Below w.heap.size w (w.alloc (.cells (madeCells (Value.int .u8 0).cells 16) 5)) := (by (repeat' (first | (with_reducible exact Below.refl _ _) | (with_reducible assumption) | (with_reducible refine Below.drew ?_) | (with_reducible refine below_drewN ?_ _) | (with_reducible refine Below.alloc ?_ ?_ _) | (with_reducible refine Below.setCell ?_ ?_ _) | omega | (simp; done) | (simp; omega))))
  go_enter Try.func100, Try.ntmps100
  go_wp2
  go_loopw [4, 5] (fun uu kk wr => ∃ k u, k ≤ 16 ∧ kk = .int .i64 (16 - (k : Nat)) ∧ uu = .int .u64 (u : Nat) ∧ Hid (u = U / 16 ^ k) ∧ u < 18446744073709551616 ∧ Ow bv wr w.heap.size 5 (some ⟨w.heap.size, 0, none⟩) 16 16 (tabB 16 (fun i => if 16 ≤ i + k then hexC (U / 16 ^ (15 - i) % 16) else 0)) ∧ Below w.heap.size w wr) (fun _ kk _ => (intOf kk).toNat)
  case atStart => exact ⟨0, U, by omega, by go_num, rfl, by show U = U / 16 ^ 0; omega, hu, hown0, hb0⟩
  case round =>
    obtain ⟨k, u, hk, rfl, rfl, hU, hu, hown, hb⟩ := hrel
    have hbs := hb.size
    by_cases hk8 : k < 16
    · have hfree := hown.free (16 - k - 1)
      have hset := fun v hv => Lib.hid (hown.tabB_set (f' := fun i => if 16 ≤ i + (k + 1) then hexC (U / 16 ^ (15 - i) % 16) else 0) (16 - k - 1) (hexC (u % 16)) v (by omega) (by have := hexC_lt (d := u % 16) (by omega); omega) hv (fun i hi => by
        by_cases h1 : i = 16 - k - 1
        · subst h1; simp only [if_true]; rw [if_pos (by omega), show 15 - (16 - k - 1) = k from by omega, hU.out]
        · rw [if_neg h1]
          by_cases h2 : 16 ≤ i + k
          · rw [if_pos h2, if_pos (by omega)]
          · rw [if_neg h2, if_neg (by omega)]))
      have hU2 : Hid (u / 16 = U / 16 ^ (k + 1)) := by
        show _ = _
        rw [hU.out, Nat.div_div_eq_div_mul, Nat.pow_succ]
      obtain ⟨b1, o1, hA, _, hc⟩ := hown.rd.rb.at_ (k := 16 - k - 1) (by omega)
      injection hA with hA
      injection hA with h1 h2 _
      subst h1 h2
      rw [Nat.zero_add] at hc
      have hix := fun W => run_hex W .u64 ((u : Int) % 16) (by omega) (by omega)
      have hcl := hexC_lt (d := u % 16) (by omega)
      rw [show ((u : Int) % 16).toNat = u % 16 from by omega] at hix
      generalize hexC (u % 16) = y at *
      clear hown
      go_wp2
      go_roundw
      case rel => exact ⟨k + 1, u / 16, by omega, by go_num, by go_num, hU2, by omega, (hset _ (by first | rfl | (congr 1; omega))).out, (by (repeat' (first | (with_reducible exact Below.refl _ _) | (with_reducible assumption) | (with_reducible refine Below.drew ?_) | (with_reducible refine below_drewN ?_ _) | (with_reducible refine Below.alloc ?_ ?_ _) | (with_reducible refine Below.setCell ?_ ?_ _) | omega | (simp; done) | (simp; omega))))⟩
      case measure => simp [intOf]; omega
    · have hk9 : k = 16 := by omega
      subst hk9
      have hl : tabB 16 (fun i => if 16 ≤ i + 16 then hexC (U / 16 ^ (15 - i) % 16) else 0) = textL U := tabB_congr fun i hi => by rw [if_pos (by omega)]
      rw [hl] at hown
      have hconv : (convert 27 9 (.slice (some ⟨w.heap.size, 0, none⟩) 16 16)).run Try.prog wr = .ok (.string ⟨(textL U).toArray⟩) wr := by
        have h := run_convert_bytes_back (P := Try.prog) wr 27 9 5 ⟨w.heap.size, 0, none⟩ 16 (textL U) Try.underlying27 Try.underlying5 (by kernel_rfl) (fun j hj => by
          rw [textL_len] at hj
          obtain ⟨b1, o1, hA, _, hc⟩ := hown.rd.rb.at_ (k := j) hj
          injection hA with hA
          injection hA with h1 h2 _
          subst h1 h2
          rw [Nat.zero_add] at hc
          rw [show (⟨w.heap.size, 0, none⟩ : Addr).add j = ⟨w.heap.size, j, none⟩ from by simp [Addr.add]; try omega, hc]
          unfold byteAt
          rw [List.getD_eq_getElem?_getD, List.getElem?_eq_getElem (by rw [textL_len]; exact hj)]
          rfl)
        rwa [textL_len] at h
      go_wp2
      go_ret
      exact ⟨rfl, hb⟩
end Go.Proofs.Ythplicnidknphaa
