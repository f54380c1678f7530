/- Contracts of package crc. -/
import Derived.Test.YtalmdccgpigppaaBase
import Derived.Test.YtalmdccgpigppaaPlainA
namespace Go.Proofs.Ytalmdccgpigppaa
open Go.RowKit

theorem step_any (c b : Nat) (w : World) (hc : c < 4294967296) (hb : b < 256) :
    Calls Try.prog 113 #[.int .u32 c, .int .u8 b] w fun e w' => e = .returned (.int .u32 (crcStep c b)) ∧ w = w' := by
  have hx := u32_xor c b hc (by omega)
  have hlt : c ^^^ b < 4294967296 := u32_lt_xor hc (by omega)
  have hd : crcStep c b = crcBits 8 (c ^^^ b) := rfl
  generalize hz : crcStep c b = z at *
  generalize hy : c ^^^ b = y at *
  have Hd := Lib.hid hd; clear hd hz hy
  go_enter Try.func113, Try.ntmps113
  go_wp2
  go_loop [0, 9] (fun c i => ∃ k : Nat, ∃ x : Nat, k ≤ 8 ∧ x < 4294967296 ∧ Hid (z = crcBits (8 - k) x) ∧ i = .int .i64 k ∧ c = .int .u32 x) (fun _ i => 8 - (intOf i).toNat)
  case atStart => exact ⟨0, y, Nat.zero_le _, hlt, Hd, rfl, rfl⟩
  case round =>
    obtain ⟨k, x, hk, hx, HX, rfl, rfl⟩ := hrel
    have ha := u32_and_one x hx
    have ht := u32_turn x hx
    have hb := @crcBit_lt x hx
    by_cases hlt : k < 8
    · have HB : Hid (crcBits (8 - k) x = crcBits (8 - (k + 1)) (crcBit x)) := by rw [show 8 - k = (8 - (k + 1)) + 1 from by omega]; rfl
      by_cases h1 : x % 2 = 1
      · have HC : Hid (crcBit x = x / 2 ^^^ 3988292384) := if_pos h1
        have h2 : (((x % 2 : Nat) : Int) == 1) = true := by rw [beq_iff_eq]; omega
        clear h1
        go_wp2
        go_round
        case rel => exact ⟨k + 1, _, by omega, hb, HX.out.trans HB.out, by go_num, by rw [HC.out]⟩
        case measure => simp [intOf]; omega
      · have HC : Hid (crcBit x = x / 2) := if_neg h1
        have h2 : (((x % 2 : Nat) : Int) == 1) = false := by rw [beq_eq_false_iff_ne]; omega
        clear h1
        go_wp2
        go_round
        case rel => exact ⟨k + 1, _, by omega, hb, HX.out.trans HB.out, by go_num, by rw [HC.out]; rfl⟩
        case measure => simp [intOf]; omega
    · go_wp2
      go_ret
      refine ⟨?_, rfl⟩
      have e : 8 - k = 0 := by omega
      rw [HX.out, e]; rfl
theorem crcFold_take (c : Nat) (l : List UInt8) (k : Nat) (h : k < l.length) : crcFold c (l.take (k + 1)) = crcStep (crcFold c (l.take k)) (byteAt l k) := by
  rw [take_succ_byte l k h, crcFold_snoc]; rfl

theorem more_any (s : Nat) (a : Option Addr) (n c : Nat) (l : List UInt8) (w : World) (hs : s < 4294967296) (hl : RB w a n l) (hn : n ≤ maxLen) :
    Calls Try.prog 85 #[.int .u32 s, .slice a n c] w fun e w' => e = .returned (.int .u32 (crcMore s l)) ∧ w = w' := by
  unfold maxLen at hn
  have hd : crcMore s l = 4294967295 - crcFold (4294967295 - s) l := rfl
  have hlen : l.length = n := hl.1
  generalize hz : crcMore s l = z at *
  have HL := Lib.hid hlen; clear hlen
  have Hd := Lib.hid hd; clear hd hz
  have hsg : IntKind.u32.signed = false := rfl
  have hnot := u32_not s hs
  go_enter Try.func85, Try.ntmps85
  go_wp2
  go_loop [5, 12] (fun c i => ∃ k : Nat, ∃ x : Nat, k ≤ n ∧ x < 4294967296 ∧ Hid (x = crcFold (4294967295 - s) (l.take k)) ∧ i = .int .i64 k ∧ c = .int .u32 x) (fun _ i => n - (intOf i).toNat)
  case atStart => exact ⟨0, 4294967295 - s, Nat.zero_le _, by omega, rfl, rfl, rfl⟩
  case round =>
    obtain ⟨k, x, hk, hx, HX, rfl, rfl⟩ := hrel
    clear hnot
    by_cases hlt : k < n
    · have HF : Hid (crcFold (4294967295 - s) (l.take (k + 1)) = crcStep x (byteAt l k)) := by rw [HX.out]; exact crcFold_take _ _ _ (by rw [HL.out]; exact hlt)
      obtain ⟨b, o, rfl, hb, hc⟩ := hl.at_ hlt
      have h8 := byteAt_lt l k
      have hy := crcStep_lt hx h8
      go_wp2_with (go_at_call 113; (with_reducible refine (step_any _ _ _ hx h8).mono ?_); rintro e w' ⟨rfl, rfl⟩)
      go_round
      case rel => exact ⟨k + 1, _, by omega, hy, HF.out.symm, by go_num, rfl⟩
      case measure => simp [intOf]; omega
    · have hnot := u32_not x hx
      go_wp2
      go_ret
      exact ⟨ret_nat (by rw [Hd.out, HX.out, List.take_of_length_le (by rw [HL.out]; omega)]), rfl⟩

theorem more_zero (a : Option Addr) (n c : Nat) (l : List UInt8) (w : World) (hl : RB w a n l) (hn : n ≤ maxLen) :
    Calls Try.prog 85 #[.int .u32 0, .slice a n c] w fun e w' => e = .returned (.int .u32 (crcMore 0 l)) ∧ w = w' := more_any 0 a n c l w (by omega) hl hn

/-- A row of slices, each of which reads as a list of bytes. -/
def RBs (w : World) (a : Option Addr) (n : Nat) (ls : List (List UInt8)) : Prop :=
  ls.length = n ∧ ∃ V : Nat → Option Addr × Nat × Nat, Row w a ls.length (fun i => .slice (V i).1 (V i).2.1 (V i).2.2) ∧ ∀ i, i < ls.length → RB w (V i).1 (V i).2.1 (ls.getD i []) ∧ (V i).2.1 ≤ maxLen

theorem sum_any (a : Option Addr) (n c : Nat) (ls : List (List UInt8)) (w : World) (hl : RBs w a n ls) (hm : n ≤ maxLen) :
    Calls Try.prog 54 #[.slice a n c] w fun e w' => e = .returned (.int .u32 (crcSum ls)) ∧ w = w' := by
  unfold maxLen at hm
  obtain ⟨hn, V, hrow, hV⟩ := hl
  generalize hz : crcSum ls = z at *
  have Hn := Lib.hid hn
  rw [hn] at hrow
  clear hn
  have Hz := Lib.hid hz; clear hz
  go_enter Try.func54, Try.ntmps54
  go_wp2
  go_loop [3, 8] (fun c i => ∃ k : Nat, ∃ x : Nat, k ≤ n ∧ x < 4294967296 ∧ Hid (x = crcSum (ls.take k)) ∧ i = .int .i64 k ∧ c = .int .u32 x) (fun _ i => n - (intOf i).toNat)
  case atStart => exact ⟨0, 0, Nat.zero_le _, by omega, rfl, rfl, rfl⟩
  case round =>
    obtain ⟨k, x, hk, hx, HX, rfl, rfl⟩ := hrel
    by_cases hlt : k < n
    · have HF : Hid (crcSum (ls.take (k + 1)) = crcMore x (ls.getD k [])) := by rw [HX.out]; exact crcSum_take _ _ (by rw [Hn.out]; exact hlt)
      obtain ⟨b, o, rfl, hb, hc⟩ := hrow.at_ hlt
      obtain ⟨hr, hm2⟩ := hV k (by rw [Hn.out]; exact hlt)
      have hy := crcMore_lt x (ls.getD k [])
      generalize ls.getD k [] = lk at *
      go_wp2_with (go_at_call 85; (with_reducible refine (more_any _ _ _ _ lk _ hx hr hm2).mono ?_); rintro e w' ⟨rfl, rfl⟩)
      go_round
      case rel => exact ⟨k + 1, _, by omega, hy, HF.out.symm, by go_num, rfl⟩
      case measure => simp [intOf]; omega
    · go_wp2
      go_ret
      exact ⟨ret_nat (by rw [HX.out, ← Hz.out, List.take_of_length_le (by rw [Hn.out]; omega)]), rfl⟩
theorem RBs.one {w : World} {g : Nat} {t : TypeId} {fr : Nat × Nat} {A : Option Addr} {n c : Nat} {l : List UInt8} (hg : w.heap[g]? = some (.cells #[.slice A n c] t fr)) (h : RB w A n l) (hn : n ≤ maxLen) :
    RBs w (some ⟨g, 0, none⟩) 1 [l] :=
  ⟨rfl, fun _ => (A, n, c), Row.of_block hg 0 (fun i hi => by
    have : i = 0 := by simp at hi; exact hi
    subst this; rfl), fun i hi => by
    have : i = 0 := by simp at hi; exact hi
    subst this; exact ⟨h, hn⟩⟩
theorem RBs.two {w : World} {g : Nat} {t : TypeId} {fr : Nat × Nat} {A B : Option Addr} {n c m d : Nat} {l k : List UInt8} (hg : w.heap[g]? = some (.cells #[.slice A n c, .slice B m d] t fr)) (h : RB w A n l) (hn : n ≤ maxLen) (h' : RB w B m k) (hm : m ≤ maxLen) :
    RBs w (some ⟨g, 0, none⟩) 2 [l, k] :=
  ⟨rfl, fun i => if i = 0 then (A, n, c) else (B, m, d), Row.of_block hg 0 (fun i hi => by
    rcases (by simp at hi; omega : i = 0 ∨ i = 1) with rfl | rfl <;> rfl), fun i hi => by
    rcases (by simp at hi; omega : i = 0 ∨ i = 1) with rfl | rfl
    · exact ⟨h, hn⟩
    · exact ⟨h', hm⟩⟩
end Go.Proofs.Ytalmdccgpigppaa
