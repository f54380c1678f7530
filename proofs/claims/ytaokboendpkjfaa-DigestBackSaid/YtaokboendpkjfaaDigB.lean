/- Contracts of package digest: Read. -/
import Derived.Test.YtaokboendpkjfaaDigA
import Derived.Laws.RangeAny
namespace Go.Proofs.Ytaokboendpkjfaa
open Go.RowKit

def valI (c : Nat) : Int := if hexD c < 16 then (hexD c : Int) else -1
theorem dvalue_any (c : Nat) (w : World) (hc : c ≤ 2147483647) : Calls Try.prog 57 #[.int .i32 (c : Nat)] w fun e w' => e = .returned (.int .i64 (valI c)) ∧ w = w' := by
  have hcase : (48 ≤ c ∧ c ≤ 57 ∧ valI c = (c : Int) - 48) ∨ (97 ≤ c ∧ c ≤ 102 ∧ valI c = (c : Int) - 97 + 10) ∨ (c < 48 ∧ valI c = -1) ∨ (57 < c ∧ c < 97 ∧ valI c = -1) ∨ (102 < c ∧ valI c = -1) := by
    unfold valI hexD
    by_cases h1 : 48 ≤ c ∧ c ≤ 57
    · rw [if_pos h1, if_pos (by omega)]; omega
    · rw [if_neg h1]
      by_cases h2 : 97 ≤ c ∧ c ≤ 102
      · rw [if_pos h2, if_pos (by omega)]; omega
      · rw [if_neg h2, if_neg (by omega)]; omega
  generalize valI c = v at *
  rcases hcase with ⟨h1, h2, rfl⟩ | ⟨h1, h2, rfl⟩ | ⟨h1, rfl⟩ | ⟨h1, h2, rfl⟩ | ⟨h1, rfl⟩
  all_goals
    go_enter Try.func57, Try.ntmps57
    go_wp2
    go_ret
    exact ⟨rfl, rfl⟩

theorem dread_short (s : ByteArray) (w : World) (h : s.size < 16) : Calls Try.prog 38 #[.string s] w fun e w' => e = .returned (.tuple #[.int .i64 0, .int .i64 10]) ∧ w = w' := by
  have h1 : decide ((s.size : Int) < 16) = true := by simp; omega
  go_enter Try.func38, Try.ntmps38
  go_wp2
  go_ret2
  exact ⟨rfl, rfl⟩
theorem dread_long (s : ByteArray) (w : World) (h : 16 < s.size) (hs : s.size ≤ maxLen) : Calls Try.prog 38 #[.string s] w fun e w' => e = .returned (.tuple #[.int .i64 0, .int .i64 12]) ∧ w = w' := by
  unfold maxLen at hs
  have h1 : decide ((s.size : Int) < 16) = false := by simp; omega
  have h2 : decide ((16 : Int) < s.size) = true := by simp; omega
  go_enter Try.func38, Try.ntmps38
  go_wp2
  go_ret2
  exact ⟨rfl, rfl⟩

theorem below_iter (w : World) (s : ByteArray) (k : Nat) : Below w.heap.size w (w.iter s k) := by
  unfold World.iter; exact (by (repeat' (first | (with_reducible exact Below.refl _ _) | (with_reducible assumption) | (with_reducible refine Below.drew ?_) | (with_reducible refine below_drewN ?_ _) | (with_reducible refine Below.alloc ?_ ?_ _) | (with_reducible refine Below.setCell ?_ ?_ _) | omega | (simp; done) | (simp; omega))))
theorem byte_get (s : ByteArray) (k : Nat) (h : k < s.size) : (s[k]'h).toNat = byteAt s.data.toList k := by
  unfold byteAt
  rw [List.getD_eq_getElem?_getD, List.getElem?_eq_getElem (by simpa using h)]
  rfl

theorem decode_val (s : ByteArray) (k : Nat) (h : k < s.size) :
    (hexD (byteAt s.data.toList k) < 16 ∧ Utf8.decode s k = (byteAt s.data.toList k, 1)) ∨ (¬ hexD (byteAt s.data.toList k) < 16 ∧ valI (Utf8.decode s k).1 = -1) := by
  rw [← byte_get s k h]
  by_cases ha : (s[k]'h).toNat < 128
  · rw [decode_ascii s k h ha]
    by_cases h2 : hexD (s[k]'h).toNat < 16
    · exact .inl ⟨h2, rfl⟩
    · exact .inr ⟨h2, by unfold valI; rw [if_neg h2]⟩
  · have hd := (decode_high s k h (by omega)).1
    have hx : ∀ c, 128 ≤ c → hexD c = 16 := fun c hc => by unfold hexD; rw [if_neg (by omega), if_neg (by omega)]
    refine .inr ⟨by rw [hx _ (by omega)]; omega, ?_⟩
    unfold valI
    rw [hx _ hd, if_neg (by omega)]

set_option maxRecDepth 100000 in
theorem dread_any (s : ByteArray) (w : World) (h : s.size = 16) :
    Calls Try.prog 38 #[.string s] w fun e w' => e = .returned (.tuple #[.int .i64 (if hexOk s.data.toList then sg (hexN s.data.toList) else 0), .int .i64 (if hexOk s.data.toList then 0 else 11)]) ∧ Below w.heap.size w w' := by
  have hl : s.data.toList.length = 16 := by simpa using h
  have hR : hexOk s.data.toList = true → (if hexOk s.data.toList then sg (hexN s.data.toList) else 0) = wrap64 (hexN s.data.toList : Nat) := fun h => by
    have := hexN_lt _ h
    rw [hl] at this
    rw [if_pos h]; unfold wrap64 sg; split <;> omega
  have hR2 : hexOk s.data.toList = false → (if hexOk s.data.toList then sg (hexN s.data.toList) else 0) = 0 := fun h => by rw [h]; rfl
  have hE : hexOk s.data.toList = true → (if hexOk s.data.toList then (0 : Int) else 11) = 0 := fun h => by rw [if_pos h]
  have hE2 : hexOk s.data.toList = false → (if hexOk s.data.toList then (0 : Int) else 11) = 11 := fun h => by rw [h]; rfl
  have hdec := fun k hk => decode_val s k hk
  generalize (if hexOk s.data.toList then sg (hexN s.data.toList) else 0) = R at *
  generalize (if hexOk s.data.toList then (0 : Int) else 11) = E at *
  generalize s.data.toList = l at *
  have h1 : decide ((s.size : Int) < 16) = false := by simp; omega
  have h2 : decide ((16 : Int) < s.size) = false := by simp; omega
  go_enter Try.func38, Try.ntmps38
  go_wp2
  go_loopw [4] (fun u wr => ∃ k U, k ≤ 16 ∧ wr = w.iter s k ∧ u = .int .u64 (U : Nat) ∧ Hid (U = hexN (l.take k) ∧ hexOk (l.take k) = true)) (fun _ wr => 16 - wr.iterPos w.heap.size)
  case atStart => exact ⟨0, 0, by omega, rfl, rfl, by constructor <;> rfl⟩
  case round =>
    obtain ⟨k, U, hk, rfl, rfl, hU⟩ := hrel
    by_cases hk16 : k < 16
    · have hnx : ∀ ty, (Instr.next (.pointer (some ⟨w.heap.size, 0, none⟩)) true ty).run Try.prog (w.iter s k) = _ := fun ty => run_next_any w s k ty (by omega)
      have hle := decode_le s k
      have hUlt : U < 16 ^ k := by
        have := hexN_lt _ hU.out.2
        rwa [← hU.out.1, List.length_take, Nat.min_eq_left (by omega)] at this
      have hU15 : U < 1152921504606846976 := Nat.lt_of_lt_of_le hUlt (show 16 ^ k ≤ 16 ^ 15 from Nat.pow_le_pow_right (by omega) (by omega))
      rcases hdec k (by omega) with ⟨hd, he⟩ | ⟨hd, he⟩
      · have hv : valI (Utf8.decode s k).1 = ((hexD (byteAt l k) : Nat) : Int) := by rw [he]; unfold valI; rw [if_pos hd]
        have hval := fun w => dvalue_any (Utf8.decode s k).1 w hle
        rw [hv] at hval
        have hw' : (Utf8.decode s k).2 = 1 := by rw [he]
        rw [hw'] at hnx
        have hnext : Hid (16 * U + hexD (byteAt l k) = hexN (l.take (k + 1)) ∧ hexOk (l.take (k + 1)) = true) := by
          refine ⟨by rw [hexN_take l k (by omega), ← hU.out.1], ?_⟩
          have ho := hU.out.2
          unfold hexOk at ho ⊢
          rw [take_succ_byte l k (by omega), List.all_append, ho]
          simpa [byteAt] using hd
        generalize hexD (byteAt l k) = d at *
        generalize (Utf8.decode s k).1 = c at *
        have e1 : IntKind.u64.wrap (16 * (U : Int)) = 16 * U := by rw [IntKind.wrap_u64]; omega
        have e2 : IntKind.u64.wrap (d : Int) = d := by rw [IntKind.wrap_u64]; omega
        have e3 : IntKind.u64.wrap (16 * (U : Int) + d) = 16 * U + d := by rw [IntKind.wrap_u64]; omega
        clear hdec hv hw' he
        go_wp2_with (go_at_call 57; (with_reducible refine (hval _).mono ?_); rintro e w2 ⟨rfl, rfl⟩)
        go_roundw
        case rel => exact ⟨k + 1, 16 * U + d, by omega, rfl, by go_num, hnext⟩
        case measure => simp; omega
      · have hbad : hexOk l = false := by
          cases hb : hexOk l with
          | false => rfl
          | true => exact absurd (hexOk_at hb k (by omega)) hd
        have hval := fun w => dvalue_any (Utf8.decode s k).1 w hle
        rw [he] at hval
        have er := hR2 hbad
        have ee := hE2 hbad
        clear hR hR2 hE hE2
        subst er ee
        generalize (Utf8.decode s k).1 = c at *
        clear hdec he hbad
        go_wp2_with (go_at_call 57; (with_reducible refine (hval _).mono ?_); rintro e w2 ⟨rfl, rfl⟩)
        go_ret2
        exact ⟨rfl, below_iter _ _ _⟩
    · have hk9 : k = 16 := by omega
      subst hk9
      have hnx : ∀ ty, (Instr.next (.pointer (some ⟨w.heap.size, 0, none⟩)) true ty).run Try.prog (w.iter s 16) = _ := fun ty => run_next_end w s 16 ty (by omega)
      have hT := hU.out
      rw [List.take_of_length_le (by omega)] at hT
      have er := hR hT.2
      have ee := hE hT.2
      rw [← hT.1] at er
      clear hdec hR hR2 hE hE2 hT
      subst er ee
      go_wp2
      go_ret2
      exact ⟨rfl, below_iter _ _ _⟩
end Go.Proofs.Ytaokboendpkjfaa
