/- The document's disk: what it tells. -/
import Derived.Test.YtninidpbchcliaaRDiskA
import Derived.Test.YtninidpbchcliaaRegion
namespace Go.Proofs.Ytninidpbchcliaa
open Go.RowKit
set_option linter.unusedVariables false
set_option linter.unusedSimpArgs false
section
variable {w w' : World} {base : Nat} {q : RDiskP} {A : Option Addr} {c ck ci : Nat} {D : DiskV}
set_option maxRecDepth 100000 in
set_option maxHeartbeats 4000000 in
theorem ris_any (h : RDiskAt w base q A c ck ci D) (n : Nat) (hn : n < D.many) : Calls Try.prog 78 #[.pointer (some ⟨q.d, 0, none⟩), .int .i64 (n : Nat)] w fun e w' => e = .returned (.bool (D.might.getD n false)) ∧ w = w' := by
  obtain ⟨c0, c1, c2, c3, c4, c5, c6⟩ := h.cells
  have hfew := h.ok.few
  have hm := h.ok.many1
  have HH := Lib.hid h
  clear h
  go_enter Try.func78, Try.ntmps78
  go_wp2
  go_loopw [5] (fun i wr => ∃ k : Nat, k ≤ D.waits.length ∧ i = .int .i64 (k : Nat) ∧ (∀ j, j < k → (pieceAt D.waits j).1 ≠ n) ∧ w = wr) (fun i _ => D.waits.length - (intOf i).toNat)
  case atStart => exact ⟨0, by omega, rfl, fun j hj => absurd hj (by omega), rfl⟩
  case round =>
    obtain ⟨k, hk, rfl, hno, rfl⟩ := hrel
    have HNO := Lib.hid hno
    clear hno
    by_cases hlt : k < D.waits.length
    · obtain ⟨g, x, hA, hg, e0, e1, _, _⟩ := HH.out.piece hlt
      have hp := (pieceAt_ok HH.out.ok hlt).1
      have HA := Lib.hid hA
      have hit : (pieceAt D.waits k).1 = n → Hid (D.might.getD n false = true) := fun e => HH.out.cons.is_hit HH.out.ok hn hlt e
      obtain ⟨pn, hpn⟩ : ∃ pn, (pieceAt D.waits k).1 = pn := ⟨_, rfl⟩
      rw [hpn] at e0 hp hit
      have HPN := Lib.hid hpn
      clear hpn
      by_cases hx : pn = n
      · have hB : ((pn : Int) == (n : Int)) = true := by rw [hx]; simp
        have hy := hit hx
        clear hx hit
        subst hA
        go_wp2
        go_ret
        exact ⟨ret_bool hy.out.symm, rfl⟩
      · have hB : ((pn : Int) == (n : Int)) = false := by rw [beq_eq_false_iff_ne]; omega
        have hno2 : Hid (∀ j, j < k + 1 → (pieceAt D.waits j).1 ≠ n) := fun j hj => by
          rcases Nat.lt_or_ge j k with q1 | q1
          · exact HNO.out j q1
          · have : j = k := by omega
            subst this
            rw [HPN.out]; exact hx
        clear hit
        subst hA
        go_wp2
        go_roundw
        case rel => first
          | exact ⟨k + 1, by omega, by go_num, hno2.out, trivial⟩
          | ((repeat apply Exists.intro); exact ⟨⟨k + 1, by omega, by go_num, hno2.out, trivial⟩, rfl⟩)
        case measure => simp [intOf]; omega
    · have hk9 : k = D.waits.length := by omega
      have hnone : Hid (D.inuse.getD n false = D.might.getD n false) := by show _ = _; rw [HH.out.cons.is_none (fun j hj => HNO.out j (by omega))]
      have hin := HH.out.in_ hn
      clear hk9
      go_wp2
      go_ret
      exact ⟨ret_bool hnone.out, rfl⟩
set_option maxRecDepth 100000 in
set_option maxHeartbeats 4000000 in
theorem rat_any (h : RDiskAt w base q A c ck ci D) (n : Nat) (hn : n < D.many) : Calls Try.prog 106 #[.pointer (some ⟨q.d, 0, none⟩), .int .i64 (n : Nat)] w fun e w' => ∃ x : SlV, e = .returned (slV x) ∧ Whole x ∧ BytesAt w base x (secOf D.now (n : Int)) ∧ w = w' := by
  obtain ⟨c0, c1, c2, c3, c4, c5, c6⟩ := h.cells
  have hfew := h.ok.few
  have hm := h.ok.many1
  have HH := Lib.hid h
  clear h
  go_enter Try.func106, Try.ntmps106
  go_wp2
  go_loopw [5] (fun i wr => ∃ k : Nat, k ≤ D.waits.length ∧ i = .int .i64 (k : Nat) ∧ (∀ j, k ≤ j → j < D.waits.length → (pieceAt D.waits j).1 ≠ n) ∧ w = wr) (fun i _ => (intOf i).toNat)
  case atStart => exact ⟨D.waits.length, by omega, rfl, fun j hj h2 => absurd hj (by omega), rfl⟩
  case round =>
    obtain ⟨k, hk, rfl, hno, rfl⟩ := hrel
    have HNO := Lib.hid hno
    clear hno
    by_cases hlt : 0 < k
    · obtain ⟨k, rfl⟩ : ∃ k', k = k' + 1 := ⟨k - 1, by omega⟩
      have hlt2 : k < D.waits.length := by omega
      obtain ⟨g, x, hA, hg, e0, e1, hxn, hby⟩ := HH.out.piece hlt2
      have hp := (pieceAt_ok HH.out.ok hlt2).1
      have HA := Lib.hid hA
      have hit : (pieceAt D.waits k).1 = n → Hid (secOf D.now (n : Int) = (pieceAt D.waits k).2) := fun e => HH.out.cons.at_hit HH.out.ok hn hlt2 e (fun j h1 h2 => HNO.out j h1 h2)
      obtain ⟨pn, hpn⟩ : ∃ pn, (pieceAt D.waits k).1 = pn := ⟨_, rfl⟩
      rw [hpn] at e0 hp hit
      have HPN := Lib.hid hpn
      have HBY := Lib.hid hby
      have HXN := Lib.hid hxn
      clear hpn hby hxn
      have hk1 : ((k + 1 : Nat) : Int) - 1 = (k : Int) := by omega
      have HK1 := Lib.hid hk1
      have hkk : (((k + 1 : Nat) : Int) - 1).toNat = k := by omega
      have hkI : ((k + 1 : Nat) : Int) - 1 < D.waits.length := by omega
      have hkI0 : 0 ≤ ((k + 1 : Nat) : Int) - 1 := by omega
      clear hk1
      by_cases hx : pn = n
      · have hB : ((pn : Int) == (n : Int)) = true := by rw [hx]; simp
        have hy := hit hx
        clear hx hit
        subst hA
        go_wp2
        go_ret
        exact ⟨x, rfl, HXN.out, by rw [hy.out]; exact HBY.out, rfl⟩
      · have hB : ((pn : Int) == (n : Int)) = false := by rw [beq_eq_false_iff_ne]; omega
        have hno2 : Hid (∀ j, k ≤ j → j < D.waits.length → (pieceAt D.waits j).1 ≠ n) := fun j hj h2 => by
          rcases Nat.lt_or_ge k j with q1 | q1
          · exact HNO.out j q1 h2
          · have : j = k := by omega
            subst this
            rw [HPN.out]; exact hx
        clear hit
        subst hA
        go_wp2
        go_roundw
        case rel => first
          | exact ⟨k, by omega, by go_num, hno2.out, trivial⟩
          | ((repeat apply Exists.intro); exact ⟨⟨k, by omega, by go_num, hno2.out, trivial⟩, rfl⟩)
        case measure => first | (simp [intOf]; done) | (simp [intOf]; omega)
    · have hk9 : k = 0 := by omega
      subst hk9
      have hnone : Hid (secOf D.now (n : Int) = secOf D.kept (n : Int)) := HH.out.cons.at_none HH.out.ok hn (fun j hj => HNO.out j (Nat.zero_le _) hj)
      obtain ⟨x, hc, hxn, hby⟩ := HH.out.row hn
      have HBY := Lib.hid hby
      have HXN := Lib.hid hxn
      clear hby hxn
      go_wp2
      go_ret
      exact ⟨x, rfl, HXN.out, by rw [hnone.out]; exact HBY.out, rfl⟩
set_option maxRecDepth 100000 in
set_option maxHeartbeats 4000000 in
theorem rused_any (h : RDiskAt w base q A c ck ci D) : Calls Try.prog 34 #[.pointer (some ⟨q.d, 0, none⟩)] w fun e w' => e = .returned (.int .i64 (trues D.might : Nat)) ∧ w = w' := by
  obtain ⟨c0, c1, c2, c3, c4, c5, c6⟩ := h.cells
  have hm := h.ok.many1
  have hml := h.ok.might
  have HH := Lib.hid h
  clear h
  go_enter Try.func34, Try.ntmps34
  go_wp2
  go_loopw [3, 4] (fun m i wr => ∃ k : Nat, k ≤ D.many ∧ i = .int .i64 (k : Nat) ∧ m = .int .i64 (trues (D.might.take k) : Nat) ∧ w = wr) (fun _ i _ => D.many - (intOf i).toNat)
  case atStart => exact ⟨0, by omega, rfl, rfl, rfl⟩
  case round =>
    obtain ⟨k, hk, rfl, rfl, rfl⟩ := hrel
    by_cases hlt : k < D.many
    · have hs := trues_take D.might k (by omega)
      have hle := trues_le (D.might.take k)
      have hll : (D.might.take k).length ≤ k := List.length_take_le _ _
      have hC := ris_any HH.out k hlt
      obtain ⟨b, hb⟩ : ∃ b, D.might.getD k false = b := ⟨_, rfl⟩
      rw [hb] at hC hs
      have HS := Lib.hid hs
      clear hs hb
      cases b with
      | true =>
        go_wp2_with (first
          | (go_at_call 78; (with_reducible refine (hC).mono ?_); rintro e w1 ⟨rfl, rfl⟩)
          | fail "no arm")
        go_roundw
        case rel =>
          have e1 : Value.int .i64 ((trues (D.might.take k) : Int) + 1) = .int .i64 (trues (D.might.take (k + 1)) : Nat) := by rw [HS.out]; try simp
          first
            | exact ⟨k + 1, by omega, by go_num, e1, trivial⟩
            | ((repeat apply Exists.intro); exact ⟨⟨k + 1, by omega, by go_num, e1, trivial⟩, rfl⟩)
        case measure => simp [intOf]; omega
      | false =>
        go_wp2_with (first
          | (go_at_call 78; (with_reducible refine (hC).mono ?_); rintro e w1 ⟨rfl, rfl⟩)
          | fail "no arm")
        go_roundw
        case rel =>
          have e1 : Value.int .i64 (trues (D.might.take k) : Nat) = .int .i64 (trues (D.might.take (k + 1)) : Nat) := by rw [HS.out]; try simp
          first
            | exact ⟨k + 1, by omega, by go_num, e1, trivial⟩
            | ((repeat apply Exists.intro); exact ⟨⟨k + 1, by omega, by go_num, e1, trivial⟩, rfl⟩)
        case measure => simp [intOf]; omega
    · have hk9 : k = D.many := by omega
      have hall : Hid ((trues (D.might.take k) : Int) = (trues D.might : Nat)) := by show _ = _; rw [List.take_of_length_le (by omega)]
      clear hk9
      go_wp2
      go_ret
      exact ⟨ret_int hall.out, rfl⟩
end
end Go.Proofs.Ytninidpbchcliaa
