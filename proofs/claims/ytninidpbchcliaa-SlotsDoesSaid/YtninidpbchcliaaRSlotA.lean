/- The document's slots: sum, Whole. The document's slots: Open. The document's slots: Save. -/
import Derived.Test.YtninidpbchcliaaPlainSlots
import Derived.Test.YtninidpbchcliaaRAreaA
import Derived.Test.YtninidpbchcliaaRefCrc
import Derived.Deep.DeepCutAuto
import Derived.Deep.CutBlock
import Derived.Test.YtninidpbchcliaaSlotC
namespace Go.Proofs.Ytninidpbchcliaa
open Go.RowKit
set_option linter.unusedVariables false
set_option linter.unusedSimpArgs false
theorem le4_tab (s : Nat) : tabB 4 (fun i => s / 256 ^ i % 256) = le4 s := rfl
set_option maxRecDepth 100000 in
set_option maxHeartbeats 4000000 in
theorem rsum_any (A : Option Addr) (n d : Nat) (l : List UInt8) (w : World) (hl : RB w A n l) (hn : n ≤ maxLen) :
    Calls Try.prog 118 #[.slice A n d] w fun e w' => ∃ B c, e = .returned (.slice B 4 c) ∧ OB w' w.heap.size 5 B 4 c (sumL l) ∧ Below w.heap.size w w' := by
  have csum := sum_ref A n d l w hl hn
  have hlt := crcSum_lt [l]
  unfold sumL
  generalize crcSum [l] = S at *
  clear hl hn
  go_enter Try.func118, Try.ntmps118
  go_wp2_with (first
    | ((go_at_call 124; (with_reducible refine (csum).mono ?_); rintro e w1 ⟨rfl, hb1⟩); have s1 := hb1.size)
    | fail "no arm")
  go_loopw [3, 4, 5] (fun u v i wr => ∃ (k U : Nat) (B : Option Addr) (c : Nat), k ≤ 4 ∧ i = .int .i64 (k : Nat) ∧ Hid (U = S / 256 ^ k) ∧ U < 4294967296 ∧ u = .int .i64 (U : Nat) ∧ v = .slice B k c ∧ OB wr w.heap.size 5 B k c (tabB k (fun i => S / 256 ^ i % 256)) ∧ Below w.heap.size w wr) (fun _ _ i _ => 4 - (intOf i).toNat)
  case atStart => exact ⟨0, S, none, 0, by omega, rfl, Lib.hid (by simp), hlt, rfl, rfl, Ow.nil _ _ _ _, hb1⟩
  case round =>
    obtain ⟨k, U, B, c, hk, rfl, hU, hUlt, rfl, rfl, hown, hbel⟩ := hrel
    have hbs := hbel.size
    by_cases hlt4 : k < 4
    · have hnx : Hid (tabB k (fun i => S / 256 ^ i % 256) ++ [UInt8.ofNat (U % 256)] = tabB (k + 1) (fun i => S / 256 ^ i % 256)) := by
        show _ = _
        unfold tabB
        rw [List.range_succ, List.map_append, hU.out]
        rfl
      have hcell : bv (UInt8.ofNat (U % 256)) = .int .u8 ((U : Int) % 256) := by rw [bv_ofNat (by omega)]; congr 1
      have hcl : [UInt8.ofNat (U % 256)].map bv = [.int .u8 ((U : Int) % 256)] := by rw [List.map_singleton, hcell]
      have HCL := Lib.hid hcl
      have hU2 : Hid (U / 256 = S / 256 ^ (k + 1)) := by
        show _ = _
        rw [hU.out, Nat.div_div_eq_div_mul, Nat.pow_succ]
      clear hcell hcl
      go_wp2_with (first
        | (at_builtin; refine wpList_app rfl rfl elemU8 bv_one (s := .tmp 12) (N := k + 1) (L := tabB (k + 1) (fun i => S / 256 ^ i % 256)) rfl (hown.below (b := wr.heap.size) (by (repeat' (first | (with_reducible exact Below.refl _ _) | (with_reducible assumption) | (with_reducible refine Below.drew ?_) | (with_reducible refine below_drewN ?_ _) | (with_reducible refine Below.alloc ?_ ?_ _) | (with_reducible refine Below.setCell ?_ ?_ _) | omega | (simp; done) | (simp; omega)))) (by first | omega | (simp; done) | (simp; omega))) rfl (k := [UInt8.ofNat (U % 256)]) (Rd.of_block (l := [UInt8.ofNat (U % 256)]) (heap_top _ _ (by simp)) (HCL.out.symm)) rfl hnx.out (by unfold maxLen; omega) (by omega) (by first | omega | (simp; done) | (simp; omega)) ?_; intro A8 c8 w8 hown8 hg8 hat8 hb8; replace hb8 := below_then' (a := w) (B := w.heap.size) (by (repeat' (first | (with_reducible exact Below.refl _ _) | (with_reducible assumption) | (with_reducible refine Below.drew ?_) | (with_reducible refine below_drewN ?_ _) | (with_reducible refine Below.alloc ?_ ?_ _) | (with_reducible refine Below.setCell ?_ ?_ _) | omega | (simp; done) | (simp; omega)))) hb8 (by first | omega | (simp; done) | (simp; omega)); have hb8s := hb8.size)
        | fail "no arm")
      go_roundw
      case rel => first
        | exact ⟨k + 1, U / 256, A8, c8, by omega, by go_num, hU2, by omega, by go_num, rfl, hown8, hb8⟩
        | ((repeat apply Exists.intro); exact ⟨⟨k + 1, U / 256, A8, c8, by omega, by go_num, hU2, by omega, by go_num, rfl, hown8, hb8⟩, rfl⟩)
      case measure => simp [intOf]; omega
    · have hk4 : k = 4 := by omega
      subst hk4
      rw [le4_tab] at hown
      go_wp2
      go_ret
      exact ⟨B, c, rfl, hown, hbel⟩
section
variable {w w' : World} {base f m : Nat} {q : RDiskP} {D : DiskV}
theorem rtake_on {n kind : Int} (h : (aTakeV D f m n kind).2.2 = 0) : D.off = false ∧ (aReadV D f m n).1 = readV' D := by
  have h1 : (aReadV D f m n).2.2 = 0 := by
    apply Classical.byContradiction
    intro hc
    unfold aTakeV at h
    rw [if_pos hc] at h
    exact hc h
  unfold aReadV at h1 ⊢
  split at h1
  · exact absurd h1 (by simp)
  · rename_i hc
    rw [if_neg hc]
    unfold readV at h1 ⊢
    split at h1
    · rename_i hm; exact absurd h1 hm
    · rename_i hm
      rw [if_neg hm]
      exact ⟨(mayV_zero (Decidable.of_not_not hm)).1, rfl⟩
/-- What the document's reading of a slot answers. -/
def RWPost (w : World) (base : Nat) (q : RDiskP) (R : DiskV × List UInt8 × Int × Int) (e : Ending) (w' : World) : Prop :=
  ∃ B n d N ok er, e = .returned (.tuple #[.slice B n d, .int .i64 N, .bool ok, .int .i64 er]) ∧ (R.2.2.2 = 0 → ok = true ∧ er = 0 ∧ N = R.2.2.1 ∧ n ≤ d ∧ d ≤ maxLen ∧ n ≤ 512 ∧ BytesAt w' base ⟨B, n, d⟩ R.2.1) ∧ (R.2.2.2 = 53 → ok = false ∧ er = 0) ∧ (R.2.2.2 ≠ 0 → R.2.2.2 ≠ 53 → ok = false ∧ er = R.2.2.2) ∧ RDiskS w' base q R.1 ∧ RStep base q w w'
theorem RWPost.not {B : Option Addr} {n d : Nat} {N : Int} (hd : RDiskS w' base q D) (st : RStep base q w w') : RWPost w base q (D, [], 0, 53) (.returned (.tuple #[.slice B n d, .int .i64 N, .bool false, .int .i64 0])) w' :=
  ⟨B, n, d, N, false, 0, rfl, fun e => absurd e (by simp), fun _ => ⟨rfl, rfl⟩, fun _ e => absurd rfl e, hd, st⟩
theorem RWPost.bad {z : Int} (h0 : z ≠ 0) (h53 : z ≠ 53) (hd : RDiskS w' base q D) (st : RStep base q w w') : RWPost w base q (D, [], 0, z) (.returned (.tuple #[.slice none 0 0, .int .i64 0, .bool false, .int .i64 z])) w' :=
  ⟨none, 0, 0, 0, false, z, rfl, fun e => absurd e h0, fun e => absurd e h53, fun _ _ => ⟨rfl, rfl⟩, hd, st⟩
set_option maxRecDepth 100000 in
set_option maxHeartbeats 4000000 in
theorem ra_readK {A : Option Addr} {c ck ci : Nat} (h : RDiskAt w base q A c ck ci D) (hoff : D.off = false) (hfm : f + m ≤ D.many) (n : Nat) (hn : n < m) :
    Calls Try.prog 88 #[.agg #[.pointer (some ⟨q.d, 0, none⟩), .int .i64 (f : Nat), .int .i64 (m : Nat)], .int .i64 (n : Nat)] w fun e w' => ∃ B c2, e = .returned (.tuple #[.slice B 128 c2, .int .i64 0]) ∧ 128 ≤ c2 ∧ RB w' B 128 (secOf D.now ((f + n : Nat) : Int)) ∧ RDiskAt w' base q A c ck ci (readV' D) ∧ Keep (fun g => g = q.d ∨ g = q.go) w w' := by
  have hm1 : D.many ≤ 4096 := h.ok.many1
  have bA : Below w.heap.size w (w.alloc (.cells #[.pointer (some ⟨q.d, 0, none⟩), .int .i64 (f : Nat), .int .i64 (m : Nat)] 84)) := (Below.refl _ _).alloc (Nat.le_refl _) _
  have c1 := rread_yes (h.below bA) (f + n) hoff (by omega)
  rw [show ((f + n : Nat) : Int) = (f : Int) + (n : Int) by omega] at c1 ⊢
  have hnm : (n : Int) < m := by omega
  have BA := Lib.hid bA
  clear h bA
  go_enter Try.func88, Try.ntmps88
  go_wp2_with (first
    | ((go_at_call 75; (with_reducible refine (c1).mono ?_); rintro e w2 ⟨⟨ya, yn, yc⟩, rfl, ⟨hw1, hw2, hw3⟩, hb2, r2, k2⟩); simp only at hw1 hw2 hw3; subst hw1; unfold slV)
    | fail "no arm")
  go_ret2
  exact ⟨ya, yc, rfl, hw2, hb2.1, r2, (Keep.of_below BA.out).trans k2 (fun _ _ e => e)⟩
/-- The disk behind some reads, beside rows that are new. -/
theorem RDiskAt.reads {w1 : World} {A : Option Addr} {c ck ci j : Nat} (h : RDiskAt w1 base q A c ck ci D) (h' : RDiskAt w base q A c ck ci (rdK D j)) (k : Keep (fun g => g = q.d ∨ g = q.go) w1 w') (b1 : ∀ {t : TypeId} {cs : List Value}, Blk w q.d t cs → Blk w' q.d t cs) (b2 : ∀ {t : TypeId} {cs : List Value}, Blk w q.go t cs → Blk w' q.go t cs) : RDiskAt w' base q A c ck ci (rdK D j) := by
  obtain ⟨o, eo⟩ := rdK_ops D j
  have hst := h'.st
  have hop := h'.op
  have hl := h'.ops
  rw [eo] at hst hop hl ⊢
  exact h.turnHead k (b1 hst) (b2 hop) hl h.ok.cut
theorem Ow.kept2 {α : Type} {enc : α → Value} {F : Nat → Prop} {w w' : World} {b n c : Nat} {t : TypeId} {B : Option Addr} {l : List α} (h : Ow enc w b t B n c l) (k : Keep F w w') (hF : ∀ g, B.map (·.block) = some g → ¬ F g) : Ow enc w' b t B n c l :=
  ⟨h.1, own_keep h.2 k (fun g hg hf => hF g (by cases B with | none => simp [Value.ownBlock] at hg | some a => simpa [Value.ownBlock] using hg) hf)⟩
set_option maxRecDepth 100000 in
set_option maxHeartbeats 8000000 in
theorem rwhole_any (hd : RDiskS w base q D) (hs : base ≤ w.heap.size) (hm : 5 ≤ m) (hfm : f + m ≤ D.many) :
    Calls Try.prog 116 #[.agg #[.pointer (some ⟨q.d, 0, none⟩), .int .i64 (f : Nat), .int .i64 (m : Nat)]] w (RWPost w base q (wholeV D f m)) := by
  have hok : D.Ok := by obtain ⟨A, c, ck, ci, h⟩ := hd; exact h.ok
  have hm4 : f + m ≤ 4096 := by have := hok.many1; omega
  have bA : Below w.heap.size w (w.alloc (.cells #[.pointer (some ⟨q.d, 0, none⟩), .int .i64 (f : Nat), .int .i64 (m : Nat)] 84)) := (Below.refl _ _).alloc (Nat.le_refl _) _
  have XA := Lib.hid (show Blk (w.alloc (.cells #[.pointer (some ⟨q.d, 0, none⟩), .int .i64 (f : Nat), .int .i64 (m : Nat)] 84)) w.heap.size 84 [.pointer (some ⟨q.d, 0, none⟩), .int .i64 (f : Nat), .int .i64 (m : Nat)] from Blk.top _ rfl rfl)
  have ctk : Calls Try.prog 90 #[.agg #[.pointer (some ⟨q.d, 0, none⟩), .int .i64 (f : Nat), .int .i64 (m : Nat)], .int .i64 0, .int .i64 2] (w.alloc (.cells #[.pointer (some ⟨q.d, 0, none⟩), .int .i64 (f : Nat), .int .i64 (m : Nat)] 84)) (RTakeB _ base q (aTakeV D f m 0 2) (aReadV D f m 0).1) := ra_takeB (hd.below bA) (by have := bA.size; omega) hfm 0 2
  have HR0 := Lib.hid (hd.below bA)
  have BA := Lib.hid (RStep.of_below (q := q) bA hs)
  have hon := rtake_on (D := D) (f := f) (m := m) (n := 0) (kind := 2)
  have HOK := Lib.hid hok
  unfold wholeV
  generalize aTakeV D f m 0 2 = T at *
  obtain ⟨N, L, er⟩ := T
  generalize hD1 : (aReadV D f m 0).1 = D1 at *
  simp only at ctk hon ⊢
  clear hd hok hD1 bA
  by_cases her : er = 0
  · subst her
    rw [if_neg (by simp)]
    by_cases hl : L.length = 12
    · rw [if_neg (by rw [hl]; simp)]
      have HL := Lib.hid hl
      clear hl
      obtain ⟨hN, hhN⟩ : ∃ hN, sg (getL (L.take 8)) = hN := ⟨_, rfl⟩
      have HN := Lib.hid hhN
      rw [show headN L = hN from hhN]
      clear hhN
      by_cases hn : hN < 0 ∨ 512 < hN
      · rw [if_pos hn]
        have hc : hN < 0 ∨ (0 ≤ hN ∧ 512 < hN) := by omega
        clear hn hon
        rcases hc with h1 | ⟨h1, h2⟩
        all_goals
          go_enter Try.func116, Try.ntmps116
          go_wp2_with (first
            | ((go_at_call 90; (with_reducible refine (ctk).mono ?_); rintro e w1 ⟨B, k, d, rfl, _, hbb, d1, st1⟩); obtain ⟨hkd, hdm, hba⟩ := hbb rfl; obtain rfl : k = 12 := (by have e1 : L.length = k := hba.1.1; have e2 := HL.out; omega); obtain ⟨gh, oh, e0, hbl1, _⟩ := hba.1.2 (by show 0 < 12; omega); simp only at e0; subst e0; have hcut : ∀ W, (Instr.slice 23 (.slice (some ⟨gh, oh, none⟩) 12 d) none (some (.int .i64 8)) none).run Try.prog W = .ok (.slice (some ⟨gh, oh, none⟩) 8 d) W := run_cut_to elemU8 (some ⟨gh, oh, none⟩) 12 d 8 (by omega); have cget : Calls Try.prog 121 #[.slice (some ⟨gh, oh, none⟩) 8 d] w1 fun e w' => e = .returned (.tuple #[.int .i64 (hN), .int .i64 0]) ∧ Below w1.heap.size w1 w' := (by have q9 := refget_any (some ⟨gh, oh, none⟩) d (L.take 8) w1 ((Rd.take_ (show Rd bv w1 (some ⟨gh, oh, none⟩) 12 L from hba.1.rd) (by omega)).rb); rw [HN.out] at q9; exact q9); have HBA := Lib.hid hba; have D1' := Lib.hid d1; have S1 := Lib.hid (BA.out.trans st1); have XA1 := Lib.hid (HR0.out.blk XA.out st1 (by decide)); have s1 := st1.size; clear hba d1 st1 hbb)
            | ((go_at_call 121; (with_reducible refine (cget).mono ?_); rintro e w2 ⟨rfl, b2⟩))
            | fail "no arm")
          go_returns
          exact RWPost.not (D1'.out.below b2) (S1.out.trans (RStep.of_below b2 (by have := S1.out.size; omega)))
      · rw [if_neg hn]
        obtain ⟨nn, hnn⟩ : ∃ nn : Nat, hN = (nn : Int) := ⟨hN.toNat, by omega⟩
        subst hnn
        have hn512 : nn ≤ 512 := by omega
        rw [Int.toNat_natCast]
        obtain ⟨hoff, hd1⟩ := hon rfl
        have hK : secsN nn ≤ 4 := by unfold secsN; omega
        have hKn : nn ≤ secsN nn * 128 := by unfold secsN; omega
        have hKn2 : ∀ j, j < secsN nn → j * 128 < nn := fun j hj => by unfold secsN at hj; omega
        have hoff1 : D1.off = false := by rw [hd1]; exact hoff
        have hfm1 : f + m ≤ D1.many := by rw [hd1]; exact hfm
        have hnow : D.now = D1.now := by rw [hd1]; rfl
        have hok1 : D1.now.length = D1.many * 128 := by rw [hd1]; exact HOK.out.now
        rw [hnow]
        have hbl := Lib.hid (bodyL_len hok1 (f := f) (secsN nn) (by omega))
        have HKN := Lib.hid hKn2
        generalize hKe : secsN nn = K at *
        generalize hRe : (if sumL ((bodyL D1.now f K).take nn) = L.drop 8 then (rdK D1 K, (bodyL D1.now f K).take nn, N, (0 : Int)) else (rdK D1 K, [], 0, 53)) = R
        have HRE := Lib.hid hRe
        clear hRe
        clear hKe hn hon hd1 hnow hoff hfm hok1 hKn2
        go_enter Try.func116, Try.ntmps116
        go_wp2_with (first
          | ((go_at_call 90; (with_reducible refine (ctk).mono ?_); rintro e w1 ⟨B, k, d, rfl, _, hbb, d1, st1⟩); obtain ⟨hkd, hdm, hba⟩ := hbb rfl; obtain rfl : k = 12 := (by have e1 : L.length = k := hba.1.1; have e2 := HL.out; omega); obtain ⟨gh, oh, e0, hbl1, _⟩ := hba.1.2 (by show 0 < 12; omega); simp only at e0; subst e0; have hcut : ∀ W, (Instr.slice 23 (.slice (some ⟨gh, oh, none⟩) 12 d) none (some (.int .i64 8)) none).run Try.prog W = .ok (.slice (some ⟨gh, oh, none⟩) 8 d) W := run_cut_to elemU8 (some ⟨gh, oh, none⟩) 12 d 8 (by omega); have cget : Calls Try.prog 121 #[.slice (some ⟨gh, oh, none⟩) 8 d] w1 fun e w' => e = .returned (.tuple #[.int .i64 ((nn : Int)), .int .i64 0]) ∧ Below w1.heap.size w1 w' := (by have q9 := refget_any (some ⟨gh, oh, none⟩) d (L.take 8) w1 ((Rd.take_ (show Rd bv w1 (some ⟨gh, oh, none⟩) 12 L from hba.1.rd) (by omega)).rb); rw [HN.out] at q9; exact q9); have HBA := Lib.hid hba; have D1' := Lib.hid d1; have S1 := Lib.hid (BA.out.trans st1); have XA1 := Lib.hid (HR0.out.blk XA.out st1 (by decide)); have s1 := st1.size; clear hba d1 st1 hbb)
          | ((go_at_call 121; (with_reducible refine (cget).mono ?_); rintro e w2 ⟨rfl, b2⟩); have HBA2 := Lib.hid (HBA.out.below b2); have S2 := Lib.hid (S1.out.trans (RStep.of_below b2 (by have := S1.out.size; omega))); have XA2 := Lib.hid (XA1.out.below b2 XA1.out.lt); have D2' := Lib.hid (D1'.out.below b2); have s2 := S2.out.size)
          | fail "no arm")
        obtain ⟨A0, c0, ck0, ci0, hat0⟩ := D2'.out
        have HAT := Lib.hid hat0
        clear cget hcut hat0
        go_loopw [11] (fun v wr => ∃ (j : Nat) (B2 : Option Addr) (c2 : Nat), j ≤ K ∧ v = .slice B2 (j * 128) c2 ∧ OB wr w2.heap.size 5 B2 (j * 128) c2 (bodyL D1.now f j) ∧ RDiskAt wr base q A0 c0 ck0 ci0 (rdK D1 j) ∧ Keep (fun g => g = q.d ∨ g = q.go) w2 wr ∧ Blk wr w.heap.size 84 [.pointer (some ⟨q.d, 0, none⟩), .int .i64 (f : Nat), .int .i64 (m : Nat)]) (fun v _ => nn - (match v with | .slice _ k _ => k | _ => 0))
        case atStart => exact ⟨0, none, 0, by omega, rfl, Ow.nil _ _ _ _, HAT.out, Keep.refl _ _, XA2.out⟩
        case round =>
          obtain ⟨j, B2, c2, hj, rfl, hown, hat, hk, hxa⟩ := hrel
          have hsz := hk.size
          have y0 : wr.cell? ⟨w.heap.size, 0, none⟩ = some (.pointer (some ⟨q.d, 0, none⟩)) := hxa.cell 0
          have y1 : wr.cell? ⟨w.heap.size, 1, none⟩ = some (.int .i64 (f : Nat)) := hxa.cell 1
          have y2 : wr.cell? ⟨w.heap.size, 2, none⟩ = some (.int .i64 (m : Nat)) := hxa.cell 2
          by_cases hlt : j < K
          · have hjn := HKN.out j hlt
            have hjI : (j : Int) * 128 < nn := by omega
            obtain ⟨o9, eo9⟩ := rdK_ops D1 j
            have hrd := ra_readK (f := f) (m := m) hat (by rw [eo9]; exact hoff1) (by rw [eo9]; exact hfm1) (1 + j) (by omega)
            rw [show (rdK D1 j).now = D1.now from by rw [eo9], show ((1 + j : Nat) : Int) = 1 + (j : Int) by omega] at hrd
            have hnx : Hid (bodyL D1.now f j ++ secOf D1.now ((f + (1 + j) : Nat) : Int) = bodyL D1.now f (j + 1)) := rfl
            have HOW := Lib.hid hown
            have HK := Lib.hid hk
            have HXA := Lib.hid hxa
            have HA := Lib.hid hat
            generalize secOf D1.now ((f + (1 + j) : Nat) : Int) = S at *
            clear hown hk hxa hat eo9
            go_wp2_with (first
              | ((go_at_call 88; (with_reducible refine (hrd).mono ?_); rintro e w3 ⟨B3, c3, rfl, hc3, rb3, at3, k3⟩); have O3 := Ow.kept2 HOW.out k3 (fun g e hb => by rcases hb with e9 | e9; exact HOW.out.ne_ HA.out.st (by decide) (e.trans (by rw [e9])); exact HOW.out.ne_ HA.out.op (by decide) (e.trans (by rw [e9]))); have X3 := Lib.hid (HXA.out.keep k3 (fun e9 => by rcases e9 with e9 | e9; exact HXA.out.ne_ HA.out.st (by decide) e9; exact HXA.out.ne_ HA.out.op (by decide) e9)); have A3 := Lib.hid at3; have K3 := Lib.hid (HK.out.trans k3 (fun _ _ e => e)); have s3 := k3.size; clear at3 k3)
              | (at_builtin; refine wpList_app rfl rfl elemU8 bv_one (s := .tmp 57) (N := (j + 1) * 128) (L := bodyL D1.now f (j + 1)) rfl O3 rfl (k := S) rb3.rd (by omega) hnx.out (by unfold maxLen; omega) (by omega) (by omega) ?_; intro A5 c5 w5 hown5 hg5 hat5 hb5)
              | fail "no arm")
            have K5 := Lib.hid (K3.out.trans (Keep.of_grown (F := fun g => B2.map (·.block) = some g) hg5 (fun g e => e)) (fun g hg e => by have := (O3.lt g e).1; omega))
            have X5 := Lib.hid (X3.out.grown hg5 (O3.ne_ X3.out (by decide)))
            have A5' := Lib.hid (HAT.out.reads (show RDiskAt w3 base q A0 c0 ck0 ci0 (rdK D1 (j + 1)) from A3.out) K5.out (fun {t cs} hb => hb.grown hg5 (fun e => O3.ne_ A3.out.st (by decide) e)) (fun {t cs} hb => hb.grown hg5 (fun e => O3.ne_ A3.out.op (by decide) e)))
            go_roundw
            case rel => first
              | exact ⟨j + 1, A5, c5, by omega, rfl, hown5, A5'.out, K5.out, X5.out⟩
              | ((repeat apply Exists.intro); exact ⟨⟨j + 1, A5, c5, by omega, rfl, hown5, A5'.out, K5.out, X5.out⟩, rfl⟩)
            case measure => simp; omega
          · have hjK : K = j := by omega
            subst hjK
            have hcapn := hown.cap
            have hcutn : ∀ W, (Instr.slice 23 (.slice B2 (K * 128) c2) none (some (.int .i64 (nn : Int))) none).run Try.prog W = .ok (.slice B2 nn c2) W := run_cut_to elemU8 B2 (K * 128) c2 nn (by omega)
            have hrn : RB wr B2 nn ((bodyL D1.now f K).take nn) := (hown.rd.take_ hKn).rb
            have hrest : 0 < nn → Rests wr base 5 B2 := fun _ g hg => .inr (hown.blk hg)
            have BAL := Lib.hid (show BytesAt wr base ⟨B2, nn, c2⟩ ((bodyL D1.now f K).take nn) from ⟨hrn, by show nn ≤ maxLen; unfold maxLen; omega, hrest⟩)
            have hba3 : BytesAt wr base ⟨some ⟨gh, oh, none⟩, 12, d⟩ L := HBA2.out.keepF hk (fun g e => by
              rcases e with e | e
              · subst e; exact ⟨HAT.out.bd, not_u8 HAT.out.st (by decide)⟩
              · subst e; exact ⟨HAT.out.bo, not_u8 HAT.out.op (by decide)⟩)
            have hrh : RB wr (some ⟨gh, oh + 8, none⟩) 4 (L.drop 8) := by
              have h9 : RB wr (some ⟨gh, oh, none⟩) 12 L := hba3.1
              have := h9.part 8 4 (by omega)
              rwa [List.take_of_length_le (by rw [List.length_drop, HL.out]; omega)] at this
            have HRH := Lib.hid hrh
            have hcuth : ∀ W, (Instr.slice 23 (.slice (some ⟨gh, oh, none⟩) 12 d) (some (.int .i64 8)) none none).run Try.prog W = .ok (.slice (some ⟨gh, oh + 8, none⟩) 4 (d - 8)) W := fun W => by
              have := run_cut_from elemU8 (some ⟨gh, oh, none⟩) 12 d 8 (by omega) W
              rw [if_neg (by omega)] at this
              exact this
            have hnK : ¬ ((K : Int) * 128 < nn) := by omega
            have HAW := Lib.hid (show RDiskS wr base q (rdK D1 K) from ⟨A0, c0, ck0, ci0, hat⟩)
            have HST := Lib.hid (S2.out.trans (RStep.of_keep HAT.out (by omega) (hk.mono (fun g _ e => by rcases e with e | e; exact .inl e; exact .inr (.inr (.inr (.inl e)))))))
            have csm := fun w hl => rsum_any B2 nn c2 ((bodyL D1.now f K).take nn) w hl (by unfold maxLen; omega)
            have HRN := Lib.hid hrn
            obtain ⟨ld, hld⟩ : ∃ ld, (bodyL D1.now f K).take nn = ld := ⟨_, rfl⟩
            rw [hld] at HRN csm BAL
            have HRE2 := HRE.out
            rw [hld] at HRE2
            generalize sumL ld = sm at *
            have HRE3 := Lib.hid HRE2
            clear hown hat hk hxa hrest hrh hrn HRE2 hld hba3
            by_cases heq : sm = L.drop 8
            · have HEQ := Lib.hid heq
              have csame := fun (B : Option Addr) (c : Nat) (w : World) (h1 : RB w B 4 sm) (h2 : RB w (some ⟨gh, oh + 8, none⟩) 4 (L.drop 8)) => (by have q9 := same_any B (some ⟨gh, oh + 8, none⟩) 4 4 c (d - 8) sm (L.drop 8) w h1 h2 (by decide); rw [decide_eq_true heq] at q9; exact q9 : Calls Try.prog 24 #[.slice B 4 c, .slice (some ⟨gh, oh + 8, none⟩) 4 (d - 8)] w fun e w' => e = .returned (.bool true) ∧ ∃ q, w' = w.drewN q)
              clear heq
              go_wp2_with fail
              go_region_held3 (fun _ => True) (trivial) (first
                | ((go_at_call 118; (with_reducible refine (csm _ (HRN.out.below (B := wr.heap.size) (by (repeat' (first | (with_reducible exact Below.refl _ _) | (with_reducible assumption) | (with_reducible refine Below.drew ?_) | (with_reducible refine below_drewN ?_ _) | (with_reducible refine Below.alloc ?_ ?_ _) | (with_reducible refine Below.setCell ?_ ?_ _) | omega | (simp; done) | (simp; omega)))) (Nat.le_refl _))).mono ?_); rintro e w6 ⟨B6, c6, rfl, o6, b6⟩); have b6q := below_then' (a := wr) (B := wr.heap.size) (by (repeat' (first | (with_reducible exact Below.refl _ _) | (with_reducible assumption) | (with_reducible refine Below.drew ?_) | (with_reducible refine below_drewN ?_ _) | (with_reducible refine Below.alloc ?_ ?_ _) | (with_reducible refine Below.setCell ?_ ?_ _) | omega | (simp; done) | (simp; omega)))) b6 (by first | omega | (simp; done) | (simp; omega)); have hsm := csame B6 c6 w6 o6.rd.rb (HRH.out.below b6q (Nat.le_refl _)))
                | ((go_at_call 24; (with_reducible refine (hsm).mono ?_); rintro e w7 ⟨rfl, q7, rfl⟩))
                | fail "no arm")
              go_wp2
              go_returns
              have b9 := below_drewN b6q q7
              have e9 := HRE3.out
              rw [if_pos HEQ.out] at e9
              rw [← e9]
              exact ⟨B2, nn, c2, N, true, 0, rfl, fun _ => ⟨rfl, rfl, rfl, by omega, by omega, hn512, BAL.out.below b9⟩, fun e => absurd e (by simp), fun e => absurd rfl e, HAW.out.below b9, HST.out.trans (RStep.of_below b9 (by have := HST.out.size; omega))⟩
            · have HEQ := Lib.hid heq
              have csame := fun (B : Option Addr) (c : Nat) (w : World) (h1 : RB w B 4 sm) (h2 : RB w (some ⟨gh, oh + 8, none⟩) 4 (L.drop 8)) => (by have q9 := same_any B (some ⟨gh, oh + 8, none⟩) 4 4 c (d - 8) sm (L.drop 8) w h1 h2 (by decide); rw [decide_eq_false heq] at q9; exact q9 : Calls Try.prog 24 #[.slice B 4 c, .slice (some ⟨gh, oh + 8, none⟩) 4 (d - 8)] w fun e w' => e = .returned (.bool false) ∧ ∃ q, w' = w.drewN q)
              clear heq
              go_wp2_with fail
              go_region_held3 (fun _ => True) (trivial) (first
                | ((go_at_call 118; (with_reducible refine (csm _ (HRN.out.below (B := wr.heap.size) (by (repeat' (first | (with_reducible exact Below.refl _ _) | (with_reducible assumption) | (with_reducible refine Below.drew ?_) | (with_reducible refine below_drewN ?_ _) | (with_reducible refine Below.alloc ?_ ?_ _) | (with_reducible refine Below.setCell ?_ ?_ _) | omega | (simp; done) | (simp; omega)))) (Nat.le_refl _))).mono ?_); rintro e w6 ⟨B6, c6, rfl, o6, b6⟩); have b6q := below_then' (a := wr) (B := wr.heap.size) (by (repeat' (first | (with_reducible exact Below.refl _ _) | (with_reducible assumption) | (with_reducible refine Below.drew ?_) | (with_reducible refine below_drewN ?_ _) | (with_reducible refine Below.alloc ?_ ?_ _) | (with_reducible refine Below.setCell ?_ ?_ _) | omega | (simp; done) | (simp; omega)))) b6 (by first | omega | (simp; done) | (simp; omega)); have hsm := csame B6 c6 w6 o6.rd.rb (HRH.out.below b6q (Nat.le_refl _)))
                | ((go_at_call 24; (with_reducible refine (hsm).mono ?_); rintro e w7 ⟨rfl, q7, rfl⟩))
                | fail "no arm")
              go_wp2
              go_returns
              have b9 := below_drewN b6q q7
              have e9 := HRE3.out
              rw [if_neg HEQ.out] at e9
              rw [← e9]
              exact RWPost.not (HAW.out.below b9) (HST.out.trans (RStep.of_below b9 (by have := HST.out.size; omega)))
    · rw [if_pos hl]
      have HL := Lib.hid hl
      clear hon hl
      go_enter Try.func116, Try.ntmps116
      go_wp2_with (first
        | ((go_at_call 90; (with_reducible refine (ctk).mono ?_); rintro e w1 ⟨B, k, d, rfl, rb1, _, d1, st1⟩); have hk : ((k : Int) != 12) = true := (by rw [bne_iff_ne]; have e1 : L.length = k := rb1.1; have e2 := HL.out; omega); have D1' := Lib.hid d1; have S1 := Lib.hid st1; clear rb1 d1 st1)
        | fail "no arm")
      go_returns
      exact RWPost.not D1'.out (BA.out.trans S1.out)
  · rw [if_pos her]
    by_cases h53 : er = 53
    · subst h53
      clear her hon
      go_enter Try.func116, Try.ntmps116
      go_wp2_with (first
        | ((go_at_call 90; (with_reducible refine (ctk).mono ?_); rintro e w1 ⟨B, k, d, rfl, rb1, _, d1, st1⟩); have D1' := Lib.hid d1; have S1 := Lib.hid st1; clear rb1 d1 st1)
        | fail "no arm")
      go_returns
      exact RWPost.not D1'.out (BA.out.trans S1.out)
    · have hne : (er != 0) = true := by rw [bne_iff_ne]; exact her
      have hne2 : (er == 53) = false := by rw [beq_eq_false_iff_ne]; exact h53
      have HE := Lib.hid her
      have HE53 := Lib.hid h53
      clear her hon h53
      go_enter Try.func116, Try.ntmps116
      go_wp2_with (first
        | ((go_at_call 90; (with_reducible refine (ctk).mono ?_); rintro e w1 ⟨B, k, d, rfl, rb1, _, d1, st1⟩); have D1' := Lib.hid d1; have S1 := Lib.hid st1; clear rb1 d1 st1)
        | fail "no arm")
      go_returns
      exact RWPost.bad HE.out HE53.out D1'.out (BA.out.trans S1.out)
end
end Go.Proofs.Ytninidpbchcliaa
namespace Go.Proofs.Ytninidpbchcliaa
open Go.RowKit
set_option linter.unusedVariables false
set_option linter.unusedSimpArgs false
def rslotC (q : RDiskP) (fl ml fr mr : Nat) (s : SlV3) (B : Option Addr) (n c : Nat) : List Value := [.pointer (some ⟨q.d, 0, none⟩), .int .i64 (fl : Nat), .int .i64 (ml : Nat), .pointer (some ⟨q.d, 0, none⟩), .int .i64 (fr : Nat), .int .i64 (mr : Nat), .int .i64 (s.now : Nat), .int .i64 s.number, .slice B n c]
def RSlotsAt (w : World) (base g : Nat) (q : RDiskP) (fl ml fr mr : Nat) (s : SlV3) : Prop := ∃ B n c, Blk w g 130 (rslotC q fl ml fr mr s B n c) ∧ n ≤ c ∧ c ≤ maxLen ∧ BytesAt w base ⟨B, n, c⟩ s.load ∧ s.now ≤ 2
section
variable {w w' : World} {base g fl ml fr mr : Nat} {q : RDiskP} {D : DiskV} {s : SlV3}
theorem RSlotsAt.below (h : RSlotsAt w base g q fl ml fr mr s) (hb : Below w.heap.size w w') : RSlotsAt w' base g q fl ml fr mr s := by
  obtain ⟨B, n, c, h1, h2, h3, h4, h5⟩ := h
  exact ⟨B, n, c, h1.below hb h1.lt, h2, h3, h4.below hb, h5⟩
theorem RSlotsAt.rstep (h : RSlotsAt w base g q fl ml fr mr s) (hd : RDiskS w base q D) (k : RStep base q w w') : RSlotsAt w' base g q fl ml fr mr s := by
  obtain ⟨B, n, c, h1, h2, h3, h4, h5⟩ := h
  exact ⟨B, n, c, hd.blk h1 k (by decide), h2, h3, h4.rstep hd k, h5⟩
theorem RSlotsAt.set1 {cs : List Value} {B : Option Addr} {n c : Nat} {load : List UInt8} (hb : Blk w g 130 cs) (hd : RDiskS w base q D) (hl : BytesAt w base ⟨B, n, c⟩ load) (hg : base ≤ g) (i : Nat) (u : Value) : Blk (w.setCell ⟨g, i, none⟩ u) g 130 (cs.set i u) ∧ RDiskS (w.setCell ⟨g, i, none⟩ u) base q D ∧ BytesAt (w.setCell ⟨g, i, none⟩ u) base ⟨B, n, c⟩ load := by
  have kk : Keep (· = g) w (w.setCell ⟨g, i, none⟩ u) := Keep.one (grown_setCell _)
  refine ⟨hb.set_ i u, hd.apart kk (fun g' e => ?_), hl.keepF kk (fun g' e => ?_)⟩
  · subst e
    obtain ⟨_, ⟨c1, b1⟩, _⟩ := hd.kinds
    exact ⟨hg, hb.ne_ b1 (by decide), _, _, hb, by decide⟩
  · subst e
    exact ⟨hg, not_u8 hb (by decide)⟩
theorem RSlotsAt.sets {B0 B : Option Addr} {n0 d0 n c oth : Nat} {o : Int} {load : List UInt8} (hb : Blk w g 130 (rslotC q fl ml fr mr s B0 n0 d0)) (hd : RDiskS w base q D) (hg : base ≤ g) (hl : BytesAt w base ⟨B, n, c⟩ load) (hc : n ≤ c) (hcm : c ≤ maxLen) (ho : (oth : Int) = o) (h2 : oth ≤ 2) (num : Int) :
    RDiskS (((w.setCell ⟨g, 6, none⟩ (.int .i64 o)).setCell ⟨g, 7, none⟩ (.int .i64 num)).setCell ⟨g, 8, none⟩ (.slice B n c)) base q D ∧ RSlotsAt (((w.setCell ⟨g, 6, none⟩ (.int .i64 o)).setCell ⟨g, 7, none⟩ (.int .i64 num)).setCell ⟨g, 8, none⟩ (.slice B n c)) base g q fl ml fr mr ⟨oth, num, load⟩ := by
  obtain ⟨b1, d1, l1⟩ := RSlotsAt.set1 hb hd hl hg 6 (.int .i64 o)
  obtain ⟨b2, d2, l2⟩ := RSlotsAt.set1 b1 d1 l1 hg 7 (.int .i64 num)
  obtain ⟨b3, d3, l3⟩ := RSlotsAt.set1 b2 d2 l2 hg 8 (.slice B n c)
  refine ⟨d3, B, n, c, ?_, hc, hcm, l3, h2⟩
  subst ho
  exact b3
/-- What the document's Open leaves. -/
def ROSPost (w : World) (base : Nat) (q : RDiskP) (fl ml fr mr : Nat) (R : DiskV × SlV3 × Int) (e : Ending) (w' : World) : Prop :=
  ∃ P, e = .returned (.tuple #[.pointer P, .int .i64 R.2.2]) ∧ (R.2.2 ≠ 0 → P = none) ∧ (R.2.2 = 0 → ∃ g, P = some ⟨g, 0, none⟩ ∧ w.heap.size ≤ g ∧ RSlotsAt w' base g q fl ml fr mr R.2.1) ∧ RDiskS w' base q R.1 ∧ RStep base q w w'
theorem ROSPost.no {z : Int} (hz : z ≠ 0) (hd : RDiskS w' base q D) (hs : RStep base q w w') : ROSPost w base q fl ml fr mr (D, s, z) (.returned (.tuple #[.pointer none, .int .i64 z])) w' :=
  ⟨none, rfl, fun _ => rfl, fun e => absurd e hz, hd, hs⟩
theorem wholeV_same (D : DiskV) (f m : Nat) : (wholeV D f m).1.many = D.many ∧ (wholeV D f m).1.waits = D.waits := by
  have h : (aReadV D f m 0).1.many = D.many ∧ (aReadV D f m 0).1.waits = D.waits := by
    unfold aReadV readV
    split
    · exact ⟨rfl, rfl⟩
    · split
      · exact ⟨rfl, rfl⟩
      · exact ⟨rfl, rfl⟩
  have h2 : ∀ k, (rdK (aReadV D f m 0).1 k).many = D.many ∧ (rdK (aReadV D f m 0).1 k).waits = D.waits := fun k => by
    obtain ⟨o, e⟩ := rdK_ops (aReadV D f m 0).1 k
    rw [e]; exact h
  unfold wholeV
  split
  · exact h
  split
  · exact h
  split
  · exact h
  split
  · exact h2 _
  · exact h2 _
set_option maxRecDepth 100000 in
set_option maxHeartbeats 20000000 in
theorem ropen10_any (hd : RDiskS w base q D) (hs : base ≤ w.heap.size) (hml : 5 ≤ ml) (hmr : 5 ≤ mr) (hfl : fl + ml ≤ D.many) (hfr : fr + mr ≤ D.many) :
    Calls Try.prog 102 #[.agg #[.pointer (some ⟨q.d, 0, none⟩), .int .i64 (fl : Nat), .int .i64 (ml : Nat)], .agg #[.pointer (some ⟨q.d, 0, none⟩), .int .i64 (fr : Nat), .int .i64 (mr : Nat)]] w (ROSPost w base q fl ml fr mr (openSV D fl ml fr mr)) := by
  obtain ⟨w0, hw0⟩ : ∃ w0, ((w.alloc (.cells #[.pointer (some ⟨q.d, 0, none⟩), .int .i64 (fl : Nat), .int .i64 (ml : Nat)] 84)).alloc (.cells #[.pointer (some ⟨q.d, 0, none⟩), .int .i64 (fr : Nat), .int .i64 (mr : Nat)] 84)).alloc (.cells #[.pointer (some ⟨q.d, 0, none⟩), .int .i64 (fl : Nat), .int .i64 (ml : Nat), .pointer (some ⟨q.d, 0, none⟩), .int .i64 (fr : Nat), .int .i64 (mr : Nat), .int .i64 2, .int .i64 0, .slice none 0 0] 130) = w0 := ⟨_, rfl⟩
  have bA : Below w.heap.size w w0 := by rw [← hw0]; exact (by (repeat' (first | (with_reducible exact Below.refl _ _) | (with_reducible assumption) | (with_reducible refine Below.drew ?_) | (with_reducible refine below_drewN ?_ _) | (with_reducible refine Below.alloc ?_ ?_ _) | (with_reducible refine Below.setCell ?_ ?_ _) | omega | (simp; done) | (simp; omega))))
  have xl : Blk w0 w.heap.size 84 [.pointer (some ⟨q.d, 0, none⟩), .int .i64 (fl : Nat), .int .i64 (ml : Nat)] := by rw [← hw0]; exact ((Blk.top w rfl rfl).alloc _).alloc _
  have xr : Blk w0 (w.heap.size + 1) 84 [.pointer (some ⟨q.d, 0, none⟩), .int .i64 (fr : Nat), .int .i64 (mr : Nat)] := by rw [← hw0]; exact (Blk.top _ (by simp) rfl).alloc _
  have xs : Blk w0 (w.heap.size + 2) 130 (rslotC q fl ml fr mr ⟨2, 0, []⟩ none 0 0) := by rw [← hw0]; exact Blk.top _ (by simp) rfl
  have HW0 := Lib.hid hw0
  have hd0 := hd.below bA
  have s0 := bA.size
  have c1 := rwhole_any hd0 (by omega) hml hfl
  obtain ⟨m1, m2⟩ := wholeV_same D fl ml
  have c2 := fun {W : World} (h : RDiskS W base q (wholeV D fl ml).1) (hs : base ≤ W.heap.size) => rwhole_any h hs hmr (by rw [m1]; exact hfr)
  have hR : openSV D fl ml fr mr = if (wholeV D fl ml).2.2.2 ≠ 0 ∧ (wholeV D fl ml).2.2.2 ≠ 53 then ((wholeV D fl ml).1, ⟨2, 0, []⟩, (wholeV D fl ml).2.2.2)
      else if (wholeV (wholeV D fl ml).1 fr mr).2.2.2 ≠ 0 ∧ (wholeV (wholeV D fl ml).1 fr mr).2.2.2 ≠ 53 then ((wholeV (wholeV D fl ml).1 fr mr).1, ⟨2, 0, []⟩, (wholeV (wholeV D fl ml).1 fr mr).2.2.2)
      else if (wholeV D fl ml).2.2.2 = 0 ∧ ((wholeV (wholeV D fl ml).1 fr mr).2.2.2 ≠ 0 ∨ (wholeV (wholeV D fl ml).1 fr mr).2.2.1 ≤ (wholeV D fl ml).2.2.1) then ((wholeV (wholeV D fl ml).1 fr mr).1, ⟨0, (wholeV D fl ml).2.2.1, (wholeV D fl ml).2.1⟩, 0)
      else if (wholeV (wholeV D fl ml).1 fr mr).2.2.2 = 0 then ((wholeV (wholeV D fl ml).1 fr mr).1, ⟨1, (wholeV (wholeV D fl ml).1 fr mr).2.2.1, (wholeV (wholeV D fl ml).1 fr mr).2.1⟩, 0)
      else ((wholeV (wholeV D fl ml).1 fr mr).1, ⟨2, 0, []⟩, 0) := rfl
  generalize openSV D fl ml fr mr = R at *
  generalize wholeV D fl ml = W1 at *
  obtain ⟨D1, L1, N1, e1⟩ := W1
  simp only at c1 c2 hR
  generalize wholeV D1 fr mr = W2 at *
  obtain ⟨D2, L2, N2, e2⟩ := W2
  simp only at hR
  have HR := Lib.hid hR
  have HD0 := Lib.hid hd0
  have HXL := Lib.hid xl
  have HXR := Lib.hid xr
  have HXS := Lib.hid xs
  have BA := Lib.hid (RStep.of_below (q := q) bA hs)
  clear hR hd hd0 bA hw0 xl xr xs m1 m2
  go_enter Try.func102, Try.ntmps102
  go_upto_region 2 with fail
  rw [HW0.out]
  refine code_world (fun W => w0 = W) rfl ?_
  rintro W rfl
  have y0 : w0.cell? ⟨w.heap.size, 0, none⟩ = some (.pointer (some ⟨q.d, 0, none⟩)) := HXL.out.cell 0
  have y1 : w0.cell? ⟨w.heap.size, 1, none⟩ = some (.int .i64 (fl : Nat)) := HXL.out.cell 1
  have y2 : w0.cell? ⟨w.heap.size, 2, none⟩ = some (.int .i64 (ml : Nat)) := HXL.out.cell 2
  go_upto_region 3 with (first
    | ((go_at_call 116; (with_reducible refine (c1).mono ?_); rintro e w1 ⟨B1, n1, d1, N1', ok1, er1, rfl, p0, p53, px, hd1, st1⟩); have D1' := Lib.hid hd1; have S1 := Lib.hid st1; have X1 := Lib.hid (HD0.out.blk HXS.out st1 (by decide)); have XR1 := Lib.hid (HD0.out.blk HXR.out st1 (by decide)); have s1 := st1.size; have P0 := Lib.hid p0; have P53 := Lib.hid p53; have PX := Lib.hid px; clear hd1 st1 p0 p53 px)
    | fail "no arm")
  by_cases her : er1 = 0
  rotate_left 1
  · have hne : (er1 != 0) = true := by rw [bne_iff_ne]; exact her
    have h10 : e1 ≠ 0 := fun e => her (P0.out e).2.1
    have h153 : e1 ≠ 53 := fun e => her (P53.out e).2
    obtain ⟨_, hee⟩ := PX.out h10 h153
    have H10 := Lib.hid h10
    have H153 := Lib.hid h153
    try simp only at hee
    subst hee
    clear her h10 h153
    go_wp2
    go_ret2
    have e9 := HR.out
    rw [if_pos ⟨H10.out, H153.out⟩] at e9
    rw [e9]
    exact ROSPost.no H10.out D1'.out (BA.out.trans S1.out)
  subst her
  have he1 : e1 = 0 ∨ e1 = 53 := by
    by_cases q1 : e1 = 0
    · exact .inl q1
    · by_cases q2 : e1 = 53
      · exact .inr q2
      · exact .inl (PX.out q1 q2).2.symm
  have z0 : w1.cell? ⟨w.heap.size + 1, 0, none⟩ = some (.pointer (some ⟨q.d, 0, none⟩)) := XR1.out.cell 0
  have z1 : w1.cell? ⟨w.heap.size + 1, 1, none⟩ = some (.int .i64 (fr : Nat)) := XR1.out.cell 1
  have z2 : w1.cell? ⟨w.heap.size + 1, 2, none⟩ = some (.int .i64 (mr : Nat)) := XR1.out.cell 2
  have HE1 := Lib.hid he1
  clear he1
  go_upto_region 6 with (first
    | ((go_at_call 116; (with_reducible refine (c2 D1'.out (by omega)).mono ?_); rintro e w2 ⟨B2, n2, d2, N2', ok2, er2, rfl, p0, p53, px, hd2, st2⟩); have D2' := Lib.hid hd2; have X2 := Lib.hid (D1'.out.blk X1.out st2 (by decide)); have s2 := st2.size; have Q0 := Lib.hid p0; have Q53 := Lib.hid p53; have QX := Lib.hid px; have K2 := Lib.hid st2; have S2 := Lib.hid ((BA.out.trans S1.out).trans st2); clear hd2 st2 p0 p53 px)
    | fail "no arm")
  by_cases her2 : er2 = 0
  rotate_left 1
  · have hne : (er2 != 0) = true := by rw [bne_iff_ne]; exact her2
    have h10 : e2 ≠ 0 := fun e => her2 (Q0.out e).2.1
    have h153 : e2 ≠ 53 := fun e => her2 (Q53.out e).2
    obtain ⟨_, hee⟩ := QX.out h10 h153
    have H10 := Lib.hid h10
    have H153 := Lib.hid h153
    try simp only at hee
    subst hee
    clear her2 h10 h153
    go_wp2
    go_ret2
    have e9 := HR.out
    rw [if_neg (fun e => by rcases HE1.out with q1 | q1; exact e.1 q1; exact e.2 q1), if_pos ⟨H10.out, H153.out⟩] at e9
    rw [e9]
    exact ROSPost.no H10.out D2'.out S2.out
  subst her2
  have he2 : e2 = 0 ∨ e2 = 53 := by
    by_cases q1 : e2 = 0
    · exact .inl q1
    · by_cases q2 : e2 = 53
      · exact .inr q2
      · exact .inl (QX.out q1 q2).2.symm
  rcases HE1.out with q1 | q1
  · obtain ⟨r1, _, r2, r3, r4, _, r5⟩ := P0.out q1
    try simp only at r1 r2 r5
    subst r1 r2
    have BA1 := Lib.hid (r5.rstep D1'.out K2.out)
    rcases he2 with q2 | q2
    · obtain ⟨t1, _, t2, t3, t4, _, t5⟩ := Q0.out q2
      try simp only at t1 t2 t5
      subst t1 t2 q1 q2
      have BA2 := Lib.hid t5
      by_cases hge : N2' ≤ N1'
      · have HG := Lib.hid hge
        have HRR := Lib.hid (show R = (D2, ⟨0, N1', L1⟩, 0) from by have e9 := HR.out; rw [if_neg (by simp), if_neg (by simp), if_pos ⟨rfl, .inr hge⟩] at e9; exact e9)
        clear r5 t5
        have u6 : w2.cell? ⟨w.heap.size + 2, 6, none⟩ = some (.int .i64 2) := X2.out.cell 6
        have u7 : w2.cell? ⟨w.heap.size + 2, 7, none⟩ = some (.int .i64 0) := X2.out.cell 7
        have u8 : w2.cell? ⟨w.heap.size + 2, 8, none⟩ = some (.slice none 0 0) := X2.out.cell 8
        have v6 := X2.out.frozen 6
        have v7 := X2.out.frozen 7
        have v8 := X2.out.frozen 8
        have l2 := X2.out.lt
        have FIN := Lib.hid (RSlotsAt.sets (o := 0) (oth := 0) X2.out D2'.out (by omega) (BA1.out) r3 r4 rfl (by omega) N1')
        have bF := Lib.hid ((((Below.refl w.heap.size w2).setCell (p := ⟨w.heap.size + 2, 6, none⟩) (by show w.heap.size ≤ w.heap.size + 2; omega) (.int .i64 0)).setCell (p := ⟨w.heap.size + 2, 7, none⟩) (by show w.heap.size ≤ w.heap.size + 2; omega) (.int .i64 N1')).setCell (p := ⟨w.heap.size + 2, 8, none⟩) (by show w.heap.size ≤ w.heap.size + 2; omega) (.slice B1 n1 d1))
        go_wp2
        go_ret2
        rw [HRR.out]
        exact ⟨_, rfl, fun e => absurd rfl e, fun _ => ⟨_, rfl, by omega, FIN.out.2⟩, FIN.out.1, S2.out.then_below bF.out hs⟩
      · have HG := Lib.hid hge
        have HRR := Lib.hid (show R = (D2, ⟨1, N2', L2⟩, 0) from by have e9 := HR.out; rw [if_neg (by simp), if_neg (by simp), if_neg (fun e => by rcases e.2 with e | e; exact e rfl; exact hge e), if_pos rfl] at e9; exact e9)
        clear r5 t5
        have u6 : w2.cell? ⟨w.heap.size + 2, 6, none⟩ = some (.int .i64 2) := X2.out.cell 6
        have u7 : w2.cell? ⟨w.heap.size + 2, 7, none⟩ = some (.int .i64 0) := X2.out.cell 7
        have u8 : w2.cell? ⟨w.heap.size + 2, 8, none⟩ = some (.slice none 0 0) := X2.out.cell 8
        have v6 := X2.out.frozen 6
        have v7 := X2.out.frozen 7
        have v8 := X2.out.frozen 8
        have l2 := X2.out.lt
        have FIN := Lib.hid (RSlotsAt.sets (o := 1) (oth := 1) X2.out D2'.out (by omega) (BA2.out) t3 t4 rfl (by omega) N2')
        have bF := Lib.hid ((((Below.refl w.heap.size w2).setCell (p := ⟨w.heap.size + 2, 6, none⟩) (by show w.heap.size ≤ w.heap.size + 2; omega) (.int .i64 1)).setCell (p := ⟨w.heap.size + 2, 7, none⟩) (by show w.heap.size ≤ w.heap.size + 2; omega) (.int .i64 N2')).setCell (p := ⟨w.heap.size + 2, 8, none⟩) (by show w.heap.size ≤ w.heap.size + 2; omega) (.slice B2 n2 d2))
        go_wp2
        go_ret2
        rw [HRR.out]
        exact ⟨_, rfl, fun e => absurd rfl e, fun _ => ⟨_, rfl, by omega, FIN.out.2⟩, FIN.out.1, S2.out.then_below bF.out hs⟩
    · obtain ⟨t1, _⟩ := Q53.out q2
      subst t1 q1 q2
      have HRR := Lib.hid (show R = (D2, ⟨0, N1', L1⟩, 0) from by have e9 := HR.out; rw [if_neg (by simp), if_neg (by simp), if_pos ⟨rfl, .inl (by simp)⟩] at e9; exact e9)
      clear r5
      have u6 : w2.cell? ⟨w.heap.size + 2, 6, none⟩ = some (.int .i64 2) := X2.out.cell 6
      have u7 : w2.cell? ⟨w.heap.size + 2, 7, none⟩ = some (.int .i64 0) := X2.out.cell 7
      have u8 : w2.cell? ⟨w.heap.size + 2, 8, none⟩ = some (.slice none 0 0) := X2.out.cell 8
      have v6 := X2.out.frozen 6
      have v7 := X2.out.frozen 7
      have v8 := X2.out.frozen 8
      have l2 := X2.out.lt
      have FIN := Lib.hid (RSlotsAt.sets (o := 0) (oth := 0) X2.out D2'.out (by omega) (BA1.out) r3 r4 rfl (by omega) N1')
      have bF := Lib.hid ((((Below.refl w.heap.size w2).setCell (p := ⟨w.heap.size + 2, 6, none⟩) (by show w.heap.size ≤ w.heap.size + 2; omega) (.int .i64 0)).setCell (p := ⟨w.heap.size + 2, 7, none⟩) (by show w.heap.size ≤ w.heap.size + 2; omega) (.int .i64 N1')).setCell (p := ⟨w.heap.size + 2, 8, none⟩) (by show w.heap.size ≤ w.heap.size + 2; omega) (.slice B1 n1 d1))
      go_wp2
      go_ret2
      rw [HRR.out]
      exact ⟨_, rfl, fun e => absurd rfl e, fun _ => ⟨_, rfl, by omega, FIN.out.2⟩, FIN.out.1, S2.out.then_below bF.out hs⟩
  · obtain ⟨r1, _⟩ := P53.out q1
    subst r1
    rcases he2 with q2 | q2
    · obtain ⟨t1, _, t2, t3, t4, _, t5⟩ := Q0.out q2
      try simp only at t1 t2 t5
      subst t1 t2 q1 q2
      have BA2 := Lib.hid t5
      have HRR := Lib.hid (show R = (D2, ⟨1, N2', L2⟩, 0) from by have e9 := HR.out; rw [if_neg (by simp), if_neg (by simp), if_neg (fun e => absurd e.1 (by simp)), if_pos rfl] at e9; exact e9)
      clear t5
      have u6 : w2.cell? ⟨w.heap.size + 2, 6, none⟩ = some (.int .i64 2) := X2.out.cell 6
      have u7 : w2.cell? ⟨w.heap.size + 2, 7, none⟩ = some (.int .i64 0) := X2.out.cell 7
      have u8 : w2.cell? ⟨w.heap.size + 2, 8, none⟩ = some (.slice none 0 0) := X2.out.cell 8
      have v6 := X2.out.frozen 6
      have v7 := X2.out.frozen 7
      have v8 := X2.out.frozen 8
      have l2 := X2.out.lt
      have FIN := Lib.hid (RSlotsAt.sets (o := 1) (oth := 1) X2.out D2'.out (by omega) (BA2.out) t3 t4 rfl (by omega) N2')
      have bF := Lib.hid ((((Below.refl w.heap.size w2).setCell (p := ⟨w.heap.size + 2, 6, none⟩) (by show w.heap.size ≤ w.heap.size + 2; omega) (.int .i64 1)).setCell (p := ⟨w.heap.size + 2, 7, none⟩) (by show w.heap.size ≤ w.heap.size + 2; omega) (.int .i64 N2')).setCell (p := ⟨w.heap.size + 2, 8, none⟩) (by show w.heap.size ≤ w.heap.size + 2; omega) (.slice B2 n2 d2))
      go_wp2
      go_ret2
      rw [HRR.out]
      exact ⟨_, rfl, fun e => absurd rfl e, fun _ => ⟨_, rfl, by omega, FIN.out.2⟩, FIN.out.1, S2.out.then_below bF.out hs⟩
    · obtain ⟨t1, _⟩ := Q53.out q2
      subst t1 q1 q2
      have HRR := Lib.hid (show R = (D2, ⟨2, 0, []⟩, 0) from by have e9 := HR.out; rw [if_neg (by simp), if_neg (by simp), if_neg (fun e => absurd e.1 (by simp)), if_neg (by simp)] at e9; exact e9)
      go_wp2
      go_ret2
      rw [HRR.out]
      exact ⟨_, rfl, fun e => absurd rfl e, fun _ => ⟨_, rfl, by omega, ⟨none, 0, 0, X2.out, Nat.le_refl _, by decide, ⟨⟨rfl, Row.nil _ _ _⟩, by decide, fun h => absurd h (by simp)⟩, Nat.le_refl 2⟩⟩, D2'.out, S2.out⟩
end
end Go.Proofs.Ytninidpbchcliaa
namespace Go.Proofs.Ytninidpbchcliaa
open Go.RowKit
set_option linter.unusedVariables false
set_option linter.unusedSimpArgs false
theorem pad_take {load : List UInt8} {j t : Nat} (h : 128 ≤ (load.drop (j * 128)).length + t) (h2 : t = 0 ∨ (load.drop (j * 128)).length + t ≤ 128) : ((load.drop (j * 128)) ++ List.replicate t 0).take 128 = padL load j := by
  unfold padL
  generalize load.drop (j * 128) = R at *
  rcases h2 with h2 | h2
  · subst h2
    rw [List.replicate_zero, List.append_nil]
    have e : 128 - (R.take 128).length = 0 := by rw [List.length_take]; omega
    rw [e, List.replicate_zero, List.append_nil]
  · rw [List.take_of_length_le (by rw [List.length_append, List.length_replicate]; omega), List.take_of_length_le (by omega)]
    congr 2
    omega
/-- Step by step. -/
def goOn (P : DiskV × Int) (F : DiskV → DiskV × Int) : DiskV × Int := if P.2 ≠ 0 then P else F P.1
theorem goOn_bad {P : DiskV × Int} {F : DiskV → DiskV × Int} (h : P.2 ≠ 0) : goOn P F = P := by unfold goOn; rw [if_pos h]
theorem goOn_go {P : DiskV × Int} {F : DiskV → DiskV × Int} (h : P.2 = 0) : goOn P F = F P.1 := by unfold goOn; rw [if_neg (by rw [h]; simp)]
theorem saveA_on (D : DiskV) (f m : Nat) (number : Int) (load : List UInt8) : saveA D f m number load = goOn (goOn (goOn (goOn (goOn (aWriteV D f m 0 zerosL) flushV) (fun X => fillK X f m load 0 (secsN load.length))) flushV) (fun X => aPutV X f m 0 2 number (headL load))) flushV := by
  unfold saveA fillV
  by_cases q1 : (aWriteV D f m 0 zerosL).2 = 0
  · rw [goOn_go q1, if_neg (by rw [q1]; simp)]
    generalize flushV (aWriteV D f m 0 zerosL).1 = F1
    by_cases q2 : F1.2 = 0
    · rw [goOn_go q2, if_neg (by rw [q2]; simp)]
      generalize fillK F1.1 f m load 0 (secsN load.length) = FK
      by_cases q3 : FK.2 = 0
      · rw [goOn_go q3, if_neg (show ¬ FK.2 ≠ 0 by rw [q3]; simp)]
        generalize flushV FK.1 = F2
        by_cases q4 : F2.2 = 0
        · rw [goOn_go q4, if_neg (by rw [q4]; simp)]
          generalize aPutV F2.1 f m 0 2 number (headL load) = P
          by_cases q5 : P.2 = 0
          · rw [goOn_go q5, if_neg (by rw [q5]; simp)]
          · rw [goOn_bad q5, if_pos q5]
        · rw [goOn_bad q4, goOn_bad q4, if_pos q4]
      · rw [goOn_bad q3, goOn_bad q3, goOn_bad q3, if_pos q3, if_pos q3]
    · rw [goOn_bad q2, goOn_bad q2, goOn_bad q2, goOn_bad q2, if_pos q2]
  · rw [goOn_bad q1, goOn_bad q1, goOn_bad q1, goOn_bad q1, goOn_bad q1, if_pos q1]
/-- What is known in the middle of Save. -/
structure RSv (w0 w : World) (base : Nat) (q : RDiskP) (D : DiskV) (f m g ga fl ml fr mr : Nat) (s : SlV3) (A : Option Addr) (n c : Nat) (load : List UInt8) (B0 : Option Addr) (n0 d0 : Nat) : Prop where
  disk : RDiskS w base q D
  x : Blk w g 130 (rslotC q fl ml fr mr s B0 n0 d0)
  a : Blk w ga 84 [.pointer (some ⟨q.d, 0, none⟩), .int .i64 (f : Nat), .int .i64 (m : Nat)]
  l : BytesAt w base ⟨A, n, c⟩ load
  l0 : BytesAt w base ⟨B0, n0, d0⟩ s.load
  st : RStep base q w0 w
  bs : base ≤ w0.heap.size
section
variable {w w' w0 : World} {base g ga f m fl ml fr mr : Nat} {q : RDiskP} {D D' : DiskV} {s : SlV3} {A B0 : Option Addr} {n c n0 d0 : Nat} {load : List UInt8}
theorem RSv.size (h : RSv w0 w base q D f m g ga fl ml fr mr s A n c load B0 n0 d0) : base ≤ w.heap.size := Nat.le_trans h.bs h.st.size
theorem RSv.below (h : RSv w0 w base q D f m g ga fl ml fr mr s A n c load B0 n0 d0) (hb : Below w.heap.size w w') : RSv w0 w' base q D f m g ga fl ml fr mr s A n c load B0 n0 d0 :=
  ⟨h.disk.below hb, h.x.below hb h.x.lt, h.a.below hb h.a.lt, h.l.below hb, h.l0.below hb, h.st.trans (RStep.of_below hb h.size), h.bs⟩
theorem RSv.rstep (h : RSv w0 w base q D f m g ga fl ml fr mr s A n c load B0 n0 d0) (hd : RDiskS w' base q D') (k : RStep base q w w') : RSv w0 w' base q D' f m g ga fl ml fr mr s A n c load B0 n0 d0 :=
  ⟨hd, h.disk.blk h.x k (by decide), h.disk.blk h.a k (by decide), h.l.rstep h.disk k, h.l0.rstep h.disk k, h.st.trans k, h.bs⟩
/-- What Save changes of the rest: a step of the disk, then the slots. -/
def RSaved (base : Nat) (q : RDiskP) (g : Nat) (w w' : World) : Prop := ∃ (w1 : World) (cs : List Value), RStep base q w w1 ∧ Blk w1 g 130 cs ∧ Keep (· = g) w1 w' ∧ Below base w1 w'
theorem RSv.saved (h : RSv w0 w base q D f m g ga fl ml fr mr s A n c load B0 n0 d0) : RSaved base q g w0 w := ⟨w, _, h.st, h.x, Keep.refl _ _, Below.refl _ _⟩
theorem RSv.saved3 (h : RSv w0 w base q D f m g ga fl ml fr mr s A n c load B0 n0 d0) (hg : base ≤ g) (u1 u2 u3 : Value) : RSaved base q g w0 (((w.setCell ⟨g, 6, none⟩ u1).setCell ⟨g, 7, none⟩ u2).setCell ⟨g, 8, none⟩ u3) :=
  ⟨w, _, h.st, h.x, (((Keep.refl (· = g) w).set_ u1 rfl).set_ u2 rfl).set_ u3 rfl, (((Below.refl base w).setCell (p := ⟨g, 6, none⟩) hg u1).setCell (p := ⟨g, 7, none⟩) hg u2).setCell (p := ⟨g, 8, none⟩) hg u3⟩
theorem fill_on (X : DiskV) (z : Int) (f m j t : Nat) (load : List UInt8) (hz : z = 0) : goOn (X, z) (fun Y => fillK Y f m load j (t + 1)) = goOn (aWriteV X f m ((1 + j : Nat) : Int) (padL load j)) (fun Y => fillK Y f m load (j + 1) t) := by
  rw [goOn_go hz]
  by_cases h : (aWriteV X f m ((1 + j : Nat) : Int) (padL load j)).2 = 0
  · rw [goOn_go h]
    exact fillK_go h
  · rw [goOn_bad h]
    exact fillK_stop h
end
section
variable {w w' : World} {base g fl ml fr mr : Nat} {q : RDiskP} {D : DiskV} {s : SlV3} {A : Option Addr} {n c : Nat} {load : List UInt8}
set_option maxRecDepth 100000 in
set_option maxHeartbeats 20000000 in
theorem rsave_main (R : DiskV × SlV3 × Int) (oth f m : Nat) (hsel : (oth = 0 ∧ f = fl ∧ m = ml ∧ s.now ≠ 0) ∨ (oth = 1 ∧ f = fr ∧ m = mr ∧ s.now = 0))
    (hR : R = if (saveA D f m (s.number + 1) load).2 ≠ 0 then ((saveA D f m (s.number + 1) load).1, s, (saveA D f m (s.number + 1) load).2) else ((saveA D f m (s.number + 1) load).1, ⟨oth, s.number + 1, load⟩, 0))
    (hS : RSlotsAt w base g q fl ml fr mr s) (hd : RDiskS w base q D) (hs : base ≤ w.heap.size) (hg : base ≤ g) (hm : 5 ≤ m) (hfm : f + m ≤ D.many)
    (hl : BytesAt w base ⟨A, n, c⟩ load) (hc : n ≤ c) (hcm : c ≤ maxLen) (hn : n ≤ 512) (hnum : s.number ≠ 9223372036854775807) (hnb : -9223372036854775808 ≤ s.number ∧ s.number ≤ 9223372036854775807) (hw : D.waits.length < 800000) :
    Calls Try.prog 103 #[.pointer (some ⟨g, 0, none⟩), .slice A n c] w fun e w' => e = .returned (.int .i64 R.2.2) ∧ RDiskS w' base q R.1 ∧ RSlotsAt w' base g q fl ml fr mr R.2.1 ∧ RSaved base q g w w' := by
  have hlen : load.length = n := hl.1.1
  have hSA := hS
  obtain ⟨B0, n0, d0, h1, h2, h3, h4, h5⟩ := hS
  have hK4 : secsN n ≤ 4 := by unfold secsN; omega
  have hKn : ∀ j, (j < secsN n ↔ j * 128 < n) := fun j => by unfold secsN; omega
  have HKN := Lib.hid hKn
  rw [saveA_on, hlen] at hR
  generalize hKe : secsN n = K at *
  obtain ⟨P1, hP1⟩ : ∃ P1, P1 = aWriteV D f m 0 zerosL := ⟨_, rfl⟩
  obtain ⟨P2, hP2⟩ : ∃ P2, P2 = goOn P1 flushV := ⟨_, rfl⟩
  obtain ⟨P3, hP3⟩ : ∃ P3, P3 = goOn P2 (fun X => fillK X f m load 0 K) := ⟨_, rfl⟩
  obtain ⟨P4, hP4⟩ : ∃ P4, P4 = goOn P3 flushV := ⟨_, rfl⟩
  obtain ⟨P5, hP5⟩ : ∃ P5, P5 = goOn P4 (fun X => aPutV X f m 0 2 (s.number + 1) (headL load)) := ⟨_, rfl⟩
  obtain ⟨P6, hP6⟩ : ∃ P6, P6 = goOn P5 flushV := ⟨_, rfl⟩
  rw [← hP1, ← hP2, ← hP3, ← hP4, ← hP5, ← hP6] at hR
  have f1 : P1.1.many = D.many ∧ P1.1.waits.length ≤ D.waits.length + 1 := by rw [hP1]; exact aWriteV_many D f m 0 zerosL
  have f2 : P2.1.many = D.many ∧ P2.1.waits.length ≤ D.waits.length + 1 := by
    rw [hP2]
    by_cases h : P1.2 = 0
    · rw [goOn_go h]; have := flushV_less P1.1; exact ⟨this.1.trans f1.1, by omega⟩
    · rw [goOn_bad h]; exact f1
  have f3 : P3.1.many = D.many ∧ P3.1.waits.length ≤ D.waits.length + 5 := by
    rw [hP3]
    by_cases h : P2.2 = 0
    · rw [goOn_go h]; have := fillK_few f m load K 0 P2.1; exact ⟨this.1.trans f2.1, by omega⟩
    · rw [goOn_bad h]; exact ⟨f2.1, by omega⟩
  have f4 : P4.1.many = D.many ∧ P4.1.waits.length ≤ D.waits.length + 5 := by
    rw [hP4]
    by_cases h : P3.2 = 0
    · rw [goOn_go h]; have := flushV_less P3.1; exact ⟨this.1.trans f3.1, by omega⟩
    · rw [goOn_bad h]; exact f3
  have HR := Lib.hid hR
  have H2 := Lib.hid hP2
  have H3 := Lib.hid hP3
  have H4 := Lib.hid hP4
  have H5 := Lib.hid hP5
  have H6 := Lib.hid hP6
  have F2 := Lib.hid f2
  have F4 := Lib.hid f4
  have HLEN := Lib.hid hlen
  have HNB := Lib.hid hnb
  have c1 := fun {W : World} (h : RDiskS W base q D) (hs : base ≤ W.heap.size) (g9 : Nat) (h9 : RB W (some ⟨g9, 0, none⟩) 128 zerosL) => (show Calls Try.prog 87 #[.agg #[.pointer (some ⟨q.d, 0, none⟩), .int .i64 (f : Nat), .int .i64 (m : Nat)], .int .i64 0, .slice (some ⟨g9, 0, none⟩) 128 128] W fun e w' => e = .returned (.int .i64 P1.2) ∧ RDiskS w' base q P1.1 ∧ RStep base q W w' from by rw [hP1]; exact ra_write h hs hfm 0 (some ⟨g9, 0, none⟩) 128 zerosL zerosL_len h9 (by omega))
  have HFILL := Lib.hid (fun (X : DiskV) (z : Int) (j t : Nat) (hz : z = 0) => fill_on X z f m j t load hz)
  clear hR hP1 hP2 hP3 hP4 hP5 hP6 f1 f2 f3 f4 hlen hnb hKn hKe
  have hmk : ∀ W : World, (Instr.makeSlice 23 (.int .i64 128) (.int .i64 128)).run Try.prog W = .ok (.slice (some ⟨W.heap.size, 0, none⟩) 128 128) (W.alloc (.cells (madeCells (Value.int .u8 0).cells 128) 5)) := run_make_one elemB 128 (by omega) (by omega)
  have hmc : (madeCells (Value.int .u8 0).cells 128) = (zerosL.map bv).toArray := by kernel_rfl
  rw [hmc] at hmk
  clear hmc
  have rbz : ∀ {W : World} {g : Nat}, Blk W g 5 (zerosL.map bv) → RB W (some ⟨g, 0, none⟩) 128 zerosL := fun {W g} hb => (by have := RB.of_block (l := zerosL) hb rfl; rw [zerosL_len] at this; exact this)
  have RBZ := Lib.hid (fun (W : World) (g : Nat) (hb : Blk W g 5 (zerosL.map bv)) => rbz hb)
  clear rbz
  generalize zerosL.map bv = Z at *
  unfold maxLen at hcm
  have x0 : w.cell? ⟨g, 0, none⟩ = some (.pointer (some ⟨q.d, 0, none⟩)) := h1.cell 0
  have x1 : w.cell? ⟨g, 1, none⟩ = some (.int .i64 (fl : Nat)) := h1.cell 1
  have x2 : w.cell? ⟨g, 2, none⟩ = some (.int .i64 (ml : Nat)) := h1.cell 2
  have x3 : w.cell? ⟨g, 3, none⟩ = some (.pointer (some ⟨q.d, 0, none⟩)) := h1.cell 3
  have x4 : w.cell? ⟨g, 4, none⟩ = some (.int .i64 (fr : Nat)) := h1.cell 4
  have x5 : w.cell? ⟨g, 5, none⟩ = some (.int .i64 (mr : Nat)) := h1.cell 5
  have x6 : w.cell? ⟨g, 6, none⟩ = some (.int .i64 (s.now : Nat)) := h1.cell 6
  have x7 : w.cell? ⟨g, 7, none⟩ = some (.int .i64 s.number) := h1.cell 7
  have lg := h1.lt
  have HX := Lib.hid h1
  have HSA := Lib.hid hSA
  have HD := Lib.hid hd
  have HL := Lib.hid hl
  have HL0 := Lib.hid h4
  have hnn : (s.number == 9223372036854775807) = false := by rw [beq_eq_false_iff_ne]; exact hnum
  have hc0 := h2
  have hcm0 := h3
  have hnw2 := h5
  clear h1 h2 h3 h4 h5 hSA hd hl
  have hnw : IntKind.i64.wrap (s.number + 1) = s.number + 1 := by rw [IntKind.wrap_i64]; have := HNB.out; omega
  have OO : RSv w (w.alloc (.cells #[.pointer (some ⟨q.d, 0, none⟩), .int .i64 (f : Nat), .int .i64 (m : Nat)] 84)) base q D f m g w.heap.size fl ml fr mr s A n c load B0 n0 d0 := by
    have bA : Below w.heap.size w (w.alloc (.cells #[.pointer (some ⟨q.d, 0, none⟩), .int .i64 (f : Nat), .int .i64 (m : Nat)] 84)) := (Below.refl _ _).alloc (Nat.le_refl _) _
    exact ⟨HD.out.below bA, HX.out.below bA lg, Blk.top _ rfl rfl, HL.out.below bA, HL0.out.below bA, RStep.of_below bA hs, hs⟩
  rcases hsel with ⟨rfl, hf, hmm, hnow⟩ | ⟨rfl, hf, hmm, hnow⟩
  · have hn0 : ((s.now : Int) == 0) = false := by rw [beq_eq_false_iff_ne]; omega
    rw [← hf] at x1
    rw [← hmm] at x2
    clear hf hmm hnow
    go_enter Try.func103, Try.ntmps103
    go_upto_region 8 with fail
    refine code_world (fun W => RSv w W base q D f m g w.heap.size fl ml fr mr s A n c load B0 n0 d0) OO ?_
    clear OO x0 x1 x2 x3 x4 x5 x6 x7
    intro w1 o1
    have a0 : w1.cell? ⟨w.heap.size, 0, none⟩ = some (.pointer (some ⟨q.d, 0, none⟩)) := o1.a.cell 0
    have a1 : w1.cell? ⟨w.heap.size, 1, none⟩ = some (.int .i64 (f : Nat)) := o1.a.cell 1
    have a2 : w1.cell? ⟨w.heap.size, 2, none⟩ = some (.int .i64 (m : Nat)) := o1.a.cell 2
    have O1 := Lib.hid o1
    clear o1
    go_region_held3 (fun w' => w'.cell? ⟨w.heap.size, 0, none⟩ = some (.pointer (some ⟨q.d, 0, none⟩)) ∧ w'.cell? ⟨w.heap.size, 1, none⟩ = some (.int .i64 (f : Nat)) ∧ w'.cell? ⟨w.heap.size, 2, none⟩ = some (.int .i64 (m : Nat))) (first | go_keep | (refine ⟨?_, ?_, ?_⟩ <;> assumption)) (first
      | ((go_at_call 87; (with_reducible refine (c1 (O1.out.below (by (repeat' (first | (with_reducible exact Below.refl _ _) | (with_reducible assumption) | (with_reducible refine Below.drew ?_) | (with_reducible refine below_drewN ?_ _) | (with_reducible refine Below.alloc ?_ ?_ _) | (with_reducible refine Below.setCell ?_ ?_ _) | omega | (simp; done) | (simp; omega))))).disk (by have := O1.out.size; simp; omega) w1.heap.size (RBZ.out _ _ (by (repeat' (first | (with_reducible assumption) | (with_reducible refine Blk.top _ (by first | rfl | omega | (simp; done) | (simp; omega)) rfl) | (with_reducible refine Blk.alloc ?_ _) | (with_reducible refine Blk.drew ?_) | (with_reducible refine Blk.drewN ?_ _) | (with_reducible refine Blk.far ?_ (by first | omega | (simp; done) | (simp; omega)) _)))))).mono ?_); rintro e w2 ⟨rfl, r2, k2⟩); have O2 := Lib.hid ((O1.out.below (w' := (w1.alloc (.cells Z.toArray 5)).drew) (by (repeat' (first | (with_reducible exact Below.refl _ _) | (with_reducible assumption) | (with_reducible refine Below.drew ?_) | (with_reducible refine below_drewN ?_ _) | (with_reducible refine Below.alloc ?_ ?_ _) | (with_reducible refine Below.setCell ?_ ?_ _) | omega | (simp; done) | (simp; omega))))).rstep r2 k2); have b0 : w2.cell? ⟨w.heap.size, 0, none⟩ = some (.pointer (some ⟨q.d, 0, none⟩)) := O2.out.a.cell 0; have b1 : w2.cell? ⟨w.heap.size, 1, none⟩ = some (.int .i64 (f : Nat)) := O2.out.a.cell 1; have b2 : w2.cell? ⟨w.heap.size, 2, none⟩ = some (.int .i64 (m : Nat)) := O2.out.a.cell 2; clear r2 k2)
      | fail "no arm")
    have cfl := fun {W : World} (O : RSv w W base q P1.1 f m g w.heap.size fl ml fr mr s A n c load B0 n0 d0) => r_flush O.disk O.size
    clear a0 a1 a2 c1 O1
    go_upto_if 37 with fail
    go_cut [7] (fun e wx => e = .int .i64 P2.2 ∧ RSv w wx base q P2.1 f m g w.heap.size fl ml fr mr s A n c load B0 n0 d0)
    case first =>
      by_cases h9 : P1.2 = 0
      · have e4 : P2 = flushV P1.1 := H2.out.trans (goOn_go h9)
        rw [← e4] at cfl
        rw [h9]
        clear e4 h9
        go_wp2_with (first
          | ((go_at_call 74; (with_reducible refine (cfl O2.out).mono ?_); rintro e w5 ⟨rfl, r5, k5⟩); have O5 := Lib.hid (O2.out.rstep r5 k5); clear r5 k5)
          | fail "no arm")
        go_meet
        exact ⟨rfl, O5.out⟩
      · have e4 : P2 = P1 := H2.out.trans (goOn_bad h9)
        have hne : (P1.2 == 0) = false := by rw [beq_eq_false_iff_ne]; exact h9
        have O5 := Lib.hid O2.out
        rw [← e4] at hne O5 ⊢
        clear e4 h9
        go_wp2_with fail
        go_meet
        exact ⟨rfl, O5.out⟩
    case rest =>
      obtain ⟨rfl, o3⟩ := hcut
      have O3 := Lib.hid o3
      clear o3 cfl b0 b1 b2 O2
      go_wp2_with fail
      go_loopw [7, 8] (fun e i wr => ∃ (j t : Nat) (z : Int) (X : DiskV), Hid (K = j + t) ∧ j ≤ K ∧ e = .int .i64 z ∧ i = .int .i64 ((j : Int) * 128) ∧ Hid (P3 = goOn (X, z) (fun Y => fillK Y f m load j t)) ∧ X.many = D.many ∧ X.waits.length ≤ D.waits.length + 1 + j ∧ RSv w wr base q X f m g w.heap.size fl ml fr mr s A n c load B0 n0 d0) (fun _ i _ => n + 128 - (intOf i).toNat)
      case atStart => exact ⟨0, K, P2.2, P2.1, Lib.hid (by omega), by omega, rfl, rfl, Lib.hid H3.out, F2.out.1, by have := F2.out.2; omega, O3.out⟩
      case round =>
        obtain ⟨j, t, z, X, hjt, hjK, rfl, rfl, hp3, hxm, hxw, o⟩ := hrel
        have hkn := HKN.out j
        have O := Lib.hid o
        clear o
        by_cases hlt : j < K
        · have hjn : j * 128 < n := hkn.1 hlt
          have hjI : (j : Int) * 128 < n := by omega
          by_cases hz : z = 0
          · have hzb : (z == 0) = true := by rw [hz]; rfl
            obtain ⟨wo, hwo⟩ : ∃ wo : World, wo = wr := ⟨_, rfl⟩
            subst hwo
            obtain ⟨t', rfl⟩ : ∃ t', t = t' + 1 := ⟨t - 1, by have := hjt.out; omega⟩
            obtain ⟨A', hA'⟩ : ∃ A', (if c = j * 128 then A else A.map (·.add (j * 128 * 1))) = A' := ⟨_, rfl⟩
            have hcutL : ∀ W, (Instr.slice 23 (.slice A n c) (some (.int .i64 ((j : Int) * 128))) none none).run Try.prog W = .ok (.slice A' (n - j * 128) (c - j * 128)) W := fun W => by
              have h := run_cut_from elemU8 A n c (j * 128) (by omega) W
              rw [hA'] at h
              exact h
            have hrL : RB wo A' (n - j * 128) (load.drop (j * 128)) := by
              have hll : load.length = n := HLEN.out
              have h1 : RB wo A n load := O.out.l.1
              refine ⟨by rw [List.length_drop, hll], ?_⟩
              rw [← hA', Nat.mul_one]
              exact (Row.cut h1.2 (by omega) hc).congr fun i hi => by
                unfold byteAt
                rw [List.getD_eq_getElem?_getD, List.getD_eq_getElem?_getD, List.getElem?_drop]
            have HRL := Lib.hid hrL
            have HPT := Lib.hid (fun u (h : 128 ≤ (load.drop (j * 128)).length + u) h2 => pad_take (load := load) (j := j) (t := u) h h2)
            have HFJ := Lib.hid (hp3.out.trans (HFILL.out X z j t' hz))
            have cwr := fun {W : World} (O : RSv w W base q X f m g w.heap.size fl ml fr mr s A n c load B0 n0 d0) (B : Option Addr) (d : Nat) (hb : RB W B 128 (padL load j)) => (show Calls Try.prog 87 #[.agg #[.pointer (some ⟨q.d, 0, none⟩), .int .i64 (f : Nat), .int .i64 (m : Nat)], .int .i64 (1 + (j : Int)), .slice B 128 d] W fun e w' => e = .returned (.int .i64 (aWriteV X f m ((1 + j : Nat) : Int) (padL load j)).2) ∧ RDiskS w' base q (aWriteV X f m ((1 + j : Nat) : Int) (padL load j)).1 ∧ RStep base q W w' from by
              have q9 := ra_write O.disk O.size (f := f) (m := m) (by rw [hxm]; exact hfm) ((1 + j : Nat) : Int) B d (padL load j) (padL_len load j) hb (by omega)
              rw [show (1 + (j : Int)) = ((1 + j : Nat) : Int) by omega]
              exact q9)
            have hmw := aWriteV_many X f m ((1 + j : Nat) : Int) (padL load j)
            have HMW := Lib.hid hmw
            obtain ⟨PL, hPL⟩ : ∃ PL, padL load j = PL := ⟨_, rfl⟩
            rw [hPL] at HPT HFJ cwr HMW
            obtain ⟨RL, hRL⟩ : ∃ RL, load.drop (j * 128) = RL := ⟨_, rfl⟩
            rw [hRL] at HRL HPT
            obtain ⟨nj, hnj⟩ : ∃ nj, n - j * 128 = nj := ⟨_, rfl⟩
            rw [hnj] at HRL hcutL
            have hnj2 : nj ≤ 512 := by omega
            have HNJ := Lib.hid hnj
            generalize aWriteV X f m ((1 + j : Nat) : Int) PL = PJ at *
            clear hrL hA' hPL hRL hnj hmw hp3 hz
            go_wp2_with (first
              | (at_builtin; refine wpList_app rfl rfl elemU8 bv_one (s := .tmp 51) (N := nj) (L := RL) rfl (Ow.new _ _ #[] [] rfl (by decide)) rfl (k := RL) (HRL.out.below (B := wo.heap.size) (by (repeat' (first | (with_reducible exact Below.refl _ _) | (with_reducible assumption) | (with_reducible refine Below.drew ?_) | (with_reducible refine below_drewN ?_ _) | (with_reducible refine Below.alloc ?_ ?_ _) | (with_reducible refine Below.setCell ?_ ?_ _) | omega | (simp; done) | (simp; omega)))) (Nat.le_refl _)).rd (by simp) (by simp) (by unfold maxLen; omega) (by omega) (by first | omega | (simp; done) | (simp; omega)) ?_; intro A3 c3 w3 hown3 hg3 hat3 hb3)
              | fail "no arm")
            have b3 : Below wo.heap.size wo w3 := ((Below.refl wo.heap.size wo).alloc (Nat.le_refl _) _).trans hb3
            have hRLl : RL.length = nj := HRL.out.1
            have HRLL := Lib.hid hRLl
            clear hg3 hat3 hb3 hcutL hRLl
            go_loopw [9] (fun v wi => ∃ (u : Nat) (B : Option Addr) (cc : Nat), (u = 0 ∨ nj + u ≤ 128) ∧ v = .slice B (nj + u) cc ∧ OB wi wo.heap.size 5 B (nj + u) cc (RL ++ List.replicate u 0) ∧ Below wo.heap.size wo wi) (fun v _ => 128 - (match v with | .slice _ k _ => k | _ => 0))
            case atStart => exact ⟨0, A3, c3, .inl rfl, rfl, by rw [List.replicate_zero, List.append_nil]; exact hown3, b3⟩
            case round =>
              obtain ⟨u, B, cc, hu, rfl, hown, hbel⟩ := hrel
              have hbs := hbel.size
              by_cases hl9 : nj + u < 128
              · have hlI : (nj : Int) + u < 128 := by omega
                have hrp : Hid ((RL ++ List.replicate u 0) ++ [(0 : UInt8)] = RL ++ List.replicate (u + 1) 0) := by show _ = _; rw [List.append_assoc, ← List.replicate_succ']
                go_wp2_with (first
                  | (at_builtin; refine wpList_app rfl rfl elemU8 bv_one (s := .tmp 59) (N := nj + (u + 1)) (L := RL ++ List.replicate (u + 1) 0) rfl (hown.below (b := wr.heap.size) (by (repeat' (first | (with_reducible exact Below.refl _ _) | (with_reducible assumption) | (with_reducible refine Below.drew ?_) | (with_reducible refine below_drewN ?_ _) | (with_reducible refine Below.alloc ?_ ?_ _) | (with_reducible refine Below.setCell ?_ ?_ _) | omega | (simp; done) | (simp; omega)))) (by first | omega | (simp; done) | (simp; omega))) rfl (k := [(0 : UInt8)]) (Rd.of_block (l := [(0 : UInt8)]) (heap_top _ _ (by simp)) rfl) rfl hrp.out (by unfold maxLen; omega) (by omega) (by first | omega | (simp; done) | (simp; omega)) ?_; intro A8 c8 w8 hown8 hg8 hat8 hb8)
                  | fail "no arm")
                have b8 : Below wo.heap.size wo w8 := (hbel.alloc hbs _).trans hb8
                go_roundw
                case rel => first
                  | exact ⟨u + 1, A8, c8, .inr (by omega), rfl, hown8, b8⟩
                  | ((repeat apply Exists.intro); exact ⟨⟨u + 1, A8, c8, .inr (by omega), rfl, hown8, b8⟩, rfl⟩)
                case measure => simp; omega
              · have hcap9 := hown.cap
                have hcut9 : ∀ W, (Instr.slice 23 (.slice B (nj + u) cc) none (some (.int .i64 128)) none).run Try.prog W = .ok (.slice B 128 cc) W := run_cut_to elemU8 B (nj + u) cc 128 (by omega)
                have hrb9 : RB wr B 128 PL := by
                  have q9 := (hown.rd.take_ (m := 128) (by omega)).rb
                  rw [HPT.out u (by rw [HRLL.out]; omega) (by rw [HRLL.out]; omega)] at q9
                  exact q9
                have O9 := Lib.hid (O.out.below hbel)
                have HRB9 := Lib.hid hrb9
                have a0 : wr.cell? ⟨w.heap.size, 0, none⟩ = some (.pointer (some ⟨q.d, 0, none⟩)) := O9.out.a.cell 0
                have a1 : wr.cell? ⟨w.heap.size, 1, none⟩ = some (.int .i64 (f : Nat)) := O9.out.a.cell 1
                have a2 : wr.cell? ⟨w.heap.size, 2, none⟩ = some (.int .i64 (m : Nat)) := O9.out.a.cell 2
                have hjq : ((j : Int) * 128) / 128 = (j : Int) := by omega
                have hjw : IntKind.i64.wrap (j : Int) = (j : Int) := by rw [IntKind.wrap_i64]; omega
                have hjw2 : IntKind.i64.wrap (1 + (j : Int)) = 1 + (j : Int) := by rw [IntKind.wrap_i64]; omega
                obtain ⟨nu, hnu⟩ : ∃ nu, nj + u = nu := ⟨_, rfl⟩
                rw [hnu] at hcut9 hl9 ⊢
                have hlI : ¬ ((nu : Int) < 128) := by omega
                clear hown hrb9 hu hnu
                go_wp2_with fail
                go_region_held3 (fun w' => w'.cell? ⟨w.heap.size, 0, none⟩ = some (.pointer (some ⟨q.d, 0, none⟩)) ∧ w'.cell? ⟨w.heap.size, 1, none⟩ = some (.int .i64 (f : Nat)) ∧ w'.cell? ⟨w.heap.size, 2, none⟩ = some (.int .i64 (m : Nat))) (first | go_keep | (refine ⟨?_, ?_, ?_⟩ <;> assumption)) (first
                  | ((go_at_call 87; (with_reducible refine (cwr (O9.out.below (by (repeat' (first | (with_reducible exact Below.refl _ _) | (with_reducible assumption) | (with_reducible refine Below.drew ?_) | (with_reducible refine below_drewN ?_ _) | (with_reducible refine Below.alloc ?_ ?_ _) | (with_reducible refine Below.setCell ?_ ?_ _) | omega | (simp; done) | (simp; omega))))) B cc (HRB9.out.below (B := wr.heap.size) (by (repeat' (first | (with_reducible exact Below.refl _ _) | (with_reducible assumption) | (with_reducible refine Below.drew ?_) | (with_reducible refine below_drewN ?_ _) | (with_reducible refine Below.alloc ?_ ?_ _) | (with_reducible refine Below.setCell ?_ ?_ _) | omega | (simp; done) | (simp; omega)))) (Nat.le_refl _))).mono ?_); rintro e w9 ⟨rfl, r9, k9⟩); have O10 := Lib.hid ((O9.out.below (w' := wr.drew) (by (repeat' (first | (with_reducible exact Below.refl _ _) | (with_reducible assumption) | (with_reducible refine Below.drew ?_) | (with_reducible refine below_drewN ?_ _) | (with_reducible refine Below.alloc ?_ ?_ _) | (with_reducible refine Below.setCell ?_ ?_ _) | omega | (simp; done) | (simp; omega))))).rstep r9 k9); have m0 : w9.cell? ⟨w.heap.size, 0, none⟩ = some (.pointer (some ⟨q.d, 0, none⟩)) := O10.out.a.cell 0; have m1 : w9.cell? ⟨w.heap.size, 1, none⟩ = some (.int .i64 (f : Nat)) := O10.out.a.cell 1; have m2 : w9.cell? ⟨w.heap.size, 2, none⟩ = some (.int .i64 (m : Nat)) := O10.out.a.cell 2; clear r9 k9)
                  | fail "no arm")
                go_wp2_with fail
                go_roundw
                case rel =>
                  have e9 : Hid (P3 = goOn (PJ.1, PJ.2) (fun Y => fillK Y f m load (j + 1) t')) := HFJ
                  have hm1 := HMW.out
                  have hi9 : Value.int .i64 ((j : Int) * 128 + 128) = .int .i64 (((j + 1 : Nat) : Int) * 128) := by congr 1; omega
                  first
                    | exact ⟨j + 1, t', PJ.2, PJ.1, Lib.hid (by have := hjt.out; omega), by omega, rfl, hi9, e9, by omega, by omega, O10.out⟩
                    | ((repeat apply Exists.intro); exact ⟨⟨j + 1, t', PJ.2, PJ.1, Lib.hid (by have := hjt.out; omega), by omega, rfl, hi9, e9, by omega, by omega, O10.out⟩, rfl⟩)
                case measure => simp [intOf]; omega
          · have hzb : (z == 0) = false := by rw [beq_eq_false_iff_ne]; exact hz
            have e3 : P3 = (X, z) := hp3.out.trans (goOn_bad hz)
            have hz3 : P3.2 ≠ 0 := by rw [e3]; exact hz
            have e4 : P4 = P3 := H4.out.trans (goOn_bad hz3)
            have e5 : P5 = P4 := H5.out.trans (goOn_bad (by rw [e4]; exact hz3))
            have e6 : P6 = P5 := H6.out.trans (goOn_bad (by rw [e5, e4]; exact hz3))
            have HE := Lib.hid (show R = (X, s, z) from by rw [HR.out, e6, e5, e4, if_pos hz3, e3])
            have hzn : (z != 0) = true := by rw [bne_iff_ne]; exact hz
            clear hz e3 hz3 e4 e5 e6 hp3
            go_wp2
            try rw [Exit.noGoto_ret]
            go_ret
            rw [HE.out]
            exact ⟨rfl, O.out.disk, ⟨B0, n0, d0, O.out.x, hc0, hcm0, O.out.l0, hnw2⟩, O.out.saved⟩
        · have hjn : ¬ ((j : Int) * 128 < n) := by have := fun e => hlt (hkn.2 e); omega
          have ht0 : t = 0 := by have := hjt.out; omega
          have e3 : P3 = (X, z) := by
            rw [hp3.out, ht0]
            by_cases hz : z = 0
            · rw [goOn_go hz, hz]; rfl
            · exact goOn_bad hz
          have hz3 : z = P3.2 := by rw [e3]
          have hx3 : X = P3.1 := by rw [e3]
          clear e3 ht0
          subst hz3 hx3
          clear hp3 hxm hxw
          clear HFILL
          have cfl3 := fun {W : World} (O : RSv w W base q P3.1 f m g w.heap.size fl ml fr mr s A n c load B0 n0 d0) => r_flush O.disk O.size
          go_upto_if 70 with fail
          go_cut [7] (fun e wx => e = .int .i64 P4.2 ∧ RSv w wx base q P4.1 f m g w.heap.size fl ml fr mr s A n c load B0 n0 d0)
          case first =>
            by_cases h9 : P3.2 = 0
            · have e4 : P4 = flushV P3.1 := H4.out.trans (goOn_go h9)
              rw [← e4] at cfl3
              have Y0 : wr.cell? ⟨w.heap.size, 0, none⟩ = some (.pointer (some ⟨q.d, 0, none⟩)) := O.out.a.cell 0
              rw [h9]
              clear e4 h9
              go_wp2_with (first
                | ((go_at_call 74; (with_reducible refine (cfl3 O.out).mono ?_); rintro e w5 ⟨rfl, r5, k5⟩); have O5 := Lib.hid (O.out.rstep r5 k5); clear r5 k5)
                | fail "no arm")
              go_meet
              exact ⟨rfl, O5.out⟩
            · have e4 : P4 = P3 := H4.out.trans (goOn_bad h9)
              have hne : (P3.2 == 0) = false := by rw [beq_eq_false_iff_ne]; exact h9
              have O5 := Lib.hid O.out
              rw [← e4] at hne O5 ⊢
              clear e4 h9
              go_wp2_with fail
              go_meet
              exact ⟨rfl, O5.out⟩
          case rest =>
            obtain ⟨rfl, o4⟩ := hcut
            have O4 := Lib.hid o4
            clear o4 cfl3
            go_upto_if 75 with fail
            go_cut [7] (fun e wx => e = .int .i64 P5.2 ∧ RSv w wx base q P5.1 f m g w.heap.size fl ml fr mr s A n c load B0 n0 d0)
            case first =>
              by_cases h9 : P4.2 = 0
              · have e4 : P5 = aPutV P4.1 f m 0 2 (s.number + 1) (headL load) := H5.out.trans (goOn_go h9)
                have cput := fun {W : World} (O : RSv w W base q P4.1 f m g w.heap.size fl ml fr mr s A n c load B0 n0 d0) (B : Option Addr) (d : Nat) (hb : RB W B 12 (headL load)) => (show Calls Try.prog 89 #[.agg #[.pointer (some ⟨q.d, 0, none⟩), .int .i64 (f : Nat), .int .i64 (m : Nat)], .int .i64 0, .int .i64 2, .int .i64 (s.number + 1), .slice B 12 d] W fun e w' => e = .returned (.int .i64 P5.2) ∧ RDiskS w' base q P5.1 ∧ RStep base q W w' from by rw [e4]; exact ra_put O.disk O.size (by rw [F4.out.1]; exact hfm) 0 2 (s.number + 1) B 12 d (headL load) hb (by decide) (by have := HNB.out; omega) (by have := F4.out.2; omega))
                have HHL : Hid (putL (un n) ++ sumL load = headL load) := by show _ = _; unfold headL; rw [HLEN.out]
                have csm := fun {W : World} (O : RSv w W base q P4.1 f m g w.heap.size fl ml fr mr s A n c load B0 n0 d0) => rsum_any A n c load W O.l.1 (by unfold maxLen; omega)
                have cpt := fun (W : World) => refput_any (n : Int) W (by omega) (by omega)
                have hsl := sumL_len load
                have SLN := Lib.hid hsl
                generalize headL load = hL at *
                generalize sumL load = sL at *
                have a0 : wc.cell? ⟨w.heap.size, 0, none⟩ = some (.pointer (some ⟨q.d, 0, none⟩)) := O4.out.a.cell 0
                have a1 : wc.cell? ⟨w.heap.size, 1, none⟩ = some (.int .i64 (f : Nat)) := O4.out.a.cell 1
                have a2 : wc.cell? ⟨w.heap.size, 2, none⟩ = some (.int .i64 (m : Nat)) := O4.out.a.cell 2
                have a7 : wc.cell? ⟨g, 7, none⟩ = some (.int .i64 s.number) := O4.out.x.cell 7
                rw [h9]
                clear e4 h9 hsl
                go_wp2_with fail
                go_region_held3 (fun w' => w'.cell? ⟨w.heap.size, 0, none⟩ = some (.pointer (some ⟨q.d, 0, none⟩)) ∧ w'.cell? ⟨w.heap.size, 1, none⟩ = some (.int .i64 (f : Nat)) ∧ w'.cell? ⟨w.heap.size, 2, none⟩ = some (.int .i64 (m : Nat)) ∧ w'.cell? ⟨g, 7, none⟩ = some (.int .i64 s.number)) (first | go_keep | (refine ⟨?_, ?_, ?_, ?_⟩ <;> assumption)) (first
                  | ((go_at_call 117; (with_reducible refine (cpt _).mono ?_); rintro e w6 ⟨B6, c6, rfl, o6, b6⟩); have O6 := O4.out.below (below_then' (a := wc) (B := wc.heap.size) (by (repeat' (first | (with_reducible exact Below.refl _ _) | (with_reducible assumption) | (with_reducible refine Below.drew ?_) | (with_reducible refine below_drewN ?_ _) | (with_reducible refine Below.alloc ?_ ?_ _) | (with_reducible refine Below.setCell ?_ ?_ _) | omega | (simp; done) | (simp; omega)))) b6 (by first | omega | (simp; done) | (simp; omega))); have i0 : w6.cell? ⟨w.heap.size, 0, none⟩ = some (.pointer (some ⟨q.d, 0, none⟩)) := O6.a.cell 0; have i1 : w6.cell? ⟨w.heap.size, 1, none⟩ = some (.int .i64 (f : Nat)) := O6.a.cell 1; have i2 : w6.cell? ⟨w.heap.size, 2, none⟩ = some (.int .i64 (m : Nat)) := O6.a.cell 2; have i7 : w6.cell? ⟨g, 7, none⟩ = some (.int .i64 s.number) := O6.x.cell 7)
                  | ((go_at_call 118; (with_reducible refine (csm O6).mono ?_); rintro e w7 ⟨B7, c7, rfl, o7, b7⟩); have O7 := O6.below b7; have o67 := o6.below b7 (Nat.le_refl _); have j0 : w7.cell? ⟨w.heap.size, 0, none⟩ = some (.pointer (some ⟨q.d, 0, none⟩)) := O7.a.cell 0; have j1 : w7.cell? ⟨w.heap.size, 1, none⟩ = some (.int .i64 (f : Nat)) := O7.a.cell 1; have j2 : w7.cell? ⟨w.heap.size, 2, none⟩ = some (.int .i64 (m : Nat)) := O7.a.cell 2; have j7 : w7.cell? ⟨g, 7, none⟩ = some (.int .i64 s.number) := O7.x.cell 7)
                  | (refine step_app rfl rfl elemU8 bv_one (s := .tmp 84) (x := .tmp 86) (N := 12) (L := hL) rfl o67 rfl (k := sL) o7.rd (by rfl) HHL.out (by unfold maxLen; omega) (by omega) (by have e1 := b6.size; have e2 := b7.size; omega) ?_; intro A8 c8 w8 hown8 hg8 hat8 hb8; have O8 := O4.out.below (Below.trans (Below.drew (Below.refl wc.heap.size wc)) ((b6.mono (by simp)).trans ((b7.mono (by have e1 := b6.size; simp at e1; omega)).trans (hb8.mono (by simp))))); have l0 : w8.cell? ⟨w.heap.size, 0, none⟩ = some (.pointer (some ⟨q.d, 0, none⟩)) := O8.a.cell 0; have l1 : w8.cell? ⟨w.heap.size, 1, none⟩ = some (.int .i64 (f : Nat)) := O8.a.cell 1; have l2 : w8.cell? ⟨w.heap.size, 2, none⟩ = some (.int .i64 (m : Nat)) := O8.a.cell 2; have l7 : w8.cell? ⟨g, 7, none⟩ = some (.int .i64 s.number) := O8.x.cell 7)
                  | ((go_at_call 89; (with_reducible refine (cput O8 A8 c8 hown8.rd.rb).mono ?_); rintro e w9 ⟨rfl, r9, k9⟩); have O9 := O8.rstep r9 k9; have m0 : w9.cell? ⟨w.heap.size, 0, none⟩ = some (.pointer (some ⟨q.d, 0, none⟩)) := O9.a.cell 0; have m1 : w9.cell? ⟨w.heap.size, 1, none⟩ = some (.int .i64 (f : Nat)) := O9.a.cell 1; have m2 : w9.cell? ⟨w.heap.size, 2, none⟩ = some (.int .i64 (m : Nat)) := O9.a.cell 2; have m7 : w9.cell? ⟨g, 7, none⟩ = some (.int .i64 s.number) := O9.x.cell 7; have HO9 := Lib.hid O9; clear O9 r9 k9)
                  | fail "no arm")
                go_wp2_with fail
                go_meet
                exact ⟨rfl, HO9.out⟩
              · have e4 : P5 = P4 := H5.out.trans (goOn_bad h9)
                have hne : (P4.2 == 0) = false := by rw [beq_eq_false_iff_ne]; exact h9
                have O5 := Lib.hid O4.out
                rw [← e4] at hne O5 ⊢
                clear e4 h9
                go_wp2_with fail
                go_meet
                exact ⟨rfl, O5.out⟩
            case rest =>
              obtain ⟨rfl, o5⟩ := hcut
              have O5 := Lib.hid o5
              clear o5 O4
              have cfl5 := fun {W : World} (O : RSv w W base q P5.1 f m g w.heap.size fl ml fr mr s A n c load B0 n0 d0) => r_flush O.disk O.size
              go_upto_if 90 with fail
              go_cut [7] (fun e wx => e = .int .i64 P6.2 ∧ RSv w wx base q P6.1 f m g w.heap.size fl ml fr mr s A n c load B0 n0 d0)
              case first =>
                by_cases h9 : P5.2 = 0
                · have e4 : P6 = flushV P5.1 := H6.out.trans (goOn_go h9)
                  rw [← e4] at cfl5
                  have Y0 : wc.cell? ⟨w.heap.size, 0, none⟩ = some (.pointer (some ⟨q.d, 0, none⟩)) := O5.out.a.cell 0
                  rw [h9]
                  clear e4 h9
                  go_wp2_with (first
                    | ((go_at_call 74; (with_reducible refine (cfl5 O5.out).mono ?_); rintro e w5 ⟨rfl, r5, k5⟩); have O6 := Lib.hid (O5.out.rstep r5 k5); clear r5 k5)
                    | fail "no arm")
                  go_meet
                  exact ⟨rfl, O6.out⟩
                · have e4 : P6 = P5 := H6.out.trans (goOn_bad h9)
                  have hne : (P5.2 == 0) = false := by rw [beq_eq_false_iff_ne]; exact h9
                  have O6 := Lib.hid O5.out
                  rw [← e4] at hne O6 ⊢
                  clear e4 h9
                  go_wp2_with fail
                  go_meet
                  exact ⟨rfl, O6.out⟩
              case rest =>
                obtain ⟨rfl, o6⟩ := hcut
                have O6 := Lib.hid o6
                clear o6 O5 cfl5
                by_cases h9 : P6.2 = 0
                · have HE := Lib.hid (show R = (P6.1, ⟨0, s.number + 1, load⟩, 0) from by rw [HR.out, if_neg (by rw [h9]; simp)])
                  have X9 := O6.out.x
                  have u6 : wc.cell? ⟨g, 6, none⟩ = some (.int .i64 (s.now : Nat)) := X9.cell 6
                  have u7 : wc.cell? ⟨g, 7, none⟩ = some (.int .i64 s.number) := X9.cell 7
                  have u8 : wc.cell? ⟨g, 8, none⟩ = some (.slice B0 n0 d0) := X9.cell 8
                  have v6 := X9.frozen 6
                  have v7 := X9.frozen 7
                  have v8 := X9.frozen 8
                  have l2 := X9.lt
                  have FIN := Lib.hid (RSlotsAt.sets (o := 0) (oth := 0) X9 O6.out.disk hg O6.out.l hc (by unfold maxLen; omega) rfl (by omega) (s.number + 1))
                  have bF := Lib.hid (O6.out.saved3 hg (.int .i64 0) (.int .i64 (s.number + 1)) (.slice A n c))
                  rw [h9]
                  clear h9 X9
                  go_wp2
                  try rw [Exit.noGoto_ret]
                  go_ret
                  rw [HE.out]
                  exact ⟨rfl, FIN.out.1, FIN.out.2, bF.out⟩
                · have HE := Lib.hid (show R = (P6.1, s, P6.2) from by rw [HR.out, if_pos h9])
                  have hne : (P6.2 != 0) = true := by rw [bne_iff_ne]; exact h9
                  clear h9
                  go_wp2
                  try rw [Exit.noGoto_ret]
                  go_ret
                  rw [HE.out]
                  exact ⟨rfl, O6.out.disk, ⟨B0, n0, d0, O6.out.x, hc0, hcm0, O6.out.l0, hnw2⟩, O6.out.saved⟩
  · have hn0 : ((s.now : Int) == 0) = true := by rw [hnow]; rfl
    rw [← hf] at x4
    rw [← hmm] at x5
    clear hf hmm hnow
    go_enter Try.func103, Try.ntmps103
    go_upto_region 8 with fail
    refine code_world (fun W => RSv w W base q D f m g w.heap.size fl ml fr mr s A n c load B0 n0 d0) OO ?_
    clear OO x0 x1 x2 x3 x4 x5 x6 x7
    intro w1 o1
    have a0 : w1.cell? ⟨w.heap.size, 0, none⟩ = some (.pointer (some ⟨q.d, 0, none⟩)) := o1.a.cell 0
    have a1 : w1.cell? ⟨w.heap.size, 1, none⟩ = some (.int .i64 (f : Nat)) := o1.a.cell 1
    have a2 : w1.cell? ⟨w.heap.size, 2, none⟩ = some (.int .i64 (m : Nat)) := o1.a.cell 2
    have O1 := Lib.hid o1
    clear o1
    go_region_held3 (fun w' => w'.cell? ⟨w.heap.size, 0, none⟩ = some (.pointer (some ⟨q.d, 0, none⟩)) ∧ w'.cell? ⟨w.heap.size, 1, none⟩ = some (.int .i64 (f : Nat)) ∧ w'.cell? ⟨w.heap.size, 2, none⟩ = some (.int .i64 (m : Nat))) (first | go_keep | (refine ⟨?_, ?_, ?_⟩ <;> assumption)) (first
      | ((go_at_call 87; (with_reducible refine (c1 (O1.out.below (by (repeat' (first | (with_reducible exact Below.refl _ _) | (with_reducible assumption) | (with_reducible refine Below.drew ?_) | (with_reducible refine below_drewN ?_ _) | (with_reducible refine Below.alloc ?_ ?_ _) | (with_reducible refine Below.setCell ?_ ?_ _) | omega | (simp; done) | (simp; omega))))).disk (by have := O1.out.size; simp; omega) w1.heap.size (RBZ.out _ _ (by (repeat' (first | (with_reducible assumption) | (with_reducible refine Blk.top _ (by first | rfl | omega | (simp; done) | (simp; omega)) rfl) | (with_reducible refine Blk.alloc ?_ _) | (with_reducible refine Blk.drew ?_) | (with_reducible refine Blk.drewN ?_ _) | (with_reducible refine Blk.far ?_ (by first | omega | (simp; done) | (simp; omega)) _)))))).mono ?_); rintro e w2 ⟨rfl, r2, k2⟩); have O2 := Lib.hid ((O1.out.below (w' := (w1.alloc (.cells Z.toArray 5)).drew) (by (repeat' (first | (with_reducible exact Below.refl _ _) | (with_reducible assumption) | (with_reducible refine Below.drew ?_) | (with_reducible refine below_drewN ?_ _) | (with_reducible refine Below.alloc ?_ ?_ _) | (with_reducible refine Below.setCell ?_ ?_ _) | omega | (simp; done) | (simp; omega))))).rstep r2 k2); have b0 : w2.cell? ⟨w.heap.size, 0, none⟩ = some (.pointer (some ⟨q.d, 0, none⟩)) := O2.out.a.cell 0; have b1 : w2.cell? ⟨w.heap.size, 1, none⟩ = some (.int .i64 (f : Nat)) := O2.out.a.cell 1; have b2 : w2.cell? ⟨w.heap.size, 2, none⟩ = some (.int .i64 (m : Nat)) := O2.out.a.cell 2; clear r2 k2)
      | fail "no arm")
    have cfl := fun {W : World} (O : RSv w W base q P1.1 f m g w.heap.size fl ml fr mr s A n c load B0 n0 d0) => r_flush O.disk O.size
    clear a0 a1 a2 c1 O1
    go_upto_if 37 with fail
    go_cut [7] (fun e wx => e = .int .i64 P2.2 ∧ RSv w wx base q P2.1 f m g w.heap.size fl ml fr mr s A n c load B0 n0 d0)
    case first =>
      by_cases h9 : P1.2 = 0
      · have e4 : P2 = flushV P1.1 := H2.out.trans (goOn_go h9)
        rw [← e4] at cfl
        rw [h9]
        clear e4 h9
        go_wp2_with (first
          | ((go_at_call 74; (with_reducible refine (cfl O2.out).mono ?_); rintro e w5 ⟨rfl, r5, k5⟩); have O5 := Lib.hid (O2.out.rstep r5 k5); clear r5 k5)
          | fail "no arm")
        go_meet
        exact ⟨rfl, O5.out⟩
      · have e4 : P2 = P1 := H2.out.trans (goOn_bad h9)
        have hne : (P1.2 == 0) = false := by rw [beq_eq_false_iff_ne]; exact h9
        have O5 := Lib.hid O2.out
        rw [← e4] at hne O5 ⊢
        clear e4 h9
        go_wp2_with fail
        go_meet
        exact ⟨rfl, O5.out⟩
    case rest =>
      obtain ⟨rfl, o3⟩ := hcut
      have O3 := Lib.hid o3
      clear o3 cfl b0 b1 b2 O2
      go_wp2_with fail
      go_loopw [7, 8] (fun e i wr => ∃ (j t : Nat) (z : Int) (X : DiskV), Hid (K = j + t) ∧ j ≤ K ∧ e = .int .i64 z ∧ i = .int .i64 ((j : Int) * 128) ∧ Hid (P3 = goOn (X, z) (fun Y => fillK Y f m load j t)) ∧ X.many = D.many ∧ X.waits.length ≤ D.waits.length + 1 + j ∧ RSv w wr base q X f m g w.heap.size fl ml fr mr s A n c load B0 n0 d0) (fun _ i _ => n + 128 - (intOf i).toNat)
      case atStart => exact ⟨0, K, P2.2, P2.1, Lib.hid (by omega), by omega, rfl, rfl, Lib.hid H3.out, F2.out.1, by have := F2.out.2; omega, O3.out⟩
      case round =>
        obtain ⟨j, t, z, X, hjt, hjK, rfl, rfl, hp3, hxm, hxw, o⟩ := hrel
        have hkn := HKN.out j
        have O := Lib.hid o
        clear o
        by_cases hlt : j < K
        · have hjn : j * 128 < n := hkn.1 hlt
          have hjI : (j : Int) * 128 < n := by omega
          by_cases hz : z = 0
          · have hzb : (z == 0) = true := by rw [hz]; rfl
            obtain ⟨wo, hwo⟩ : ∃ wo : World, wo = wr := ⟨_, rfl⟩
            subst hwo
            obtain ⟨t', rfl⟩ : ∃ t', t = t' + 1 := ⟨t - 1, by have := hjt.out; omega⟩
            obtain ⟨A', hA'⟩ : ∃ A', (if c = j * 128 then A else A.map (·.add (j * 128 * 1))) = A' := ⟨_, rfl⟩
            have hcutL : ∀ W, (Instr.slice 23 (.slice A n c) (some (.int .i64 ((j : Int) * 128))) none none).run Try.prog W = .ok (.slice A' (n - j * 128) (c - j * 128)) W := fun W => by
              have h := run_cut_from elemU8 A n c (j * 128) (by omega) W
              rw [hA'] at h
              exact h
            have hrL : RB wo A' (n - j * 128) (load.drop (j * 128)) := by
              have hll : load.length = n := HLEN.out
              have h1 : RB wo A n load := O.out.l.1
              refine ⟨by rw [List.length_drop, hll], ?_⟩
              rw [← hA', Nat.mul_one]
              exact (Row.cut h1.2 (by omega) hc).congr fun i hi => by
                unfold byteAt
                rw [List.getD_eq_getElem?_getD, List.getD_eq_getElem?_getD, List.getElem?_drop]
            have HRL := Lib.hid hrL
            have HPT := Lib.hid (fun u (h : 128 ≤ (load.drop (j * 128)).length + u) h2 => pad_take (load := load) (j := j) (t := u) h h2)
            have HFJ := Lib.hid (hp3.out.trans (HFILL.out X z j t' hz))
            have cwr := fun {W : World} (O : RSv w W base q X f m g w.heap.size fl ml fr mr s A n c load B0 n0 d0) (B : Option Addr) (d : Nat) (hb : RB W B 128 (padL load j)) => (show Calls Try.prog 87 #[.agg #[.pointer (some ⟨q.d, 0, none⟩), .int .i64 (f : Nat), .int .i64 (m : Nat)], .int .i64 (1 + (j : Int)), .slice B 128 d] W fun e w' => e = .returned (.int .i64 (aWriteV X f m ((1 + j : Nat) : Int) (padL load j)).2) ∧ RDiskS w' base q (aWriteV X f m ((1 + j : Nat) : Int) (padL load j)).1 ∧ RStep base q W w' from by
              have q9 := ra_write O.disk O.size (f := f) (m := m) (by rw [hxm]; exact hfm) ((1 + j : Nat) : Int) B d (padL load j) (padL_len load j) hb (by omega)
              rw [show (1 + (j : Int)) = ((1 + j : Nat) : Int) by omega]
              exact q9)
            have hmw := aWriteV_many X f m ((1 + j : Nat) : Int) (padL load j)
            have HMW := Lib.hid hmw
            obtain ⟨PL, hPL⟩ : ∃ PL, padL load j = PL := ⟨_, rfl⟩
            rw [hPL] at HPT HFJ cwr HMW
            obtain ⟨RL, hRL⟩ : ∃ RL, load.drop (j * 128) = RL := ⟨_, rfl⟩
            rw [hRL] at HRL HPT
            obtain ⟨nj, hnj⟩ : ∃ nj, n - j * 128 = nj := ⟨_, rfl⟩
            rw [hnj] at HRL hcutL
            have hnj2 : nj ≤ 512 := by omega
            have HNJ := Lib.hid hnj
            generalize aWriteV X f m ((1 + j : Nat) : Int) PL = PJ at *
            clear hrL hA' hPL hRL hnj hmw hp3 hz
            go_wp2_with (first
              | (at_builtin; refine wpList_app rfl rfl elemU8 bv_one (s := .tmp 51) (N := nj) (L := RL) rfl (Ow.new _ _ #[] [] rfl (by decide)) rfl (k := RL) (HRL.out.below (B := wo.heap.size) (by (repeat' (first | (with_reducible exact Below.refl _ _) | (with_reducible assumption) | (with_reducible refine Below.drew ?_) | (with_reducible refine below_drewN ?_ _) | (with_reducible refine Below.alloc ?_ ?_ _) | (with_reducible refine Below.setCell ?_ ?_ _) | omega | (simp; done) | (simp; omega)))) (Nat.le_refl _)).rd (by simp) (by simp) (by unfold maxLen; omega) (by omega) (by first | omega | (simp; done) | (simp; omega)) ?_; intro A3 c3 w3 hown3 hg3 hat3 hb3)
              | fail "no arm")
            have b3 : Below wo.heap.size wo w3 := ((Below.refl wo.heap.size wo).alloc (Nat.le_refl _) _).trans hb3
            have hRLl : RL.length = nj := HRL.out.1
            have HRLL := Lib.hid hRLl
            clear hg3 hat3 hb3 hcutL hRLl
            go_loopw [9] (fun v wi => ∃ (u : Nat) (B : Option Addr) (cc : Nat), (u = 0 ∨ nj + u ≤ 128) ∧ v = .slice B (nj + u) cc ∧ OB wi wo.heap.size 5 B (nj + u) cc (RL ++ List.replicate u 0) ∧ Below wo.heap.size wo wi) (fun v _ => 128 - (match v with | .slice _ k _ => k | _ => 0))
            case atStart => exact ⟨0, A3, c3, .inl rfl, rfl, by rw [List.replicate_zero, List.append_nil]; exact hown3, b3⟩
            case round =>
              obtain ⟨u, B, cc, hu, rfl, hown, hbel⟩ := hrel
              have hbs := hbel.size
              by_cases hl9 : nj + u < 128
              · have hlI : (nj : Int) + u < 128 := by omega
                have hrp : Hid ((RL ++ List.replicate u 0) ++ [(0 : UInt8)] = RL ++ List.replicate (u + 1) 0) := by show _ = _; rw [List.append_assoc, ← List.replicate_succ']
                go_wp2_with (first
                  | (at_builtin; refine wpList_app rfl rfl elemU8 bv_one (s := .tmp 59) (N := nj + (u + 1)) (L := RL ++ List.replicate (u + 1) 0) rfl (hown.below (b := wr.heap.size) (by (repeat' (first | (with_reducible exact Below.refl _ _) | (with_reducible assumption) | (with_reducible refine Below.drew ?_) | (with_reducible refine below_drewN ?_ _) | (with_reducible refine Below.alloc ?_ ?_ _) | (with_reducible refine Below.setCell ?_ ?_ _) | omega | (simp; done) | (simp; omega)))) (by first | omega | (simp; done) | (simp; omega))) rfl (k := [(0 : UInt8)]) (Rd.of_block (l := [(0 : UInt8)]) (heap_top _ _ (by simp)) rfl) rfl hrp.out (by unfold maxLen; omega) (by omega) (by first | omega | (simp; done) | (simp; omega)) ?_; intro A8 c8 w8 hown8 hg8 hat8 hb8)
                  | fail "no arm")
                have b8 : Below wo.heap.size wo w8 := (hbel.alloc hbs _).trans hb8
                go_roundw
                case rel => first
                  | exact ⟨u + 1, A8, c8, .inr (by omega), rfl, hown8, b8⟩
                  | ((repeat apply Exists.intro); exact ⟨⟨u + 1, A8, c8, .inr (by omega), rfl, hown8, b8⟩, rfl⟩)
                case measure => simp; omega
              · have hcap9 := hown.cap
                have hcut9 : ∀ W, (Instr.slice 23 (.slice B (nj + u) cc) none (some (.int .i64 128)) none).run Try.prog W = .ok (.slice B 128 cc) W := run_cut_to elemU8 B (nj + u) cc 128 (by omega)
                have hrb9 : RB wr B 128 PL := by
                  have q9 := (hown.rd.take_ (m := 128) (by omega)).rb
                  rw [HPT.out u (by rw [HRLL.out]; omega) (by rw [HRLL.out]; omega)] at q9
                  exact q9
                have O9 := Lib.hid (O.out.below hbel)
                have HRB9 := Lib.hid hrb9
                have a0 : wr.cell? ⟨w.heap.size, 0, none⟩ = some (.pointer (some ⟨q.d, 0, none⟩)) := O9.out.a.cell 0
                have a1 : wr.cell? ⟨w.heap.size, 1, none⟩ = some (.int .i64 (f : Nat)) := O9.out.a.cell 1
                have a2 : wr.cell? ⟨w.heap.size, 2, none⟩ = some (.int .i64 (m : Nat)) := O9.out.a.cell 2
                have hjq : ((j : Int) * 128) / 128 = (j : Int) := by omega
                have hjw : IntKind.i64.wrap (j : Int) = (j : Int) := by rw [IntKind.wrap_i64]; omega
                have hjw2 : IntKind.i64.wrap (1 + (j : Int)) = 1 + (j : Int) := by rw [IntKind.wrap_i64]; omega
                obtain ⟨nu, hnu⟩ : ∃ nu, nj + u = nu := ⟨_, rfl⟩
                rw [hnu] at hcut9 hl9 ⊢
                have hlI : ¬ ((nu : Int) < 128) := by omega
                clear hown hrb9 hu hnu
                go_wp2_with fail
                go_region_held3 (fun w' => w'.cell? ⟨w.heap.size, 0, none⟩ = some (.pointer (some ⟨q.d, 0, none⟩)) ∧ w'.cell? ⟨w.heap.size, 1, none⟩ = some (.int .i64 (f : Nat)) ∧ w'.cell? ⟨w.heap.size, 2, none⟩ = some (.int .i64 (m : Nat))) (first | go_keep | (refine ⟨?_, ?_, ?_⟩ <;> assumption)) (first
                  | ((go_at_call 87; (with_reducible refine (cwr (O9.out.below (by (repeat' (first | (with_reducible exact Below.refl _ _) | (with_reducible assumption) | (with_reducible refine Below.drew ?_) | (with_reducible refine below_drewN ?_ _) | (with_reducible refine Below.alloc ?_ ?_ _) | (with_reducible refine Below.setCell ?_ ?_ _) | omega | (simp; done) | (simp; omega))))) B cc (HRB9.out.below (B := wr.heap.size) (by (repeat' (first | (with_reducible exact Below.refl _ _) | (with_reducible assumption) | (with_reducible refine Below.drew ?_) | (with_reducible refine below_drewN ?_ _) | (with_reducible refine Below.alloc ?_ ?_ _) | (with_reducible refine Below.setCell ?_ ?_ _) | omega | (simp; done) | (simp; omega)))) (Nat.le_refl _))).mono ?_); rintro e w9 ⟨rfl, r9, k9⟩); have O10 := Lib.hid ((O9.out.below (w' := wr.drew) (by (repeat' (first | (with_reducible exact Below.refl _ _) | (with_reducible assumption) | (with_reducible refine Below.drew ?_) | (with_reducible refine below_drewN ?_ _) | (with_reducible refine Below.alloc ?_ ?_ _) | (with_reducible refine Below.setCell ?_ ?_ _) | omega | (simp; done) | (simp; omega))))).rstep r9 k9); have m0 : w9.cell? ⟨w.heap.size, 0, none⟩ = some (.pointer (some ⟨q.d, 0, none⟩)) := O10.out.a.cell 0; have m1 : w9.cell? ⟨w.heap.size, 1, none⟩ = some (.int .i64 (f : Nat)) := O10.out.a.cell 1; have m2 : w9.cell? ⟨w.heap.size, 2, none⟩ = some (.int .i64 (m : Nat)) := O10.out.a.cell 2; clear r9 k9)
                  | fail "no arm")
                go_wp2_with fail
                go_roundw
                case rel =>
                  have e9 : Hid (P3 = goOn (PJ.1, PJ.2) (fun Y => fillK Y f m load (j + 1) t')) := HFJ
                  have hm1 := HMW.out
                  have hi9 : Value.int .i64 ((j : Int) * 128 + 128) = .int .i64 (((j + 1 : Nat) : Int) * 128) := by congr 1; omega
                  first
                    | exact ⟨j + 1, t', PJ.2, PJ.1, Lib.hid (by have := hjt.out; omega), by omega, rfl, hi9, e9, by omega, by omega, O10.out⟩
                    | ((repeat apply Exists.intro); exact ⟨⟨j + 1, t', PJ.2, PJ.1, Lib.hid (by have := hjt.out; omega), by omega, rfl, hi9, e9, by omega, by omega, O10.out⟩, rfl⟩)
                case measure => simp [intOf]; omega
          · have hzb : (z == 0) = false := by rw [beq_eq_false_iff_ne]; exact hz
            have e3 : P3 = (X, z) := hp3.out.trans (goOn_bad hz)
            have hz3 : P3.2 ≠ 0 := by rw [e3]; exact hz
            have e4 : P4 = P3 := H4.out.trans (goOn_bad hz3)
            have e5 : P5 = P4 := H5.out.trans (goOn_bad (by rw [e4]; exact hz3))
            have e6 : P6 = P5 := H6.out.trans (goOn_bad (by rw [e5, e4]; exact hz3))
            have HE := Lib.hid (show R = (X, s, z) from by rw [HR.out, e6, e5, e4, if_pos hz3, e3])
            have hzn : (z != 0) = true := by rw [bne_iff_ne]; exact hz
            clear hz e3 hz3 e4 e5 e6 hp3
            go_wp2
            try rw [Exit.noGoto_ret]
            go_ret
            rw [HE.out]
            exact ⟨rfl, O.out.disk, ⟨B0, n0, d0, O.out.x, hc0, hcm0, O.out.l0, hnw2⟩, O.out.saved⟩
        · have hjn : ¬ ((j : Int) * 128 < n) := by have := fun e => hlt (hkn.2 e); omega
          have ht0 : t = 0 := by have := hjt.out; omega
          have e3 : P3 = (X, z) := by
            rw [hp3.out, ht0]
            by_cases hz : z = 0
            · rw [goOn_go hz, hz]; rfl
            · exact goOn_bad hz
          have hz3 : z = P3.2 := by rw [e3]
          have hx3 : X = P3.1 := by rw [e3]
          clear e3 ht0
          subst hz3 hx3
          clear hp3 hxm hxw
          clear HFILL
          have cfl3 := fun {W : World} (O : RSv w W base q P3.1 f m g w.heap.size fl ml fr mr s A n c load B0 n0 d0) => r_flush O.disk O.size
          go_upto_if 70 with fail
          go_cut [7] (fun e wx => e = .int .i64 P4.2 ∧ RSv w wx base q P4.1 f m g w.heap.size fl ml fr mr s A n c load B0 n0 d0)
          case first =>
            by_cases h9 : P3.2 = 0
            · have e4 : P4 = flushV P3.1 := H4.out.trans (goOn_go h9)
              rw [← e4] at cfl3
              have Y0 : wr.cell? ⟨w.heap.size, 0, none⟩ = some (.pointer (some ⟨q.d, 0, none⟩)) := O.out.a.cell 0
              rw [h9]
              clear e4 h9
              go_wp2_with (first
                | ((go_at_call 74; (with_reducible refine (cfl3 O.out).mono ?_); rintro e w5 ⟨rfl, r5, k5⟩); have O5 := Lib.hid (O.out.rstep r5 k5); clear r5 k5)
                | fail "no arm")
              go_meet
              exact ⟨rfl, O5.out⟩
            · have e4 : P4 = P3 := H4.out.trans (goOn_bad h9)
              have hne : (P3.2 == 0) = false := by rw [beq_eq_false_iff_ne]; exact h9
              have O5 := Lib.hid O.out
              rw [← e4] at hne O5 ⊢
              clear e4 h9
              go_wp2_with fail
              go_meet
              exact ⟨rfl, O5.out⟩
          case rest =>
            obtain ⟨rfl, o4⟩ := hcut
            have O4 := Lib.hid o4
            clear o4 cfl3
            go_upto_if 75 with fail
            go_cut [7] (fun e wx => e = .int .i64 P5.2 ∧ RSv w wx base q P5.1 f m g w.heap.size fl ml fr mr s A n c load B0 n0 d0)
            case first =>
              by_cases h9 : P4.2 = 0
              · have e4 : P5 = aPutV P4.1 f m 0 2 (s.number + 1) (headL load) := H5.out.trans (goOn_go h9)
                have cput := fun {W : World} (O : RSv w W base q P4.1 f m g w.heap.size fl ml fr mr s A n c load B0 n0 d0) (B : Option Addr) (d : Nat) (hb : RB W B 12 (headL load)) => (show Calls Try.prog 89 #[.agg #[.pointer (some ⟨q.d, 0, none⟩), .int .i64 (f : Nat), .int .i64 (m : Nat)], .int .i64 0, .int .i64 2, .int .i64 (s.number + 1), .slice B 12 d] W fun e w' => e = .returned (.int .i64 P5.2) ∧ RDiskS w' base q P5.1 ∧ RStep base q W w' from by rw [e4]; exact ra_put O.disk O.size (by rw [F4.out.1]; exact hfm) 0 2 (s.number + 1) B 12 d (headL load) hb (by decide) (by have := HNB.out; omega) (by have := F4.out.2; omega))
                have HHL : Hid (putL (un n) ++ sumL load = headL load) := by show _ = _; unfold headL; rw [HLEN.out]
                have csm := fun {W : World} (O : RSv w W base q P4.1 f m g w.heap.size fl ml fr mr s A n c load B0 n0 d0) => rsum_any A n c load W O.l.1 (by unfold maxLen; omega)
                have cpt := fun (W : World) => refput_any (n : Int) W (by omega) (by omega)
                have hsl := sumL_len load
                have SLN := Lib.hid hsl
                generalize headL load = hL at *
                generalize sumL load = sL at *
                have a0 : wc.cell? ⟨w.heap.size, 0, none⟩ = some (.pointer (some ⟨q.d, 0, none⟩)) := O4.out.a.cell 0
                have a1 : wc.cell? ⟨w.heap.size, 1, none⟩ = some (.int .i64 (f : Nat)) := O4.out.a.cell 1
                have a2 : wc.cell? ⟨w.heap.size, 2, none⟩ = some (.int .i64 (m : Nat)) := O4.out.a.cell 2
                have a7 : wc.cell? ⟨g, 7, none⟩ = some (.int .i64 s.number) := O4.out.x.cell 7
                rw [h9]
                clear e4 h9 hsl
                go_wp2_with fail
                go_region_held3 (fun w' => w'.cell? ⟨w.heap.size, 0, none⟩ = some (.pointer (some ⟨q.d, 0, none⟩)) ∧ w'.cell? ⟨w.heap.size, 1, none⟩ = some (.int .i64 (f : Nat)) ∧ w'.cell? ⟨w.heap.size, 2, none⟩ = some (.int .i64 (m : Nat)) ∧ w'.cell? ⟨g, 7, none⟩ = some (.int .i64 s.number)) (first | go_keep | (refine ⟨?_, ?_, ?_, ?_⟩ <;> assumption)) (first
                  | ((go_at_call 117; (with_reducible refine (cpt _).mono ?_); rintro e w6 ⟨B6, c6, rfl, o6, b6⟩); have O6 := O4.out.below (below_then' (a := wc) (B := wc.heap.size) (by (repeat' (first | (with_reducible exact Below.refl _ _) | (with_reducible assumption) | (with_reducible refine Below.drew ?_) | (with_reducible refine below_drewN ?_ _) | (with_reducible refine Below.alloc ?_ ?_ _) | (with_reducible refine Below.setCell ?_ ?_ _) | omega | (simp; done) | (simp; omega)))) b6 (by first | omega | (simp; done) | (simp; omega))); have i0 : w6.cell? ⟨w.heap.size, 0, none⟩ = some (.pointer (some ⟨q.d, 0, none⟩)) := O6.a.cell 0; have i1 : w6.cell? ⟨w.heap.size, 1, none⟩ = some (.int .i64 (f : Nat)) := O6.a.cell 1; have i2 : w6.cell? ⟨w.heap.size, 2, none⟩ = some (.int .i64 (m : Nat)) := O6.a.cell 2; have i7 : w6.cell? ⟨g, 7, none⟩ = some (.int .i64 s.number) := O6.x.cell 7)
                  | ((go_at_call 118; (with_reducible refine (csm O6).mono ?_); rintro e w7 ⟨B7, c7, rfl, o7, b7⟩); have O7 := O6.below b7; have o67 := o6.below b7 (Nat.le_refl _); have j0 : w7.cell? ⟨w.heap.size, 0, none⟩ = some (.pointer (some ⟨q.d, 0, none⟩)) := O7.a.cell 0; have j1 : w7.cell? ⟨w.heap.size, 1, none⟩ = some (.int .i64 (f : Nat)) := O7.a.cell 1; have j2 : w7.cell? ⟨w.heap.size, 2, none⟩ = some (.int .i64 (m : Nat)) := O7.a.cell 2; have j7 : w7.cell? ⟨g, 7, none⟩ = some (.int .i64 s.number) := O7.x.cell 7)
                  | (refine step_app rfl rfl elemU8 bv_one (s := .tmp 84) (x := .tmp 86) (N := 12) (L := hL) rfl o67 rfl (k := sL) o7.rd (by rfl) HHL.out (by unfold maxLen; omega) (by omega) (by have e1 := b6.size; have e2 := b7.size; omega) ?_; intro A8 c8 w8 hown8 hg8 hat8 hb8; have O8 := O4.out.below (Below.trans (Below.drew (Below.refl wc.heap.size wc)) ((b6.mono (by simp)).trans ((b7.mono (by have e1 := b6.size; simp at e1; omega)).trans (hb8.mono (by simp))))); have l0 : w8.cell? ⟨w.heap.size, 0, none⟩ = some (.pointer (some ⟨q.d, 0, none⟩)) := O8.a.cell 0; have l1 : w8.cell? ⟨w.heap.size, 1, none⟩ = some (.int .i64 (f : Nat)) := O8.a.cell 1; have l2 : w8.cell? ⟨w.heap.size, 2, none⟩ = some (.int .i64 (m : Nat)) := O8.a.cell 2; have l7 : w8.cell? ⟨g, 7, none⟩ = some (.int .i64 s.number) := O8.x.cell 7)
                  | ((go_at_call 89; (with_reducible refine (cput O8 A8 c8 hown8.rd.rb).mono ?_); rintro e w9 ⟨rfl, r9, k9⟩); have O9 := O8.rstep r9 k9; have m0 : w9.cell? ⟨w.heap.size, 0, none⟩ = some (.pointer (some ⟨q.d, 0, none⟩)) := O9.a.cell 0; have m1 : w9.cell? ⟨w.heap.size, 1, none⟩ = some (.int .i64 (f : Nat)) := O9.a.cell 1; have m2 : w9.cell? ⟨w.heap.size, 2, none⟩ = some (.int .i64 (m : Nat)) := O9.a.cell 2; have m7 : w9.cell? ⟨g, 7, none⟩ = some (.int .i64 s.number) := O9.x.cell 7; have HO9 := Lib.hid O9; clear O9 r9 k9)
                  | fail "no arm")
                go_wp2_with fail
                go_meet
                exact ⟨rfl, HO9.out⟩
              · have e4 : P5 = P4 := H5.out.trans (goOn_bad h9)
                have hne : (P4.2 == 0) = false := by rw [beq_eq_false_iff_ne]; exact h9
                have O5 := Lib.hid O4.out
                rw [← e4] at hne O5 ⊢
                clear e4 h9
                go_wp2_with fail
                go_meet
                exact ⟨rfl, O5.out⟩
            case rest =>
              obtain ⟨rfl, o5⟩ := hcut
              have O5 := Lib.hid o5
              clear o5 O4
              have cfl5 := fun {W : World} (O : RSv w W base q P5.1 f m g w.heap.size fl ml fr mr s A n c load B0 n0 d0) => r_flush O.disk O.size
              go_upto_if 90 with fail
              go_cut [7] (fun e wx => e = .int .i64 P6.2 ∧ RSv w wx base q P6.1 f m g w.heap.size fl ml fr mr s A n c load B0 n0 d0)
              case first =>
                by_cases h9 : P5.2 = 0
                · have e4 : P6 = flushV P5.1 := H6.out.trans (goOn_go h9)
                  rw [← e4] at cfl5
                  have Y0 : wc.cell? ⟨w.heap.size, 0, none⟩ = some (.pointer (some ⟨q.d, 0, none⟩)) := O5.out.a.cell 0
                  rw [h9]
                  clear e4 h9
                  go_wp2_with (first
                    | ((go_at_call 74; (with_reducible refine (cfl5 O5.out).mono ?_); rintro e w5 ⟨rfl, r5, k5⟩); have O6 := Lib.hid (O5.out.rstep r5 k5); clear r5 k5)
                    | fail "no arm")
                  go_meet
                  exact ⟨rfl, O6.out⟩
                · have e4 : P6 = P5 := H6.out.trans (goOn_bad h9)
                  have hne : (P5.2 == 0) = false := by rw [beq_eq_false_iff_ne]; exact h9
                  have O6 := Lib.hid O5.out
                  rw [← e4] at hne O6 ⊢
                  clear e4 h9
                  go_wp2_with fail
                  go_meet
                  exact ⟨rfl, O6.out⟩
              case rest =>
                obtain ⟨rfl, o6⟩ := hcut
                have O6 := Lib.hid o6
                clear o6 O5 cfl5
                by_cases h9 : P6.2 = 0
                · have HE := Lib.hid (show R = (P6.1, ⟨1, s.number + 1, load⟩, 0) from by rw [HR.out, if_neg (by rw [h9]; simp)])
                  have X9 := O6.out.x
                  have u6 : wc.cell? ⟨g, 6, none⟩ = some (.int .i64 (s.now : Nat)) := X9.cell 6
                  have u7 : wc.cell? ⟨g, 7, none⟩ = some (.int .i64 s.number) := X9.cell 7
                  have u8 : wc.cell? ⟨g, 8, none⟩ = some (.slice B0 n0 d0) := X9.cell 8
                  have v6 := X9.frozen 6
                  have v7 := X9.frozen 7
                  have v8 := X9.frozen 8
                  have l2 := X9.lt
                  have FIN := Lib.hid (RSlotsAt.sets (o := 1) (oth := 1) X9 O6.out.disk hg O6.out.l hc (by unfold maxLen; omega) rfl (by omega) (s.number + 1))
                  have bF := Lib.hid (O6.out.saved3 hg (.int .i64 1) (.int .i64 (s.number + 1)) (.slice A n c))
                  rw [h9]
                  clear h9 X9
                  go_wp2
                  try rw [Exit.noGoto_ret]
                  go_ret
                  rw [HE.out]
                  exact ⟨rfl, FIN.out.1, FIN.out.2, bF.out⟩
                · have HE := Lib.hid (show R = (P6.1, s, P6.2) from by rw [HR.out, if_pos h9])
                  have hne : (P6.2 != 0) = true := by rw [bne_iff_ne]; exact h9
                  clear h9
                  go_wp2
                  try rw [Exit.noGoto_ret]
                  go_ret
                  rw [HE.out]
                  exact ⟨rfl, O6.out.disk, ⟨B0, n0, d0, O6.out.x, hc0, hcm0, O6.out.l0, hnw2⟩, O6.out.saved⟩
set_option maxRecDepth 100000 in
theorem rsave_any (hS : RSlotsAt w base g q fl ml fr mr s) (hd : RDiskS w base q D) (hs : base ≤ w.heap.size) (hg : base ≤ g) (hml : 5 ≤ ml) (hmr : 5 ≤ mr) (hfl : fl + ml ≤ D.many) (hfr : fr + mr ≤ D.many)
    (hl : BytesAt w base ⟨A, n, c⟩ load) (hc : n ≤ c) (hcm : c ≤ maxLen) (hnb : -9223372036854775808 ≤ s.number ∧ s.number ≤ 9223372036854775807) (hw : D.waits.length < 800000) :
    Calls Try.prog 103 #[.pointer (some ⟨g, 0, none⟩), .slice A n c] w fun e w' => e = .returned (.int .i64 (saveSV D fl ml fr mr s load).2.2) ∧ RDiskS w' base q (saveSV D fl ml fr mr s load).1 ∧ RSlotsAt w' base g q fl ml fr mr (saveSV D fl ml fr mr s load).2.1 ∧ RSaved base q g w w' := by
  have hlen : load.length = n := hl.1.1
  by_cases h3 : 512 < load.length ∨ s.number = 9223372036854775807
  · have hR : saveSV D fl ml fr mr s load = (D, s, 3) := by unfold saveSV; rw [if_pos h3]
    rw [hR]
    have HS := Lib.hid hS
    have HD := Lib.hid hd
    obtain ⟨B0, n0, d0, h1, _⟩ := hS
    have HX1 := Lib.hid h1
    have x7 : w.cell? ⟨g, 7, none⟩ = some (.int .i64 s.number) := h1.cell 7
    have hcs : 512 < n ∨ (n ≤ 512 ∧ s.number = 9223372036854775807) := by rw [hlen] at h3; omega
    clear h1 h3 hd hl hR hlen
    rcases hcs with q1 | ⟨q1, q2⟩
    · go_enter Try.func103, Try.ntmps103
      go_wp2
      go_ret
      exact ⟨rfl, HD.out, HS.out, w, _, RStep.refl _ _ _, HX1.out, Keep.refl _ _, Below.refl _ _⟩
    · have q3 : (s.number == 9223372036854775807) = true := by rw [q2]; rfl
      clear q2
      go_enter Try.func103, Try.ntmps103
      go_wp2
      go_ret
      exact ⟨rfl, HD.out, HS.out, w, _, RStep.refl _ _ _, HX1.out, Keep.refl _ _, Below.refl _ _⟩
  · have hR : saveSV D fl ml fr mr s load = if (saveA D (if s.now = 0 then fr else fl) (if s.now = 0 then mr else ml) (s.number + 1) load).2 ≠ 0 then ((saveA D (if s.now = 0 then fr else fl) (if s.now = 0 then mr else ml) (s.number + 1) load).1, s, (saveA D (if s.now = 0 then fr else fl) (if s.now = 0 then mr else ml) (s.number + 1) load).2)
      else ((saveA D (if s.now = 0 then fr else fl) (if s.now = 0 then mr else ml) (s.number + 1) load).1, ⟨if s.now = 0 then 1 else 0, s.number + 1, load⟩, 0) := by unfold saveSV; rw [if_neg h3]
    by_cases hn : s.now = 0
    · simp only [if_pos hn] at hR
      exact rsave_main _ 1 fr mr (.inr ⟨rfl, rfl, rfl, hn⟩) hR hS hd hs hg hmr hfr hl hc hcm (by omega) (by omega) hnb hw
    · simp only [if_neg hn] at hR
      exact rsave_main _ 0 fl ml (.inl ⟨rfl, rfl, rfl, hn⟩) hR hS hd hs hg hml hfl hl hc hcm (by omega) (by omega) hnb hw
end
end Go.Proofs.Ytninidpbchcliaa
