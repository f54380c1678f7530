/- Parts: RSlotA. -/
import Derived.Test.YtpmkpckldnnigaaGreatPr02
import Derived.Test.YtpmkpckldnnigaaGreatPr20
import Derived.Test.YtpmkpckldnnigaaGreatPr33
import Derived.Test.YtpmkpckldnnigaaGreatPr31
import Derived.Deep.DeepCutAuto
import Derived.Deep.CutBlock
import Derived.Test.YtpmkpckldnnigaaGreatPr25
set_option linter.unusedVariables false
set_option linter.unusedSimpArgs false
set_option maxRecDepth 100000
set_option maxHeartbeats 40000000
namespace Go.Proofs.YtpmkpckldnnigaaGreat
open Go.RowKit
theorem le4_tab (s : Nat) : tabB 4 (fun i => s / 256 ^ i % 256) = le4 s := rfl
theorem vj5 (A : Option Addr) (n d : Nat) (l : List UInt8) (w : World) (hl : RB w A n l) (hn : n ≤ maxLen) :
    Calls Tryz.prog 158 #[.slice A n d] w fun e w' => ∃ B c, e = .returned (.slice B 4 c) ∧ OB w' w.heap.size 5 B 4 c (sumL l) ∧ Below w.heap.size w w' := by
  have csum := sum_ref A n d l w hl hn; have hlt := qr9 [l]; unfold sumL; generalize qh4 [l] = S at *; clear hl hn; go_enter Tryz.func158, Tryz.ntmps158; go_wp2_with (first | ((go_at_call 218; (with_reducible refine (csum).mono ?_); rintro e w1 ⟨rfl, hb1⟩); have s1 := hb1.size) | fail "no arm"); go_loopw [3, 4, 5] (fun u v i wr => ∃ (k U : Nat) (B : Option Addr) (c : Nat), k ≤ 4 ∧ i = .int .i64 (k : Nat) ∧ Hid (U = S / 256 ^ k) ∧ U < 4294967296 ∧ u = .int .i64 (U : Nat) ∧ v = .slice B k c ∧ OB wr w.heap.size 5 B k c (tabB k (fun i => S / 256 ^ i % 256)) ∧ Below w.heap.size w wr) (fun _ _ i _ => 4 - (intOf i).toNat)
  case atStart => exact ⟨0, S, none, 0, omg, rfl, hdd smp, hlt, rfl, rfl, Ow.nil _ _ _ _, hb1⟩
  case round =>
    obtain ⟨k, U, B, c, hk, rfl, hU, hUlt, rfl, rfl, hown, hbel⟩ := hrel; have hbs := hbel.size
    by_cases hlt4 : k < 4
    · have hnx : Hid (tabB k (fun i => S / 256 ^ i % 256) ++ [UInt8.ofNat (U % 256)] = tabB (k + 1) (fun i => S / 256 ^ i % 256)) := by
        show _ = _
        unfold tabB; rw [List.range_succ, List.map_append, hU.out]
        rfl
      have hcell : bv (UInt8.ofNat (U % 256)) = .int .u8 ((U : Int) % 256) := by rw [qi2 omg]; congr 1
      have hcl : [UInt8.ofNat (U % 256)].map bv = [.int .u8 ((U : Int) % 256)] := by rw [List.map_singleton, hcell]
      have HCL := hdd hcl; have hU2 : Hid (U / 256 = S / 256 ^ (k + 1)) := by
        show _ = _
        rw [hU.out, Nat.div_div_eq_div_mul, Nat.pow_succ]
      clear hcell hcl; go_wp2_with (first | (at_builtin; refine qa6 rfl rfl qb4 qc2 (s := .tmp 12) (N := k + 1) (L := tabB (k + 1) (fun i => S / 256 ^ i % 256)) rfl (hown.below (b := wr.heap.size) gwn szz) rfl (k := [UInt8.ofNat (U % 256)]) (Rd.of_block (l := [UInt8.ofNat (U % 256)]) (qb7 _ _ smp) (HCL.out.symm)) rfl hnx.out uml omg szz ?_; intro A8 c8 w8 hown8 hg8 hat8 hb8; replace hb8 := qa0 (a := w) (B := w.heap.size) gwn hb8 szz; have hb8s := hb8.size) | fail "no arm"); go_roundw
      case rel => first
        | exact ⟨k + 1, U / 256, A8, c8, omg, by go_num, hU2, omg, by go_num, rfl, hown8, hb8⟩
        | ((repeat apply Exists.intro); exact ⟨⟨k + 1, U / 256, A8, c8, omg, by go_num, hU2, omg, by go_num, rfl, hown8, hb8⟩, rfl⟩)
      case measure => simp [intOf]; omega
    · have hk4 : k = 4 := omg; subst hk4; rw [le4_tab] at hown; go_wp2; go_ret; exact ⟨B, c, rfl, hown, hbel⟩
section
variable {w w' : World} {base f m : Nat} {q : qf0} {D : qa3}
theorem rtake_on {n kind : Int} (h : (qg3 D f m n kind).2.2 = 0) : D.off = false ∧ (qe1 D f m n).1 = qt1 D := by
  have h1 : (qe1 D f m n).2.2 = 0 := by
    apply Classical.byContradiction; intro hc; unfold qg3 at h; rw [if_pos hc] at h; exact hc h
  unfold qe1 at h1 ⊢
  split at h1
  · exact absurd h1 smp
  · rename_i hc; rw [if_neg hc]; unfold qn3 at h1 ⊢
    split at h1
    · rename_i hm; exact absurd h1 hm
    · rename_i hm; rw [if_neg hm]; exact ⟨(qp4 (Decidable.of_not_not hm)).1, rfl⟩
def qw2 (w : World) (base : Nat) (q : qf0) (R : qa3 × List UInt8 × Int × Int) (e : Ending) (w' : World) : Prop :=
  ∃ B n d N ok er, e = .returned (.tuple #[.slice B n d, .int .i64 N, .bool ok, .int .i64 er]) ∧ (R.2.2.2 = 0 → ok = true ∧ er = 0 ∧ N = R.2.2.1 ∧ n ≤ d ∧ d ≤ maxLen ∧ n ≤ 512 ∧ qb8 w' base ⟨B, n, d⟩ R.2.1) ∧ (R.2.2.2 = 53 → ok = false ∧ er = 0) ∧ (R.2.2.2 ≠ 0 → R.2.2.2 ≠ 53 → ok = false ∧ er = R.2.2.2) ∧ qb5 w' base q R.1 ∧ qd4 base q w w'
theorem qw2.not {B : Option Addr} {n d : Nat} {N : Int} (hd : qb5 w' base q D) (st : qd4 base q w w') : qw2 w base q (D, [], 0, 53) (.returned (.tuple #[.slice B n d, .int .i64 N, .bool false, .int .i64 0])) w' :=
  ⟨B, n, d, N, false, 0, rfl, fun e => absurd e smp, fun _ => ⟨rfl, rfl⟩, fun _ e => absurd rfl e, hd, st⟩
theorem qw2.bad {z : Int} (h0 : z ≠ 0) (h53 : z ≠ 53) (hd : qb5 w' base q D) (st : qd4 base q w w') : qw2 w base q (D, [], 0, z) (.returned (.tuple #[.slice none 0 0, .int .i64 0, .bool false, .int .i64 z])) w' :=
  ⟨none, 0, 0, 0, false, z, rfl, fun e => absurd e h0, fun e => absurd e h53, fun _ _ => ⟨rfl, rfl⟩, hd, st⟩
theorem ra_readK {A : Option Addr} {c ck ci : Nat} (h : qc0 w base q A c ck ci D) (hoff : D.off = false) (hfm : f + m ≤ D.many) (n : Nat) (hn : n < m) :
    Calls Tryz.prog 173 #[.agg #[.pointer (some ⟨q.d, 0, none⟩), .int .i64 (f : Nat), .int .i64 (m : Nat)], .int .i64 (n : Nat)] w fun e w' => ∃ B c2, e = .returned (.tuple #[.slice B 128 c2, .int .i64 0]) ∧ 128 ≤ c2 ∧ RB w' B 128 (qc7 D.now ((f + n : Nat) : Int)) ∧ qc0 w' base q A c ck ci (qt1 D) ∧ Keep (fun g => g = q.d ∨ g = q.go) w w' := by
  have hm1 : D.many ≤ 4096 := h.ok.many1; have bA : Below w.heap.size w (w.alloc (.cells #[.pointer (some ⟨q.d, 0, none⟩), .int .i64 (f : Nat), .int .i64 (m : Nat)] 50)) := (Below.refl _ _).alloc nlr _; have c1 := rread_yes (h.below bA) (f + n) hoff omg; rw [show ((f + n : Nat) : Int) = (f : Int) + (n : Int) by omega] at c1 ⊢; have hnm : (n : Int) < m := omg; have BA := hdd bA; clear h bA; go_enter Tryz.func173, Tryz.ntmps173; go_wp2_with (first | ((go_at_call 232; (with_reducible refine (c1).mono ?_); rintro e w2 ⟨⟨ya, yn, yc⟩, rfl, ⟨hw1, hw2, hw3⟩, hb2, r2, k2⟩); simp only at hw1 hw2 hw3; subst hw1; unfold slV) | fail "no arm"); go_ret2; exact ⟨ya, yc, rfl, hw2, hb2.1, r2, (Keep.of_below BA.out).trans k2 (fun _ _ e => e)⟩
theorem qc0.reads {w1 : World} {A : Option Addr} {c ck ci j : Nat} (h : qc0 w1 base q A c ck ci D) (h' : qc0 w base q A c ck ci (rdK D j)) (k : Keep (fun g => g = q.d ∨ g = q.go) w1 w') (b1 : ∀ {t : TypeId} {cs : List Value}, Blk w q.d t cs → Blk w' q.d t cs) (b2 : ∀ {t : TypeId} {cs : List Value}, Blk w q.go t cs → Blk w' q.go t cs) : qc0 w' base q A c ck ci (rdK D j) := by
  obtain ⟨o, eo⟩ := vd7 D j; have hst := h'.st; have hop := h'.op; have hl := h'.ops; rw [eo] at hst hop hl ⊢; exact h.turnHead k (b1 hst) (b2 hop) hl h.ok.cut
theorem Ow.kept2 {α : Type} {enc : α → Value} {F : Nat → Prop} {w w' : World} {b n c : Nat} {t : TypeId} {B : Option Addr} {l : List α} (h : Ow enc w b t B n c l) (k : Keep F w w') (hF : ∀ g, B.map (·.block) = some g → ¬ F g) : Ow enc w' b t B n c l :=
  ⟨h.1, qe7 h.2 k (fun g hg hf => hF g (by cases B with | none => simp [Value.ownBlock] at hg | some a => simpa [Value.ownBlock] using hg) hf)⟩
theorem vg9 (hd : qb5 w base q D) (hs : base ≤ w.heap.size) (hm : 5 ≤ m) (hfm : f + m ≤ D.many) :
    Calls Tryz.prog 151 #[.agg #[.pointer (some ⟨q.d, 0, none⟩), .int .i64 (f : Nat), .int .i64 (m : Nat)]] w (qw2 w base q (qb2 D f m)) := by
  have hok : D.Ok := by obtain ⟨A, c, ck, ci, h⟩ := hd; exact h.ok
  have hm4 : f + m ≤ 4096 := by have := hok.many1; omega
  have bA : Below w.heap.size w (w.alloc (.cells #[.pointer (some ⟨q.d, 0, none⟩), .int .i64 (f : Nat), .int .i64 (m : Nat)] 50)) := (Below.refl _ _).alloc nlr _; have XA := hdd (show Blk (w.alloc (.cells #[.pointer (some ⟨q.d, 0, none⟩), .int .i64 (f : Nat), .int .i64 (m : Nat)] 50)) w.heap.size 50 [.pointer (some ⟨q.d, 0, none⟩), .int .i64 (f : Nat), .int .i64 (m : Nat)] from Blk.top _ rfl rfl); have ctk : Calls Tryz.prog 172 #[.agg #[.pointer (some ⟨q.d, 0, none⟩), .int .i64 (f : Nat), .int .i64 (m : Nat)], .int .i64 0, .int .i64 2] (w.alloc (.cells #[.pointer (some ⟨q.d, 0, none⟩), .int .i64 (f : Nat), .int .i64 (m : Nat)] 50)) (RTakeB _ base q (qg3 D f m 0 2) (qe1 D f m 0).1) := ra_takeB (hd.below bA) (by have := bA.size; omega) hfm 0 2; have HR0 := hdd (hd.below bA); have BA := hdd (qd4.of_below (q := q) bA hs); have hon := rtake_on (D := D) (f := f) (m := m) (n := 0) (kind := 2); have HOK := hdd hok; unfold qb2; generalize qg3 D f m 0 2 = T at *; obtain ⟨N, L, er⟩ := T; generalize hD1 : (qe1 D f m 0).1 = D1 at *; simp only at ctk hon ⊢; clear hd hok hD1 bA
  by_cases her : er = 0
  · subst her; rw [if_neg smp]
    by_cases hl : L.length = 12
    · rw [if_neg (by rw [hl]; simp)]; have HL := hdd hl; clear hl; obtain ⟨hN, hhN⟩ : ∃ hN, sg (getL (L.take 8)) = hN := ⟨_, rfl⟩; have HN := hdd hhN; rw [show vf9 L = hN from hhN]; clear hhN
      by_cases hn : hN < 0 ∨ 512 < hN
      · rw [if_pos hn]; have hc : hN < 0 ∨ (0 ≤ hN ∧ 512 < hN) := omg; clear hn hon; rcases hc with h1 | ⟨h1, h2⟩
        all_goals
          go_enter Tryz.func151, Tryz.ntmps151; go_wp2_with (first | ((go_at_call 172; (with_reducible refine (ctk).mono ?_); rintro e w1 ⟨B, k, d, rfl, _, hbb, d1, st1⟩); obtain ⟨hkd, hdm, hba⟩ := hbb rfl; obtain rfl : k = 12 := (by have e1 : L.length = k := hba.1.1; have e2 := HL.out; omega); obtain ⟨gh, oh, e0, hbl1, _⟩ := hba.1.2 (by show 0 < 12; omega); simp only at e0; subst e0; have hcut : ∀ W, (Instr.slice 22 (.slice (some ⟨gh, oh, none⟩) 12 d) none (some (.int .i64 8)) none).run Tryz.prog W = .ok (.slice (some ⟨gh, oh, none⟩) 8 d) W := qj3 qb4 (some ⟨gh, oh, none⟩) 12 d 8 omg; have cget : Calls Tryz.prog 152 #[.slice (some ⟨gh, oh, none⟩) 8 d] w1 fun e w' => e = .returned (.tuple #[.int .i64 (hN), .int .i64 0]) ∧ Below w1.heap.size w1 w' := (by have q9 := qv3 (some ⟨gh, oh, none⟩) d (L.take 8) w1 ((Rd.take_ (show Rd bv w1 (some ⟨gh, oh, none⟩) 12 L from hba.1.rd) omg).rb); rw [HN.out] at q9; exact q9); have HBA := hdd hba; have D1' := hdd d1; have S1 := hdd (BA.out.trans st1); have XA1 := hdd (HR0.out.blk XA.out st1 dcd); have s1 := st1.size; clear hba d1 st1 hbb) | ((go_at_call 152; (with_reducible refine (cget).mono ?_); rintro e w2 ⟨rfl, b2⟩)) | fail "no arm"); go_returns; exact qw2.not (D1'.out.below b2) (S1.out.trans (qd4.of_below b2 (by have := S1.out.size; omega)))
      · rw [if_neg hn]; obtain ⟨nn, hnn⟩ : ∃ nn : Nat, hN = (nn : Int) := ⟨hN.toNat, omg⟩; subst hnn; have hn512 : nn ≤ 512 := omg; rw [Int.toNat_natCast]; obtain ⟨hoff, hd1⟩ := hon rfl; have hK : qi0 nn ≤ 4 := by unfold qi0; omega
        have hKn : nn ≤ qi0 nn * 128 := by unfold qi0; omega
        have hKn2 : ∀ j, j < qi0 nn → j * 128 < nn := fun j hj => by unfold qi0 at hj; omega
        have hoff1 : D1.off = false := by rw [hd1]; exact hoff
        have hfm1 : f + m ≤ D1.many := by rw [hd1]; exact hfm
        have hnow : D.now = D1.now := by rw [hd1]; rfl
        have hok1 : D1.now.length = D1.many * 128 := by rw [hd1]; exact HOK.out.now
        rw [hnow]; have hbl := hdd (bodyL_len hok1 (f := f) (qi0 nn) omg); have HKN := hdd hKn2; generalize hKe : qi0 nn = K at *; generalize hRe : (if sumL ((qp6 D1.now f K).take nn) = L.drop 8 then (rdK D1 K, (qp6 D1.now f K).take nn, N, (0 : Int)) else (rdK D1 K, [], 0, 53)) = R; have HRE := hdd hRe; clear hRe; clear hKe hn hon hd1 hnow hoff hfm hok1 hKn2; go_enter Tryz.func151, Tryz.ntmps151; go_wp2_with (first | ((go_at_call 172; (with_reducible refine (ctk).mono ?_); rintro e w1 ⟨B, k, d, rfl, _, hbb, d1, st1⟩); obtain ⟨hkd, hdm, hba⟩ := hbb rfl; obtain rfl : k = 12 := (by have e1 : L.length = k := hba.1.1; have e2 := HL.out; omega); obtain ⟨gh, oh, e0, hbl1, _⟩ := hba.1.2 (by show 0 < 12; omega); simp only at e0; subst e0; have hcut : ∀ W, (Instr.slice 22 (.slice (some ⟨gh, oh, none⟩) 12 d) none (some (.int .i64 8)) none).run Tryz.prog W = .ok (.slice (some ⟨gh, oh, none⟩) 8 d) W := qj3 qb4 (some ⟨gh, oh, none⟩) 12 d 8 omg; have cget : Calls Tryz.prog 152 #[.slice (some ⟨gh, oh, none⟩) 8 d] w1 fun e w' => e = .returned (.tuple #[.int .i64 ((nn : Int)), .int .i64 0]) ∧ Below w1.heap.size w1 w' := (by have q9 := qv3 (some ⟨gh, oh, none⟩) d (L.take 8) w1 ((Rd.take_ (show Rd bv w1 (some ⟨gh, oh, none⟩) 12 L from hba.1.rd) omg).rb); rw [HN.out] at q9; exact q9); have HBA := hdd hba; have D1' := hdd d1; have S1 := hdd (BA.out.trans st1); have XA1 := hdd (HR0.out.blk XA.out st1 dcd); have s1 := st1.size; clear hba d1 st1 hbb) | ((go_at_call 152; (with_reducible refine (cget).mono ?_); rintro e w2 ⟨rfl, b2⟩); have HBA2 := hdd (HBA.out.below b2); have S2 := hdd (S1.out.trans (qd4.of_below b2 (by have := S1.out.size; omega))); have XA2 := hdd (XA1.out.below b2 XA1.out.lt); have D2' := hdd (D1'.out.below b2); have s2 := S2.out.size) | fail "no arm"); obtain ⟨A0, c0, ck0, ci0, hat0⟩ := D2'.out; have HAT := hdd hat0; clear cget hcut hat0; go_loopw [11] (fun v wr => ∃ (j : Nat) (B2 : Option Addr) (c2 : Nat), j ≤ K ∧ v = .slice B2 (j * 128) c2 ∧ OB wr w2.heap.size 5 B2 (j * 128) c2 (qp6 D1.now f j) ∧ qc0 wr base q A0 c0 ck0 ci0 (rdK D1 j) ∧ Keep (fun g => g = q.d ∨ g = q.go) w2 wr ∧ Blk wr w.heap.size 50 [.pointer (some ⟨q.d, 0, none⟩), .int .i64 (f : Nat), .int .i64 (m : Nat)]) (fun v _ => nn - (match v with | .slice _ k _ => k | _ => 0))
        case atStart => exact ⟨0, none, 0, omg, rfl, Ow.nil _ _ _ _, HAT.out, Keep.refl _ _, XA2.out⟩
        case round =>
          obtain ⟨j, B2, c2, hj, rfl, hown, hat, hk, hxa⟩ := hrel; have hsz := hk.size; have y0 : wr.cell? ⟨w.heap.size, 0, none⟩ = some (.pointer (some ⟨q.d, 0, none⟩)) := hxa.cell 0; have y1 : wr.cell? ⟨w.heap.size, 1, none⟩ = some (.int .i64 (f : Nat)) := hxa.cell 1; have y2 : wr.cell? ⟨w.heap.size, 2, none⟩ = some (.int .i64 (m : Nat)) := hxa.cell 2
          by_cases hlt : j < K
          · have hjn := HKN.out j hlt; have hjI : (j : Int) * 128 < nn := omg; obtain ⟨o9, eo9⟩ := vd7 D1 j; have hrd := ra_readK (f := f) (m := m) hat (by rw [eo9]; exact hoff1) (by rw [eo9]; exact hfm1) (1 + j) omg; rw [show (rdK D1 j).now = D1.now from by rw [eo9], show ((1 + j : Nat) : Int) = 1 + (j : Int) by omega] at hrd; have hnx : Hid (qp6 D1.now f j ++ qc7 D1.now ((f + (1 + j) : Nat) : Int) = qp6 D1.now f (j + 1)) := rfl; have HOW := hdd hown; have HK := hdd hk; have HXA := hdd hxa; have HA := hdd hat
            generalize qc7 D1.now ((f + (1 + j) : Nat) : Int) = S at *; clear hown hk hxa hat eo9; go_wp2_with (first | ((go_at_call 173; (with_reducible refine (hrd).mono ?_); rintro e w3 ⟨B3, c3, rfl, hc3, rb3, at3, k3⟩); have O3 := Ow.kept2 HOW.out k3 (fun g e hb => by rcases hb with e9 | e9; exact HOW.out.ne_ HA.out.st dcd (e.trans (by rw [e9])); exact HOW.out.ne_ HA.out.op dcd (e.trans (by rw [e9]))); have X3 := hdd (HXA.out.keep k3 (fun e9 => by rcases e9 with e9 | e9; exact HXA.out.ne_ HA.out.st dcd e9; exact HXA.out.ne_ HA.out.op dcd e9)); have A3 := hdd at3; have K3 := hdd (HK.out.trans k3 (fun _ _ e => e)); have s3 := k3.size; clear at3 k3) | (at_builtin; refine qa6 rfl rfl qb4 qc2 (s := .tmp 57) (N := (j + 1) * 128) (L := qp6 D1.now f (j + 1)) rfl O3 rfl (k := S) rb3.rd omg hnx.out uml omg omg ?_; intro A5 c5 w5 hown5 hg5 hat5 hb5) | fail "no arm"); have K5 := hdd (K3.out.trans (Keep.of_grown (F := fun g => B2.map (·.block) = some g) hg5 (fun g e => e)) (fun g hg e => by have := (O3.lt g e).1; omega)); have X5 := hdd (X3.out.grown hg5 (O3.ne_ X3.out dcd)); have A5' := hdd (HAT.out.reads (show qc0 w3 base q A0 c0 ck0 ci0 (rdK D1 (j + 1)) from A3.out) K5.out (fun {t cs} hb => hb.grown hg5 (fun e => O3.ne_ A3.out.st dcd e)) (fun {t cs} hb => hb.grown hg5 (fun e => O3.ne_ A3.out.op dcd e))); go_roundw
            case rel => first
              | exact ⟨j + 1, A5, c5, omg, rfl, hown5, A5'.out, K5.out, X5.out⟩
              | ((repeat apply Exists.intro); exact ⟨⟨j + 1, A5, c5, omg, rfl, hown5, A5'.out, K5.out, X5.out⟩, rfl⟩)
            case measure => simp; omega
          · have hjK : K = j := omg; subst hjK; have hcapn := hown.cap; have hcutn : ∀ W, (Instr.slice 22 (.slice B2 (K * 128) c2) none (some (.int .i64 (nn : Int))) none).run Tryz.prog W = .ok (.slice B2 nn c2) W := qj3 qb4 B2 (K * 128) c2 nn omg; have hrn : RB wr B2 nn ((qp6 D1.now f K).take nn) := (hown.rd.take_ hKn).rb; have hrest : 0 < nn → qs0 wr base 5 B2 := fun _ g hg => .inr (hown.blk hg)
            have BAL := hdd (show qb8 wr base ⟨B2, nn, c2⟩ ((qp6 D1.now f K).take nn) from ⟨hrn, by show nn ≤ maxLen; unfold maxLen; omega, hrest⟩); have hba3 : qb8 wr base ⟨some ⟨gh, oh, none⟩, 12, d⟩ L := HBA2.out.keepF hk (fun g e => by
              rcases e with e | e
              · subst e; exact ⟨HAT.out.bd, ql2 HAT.out.st dcd⟩
              · subst e; exact ⟨HAT.out.bo, ql2 HAT.out.op dcd⟩)
            have hrh : RB wr (some ⟨gh, oh + 8, none⟩) 4 (L.drop 8) := by
              have h9 : RB wr (some ⟨gh, oh, none⟩) 12 L := hba3.1; have := h9.part 8 4 omg
              rwa [List.take_of_length_le (by rw [List.length_drop, HL.out]; omega)] at this
            have HRH := hdd hrh; have hcuth : ∀ W, (Instr.slice 22 (.slice (some ⟨gh, oh, none⟩) 12 d) (some (.int .i64 8)) none none).run Tryz.prog W = .ok (.slice (some ⟨gh, oh + 8, none⟩) 4 (d - 8)) W := fun W => by
              have := qi5 qb4 (some ⟨gh, oh, none⟩) 12 d 8 omg W; rw [if_neg omg] at this; exact this
            have hnK : ¬ ((K : Int) * 128 < nn) := omg; have HAW := hdd (show qb5 wr base q (rdK D1 K) from ⟨A0, c0, ck0, ci0, hat⟩); have HST := hdd (S2.out.trans (qd4.of_keep HAT.out omg (hk.mono (fun g _ e => by rcases e with e | e; exact .inl e; exact .inr (.inr (.inr (.inl e))))))); have csm := fun w hl => vj5 B2 nn c2 ((qp6 D1.now f K).take nn) w hl uml
            have HRN := hdd hrn; obtain ⟨ld, hld⟩ : ∃ ld, (qp6 D1.now f K).take nn = ld := ⟨_, rfl⟩; rw [hld] at HRN csm BAL; have HRE2 := HRE.out; rw [hld] at HRE2; generalize sumL ld = sm at *; have HRE3 := hdd HRE2; clear hown hat hk hxa hrest hrh hrn HRE2 hld hba3
            by_cases heq : sm = L.drop 8
            · have HEQ := hdd heq; have csame := fun (B : Option Addr) (c : Nat) (w : World) (h1 : RB w B 4 sm) (h2 : RB w (some ⟨gh, oh + 8, none⟩) 4 (L.drop 8)) => (by have q9 := vb8 B (some ⟨gh, oh + 8, none⟩) 4 4 c (d - 8) sm (L.drop 8) w h1 h2 dcd; rw [decide_eq_true heq] at q9; exact q9 : Calls Tryz.prog 26 #[.slice B 4 c, .slice (some ⟨gh, oh + 8, none⟩) 4 (d - 8)] w fun e w' => e = .returned (.bool true) ∧ ∃ q, w' = w.drewN q)
              clear heq; go_wp2_with fail; go_region_held3 (fun _ => True) (trivial) (first | ((go_at_call 158; (with_reducible refine (csm _ (HRN.out.below (B := wr.heap.size) gwn nlr)).mono ?_); rintro e w6 ⟨B6, c6, rfl, o6, b6⟩); have b6q := qa0 (a := wr) (B := wr.heap.size) gwn b6 szz; have hsm := csame B6 c6 w6 o6.rd.rb (HRH.out.below b6q nlr)) | ((go_at_call 26; (with_reducible refine (hsm).mono ?_); rintro e w7 ⟨rfl, q7, rfl⟩)) | fail "no arm"); go_wp2; go_returns; have b9 := below_drewN b6q q7; have e9 := HRE3.out; rw [if_pos HEQ.out] at e9; rw [← e9]; exact ⟨B2, nn, c2, N, true, 0, rfl, fun _ => ⟨rfl, rfl, rfl, omg, by omega, hn512, BAL.out.below b9⟩, fun e => absurd e smp, fun e => absurd rfl e, HAW.out.below b9, HST.out.trans (qd4.of_below b9 (by have := HST.out.size; omega))⟩
            · have HEQ := hdd heq; have csame := fun (B : Option Addr) (c : Nat) (w : World) (h1 : RB w B 4 sm) (h2 : RB w (some ⟨gh, oh + 8, none⟩) 4 (L.drop 8)) => (by have q9 := vb8 B (some ⟨gh, oh + 8, none⟩) 4 4 c (d - 8) sm (L.drop 8) w h1 h2 dcd; rw [decide_eq_false heq] at q9; exact q9 : Calls Tryz.prog 26 #[.slice B 4 c, .slice (some ⟨gh, oh + 8, none⟩) 4 (d - 8)] w fun e w' => e = .returned (.bool false) ∧ ∃ q, w' = w.drewN q)
              clear heq; go_wp2_with fail; go_region_held3 (fun _ => True) (trivial) (first | ((go_at_call 158; (with_reducible refine (csm _ (HRN.out.below (B := wr.heap.size) gwn nlr)).mono ?_); rintro e w6 ⟨B6, c6, rfl, o6, b6⟩); have b6q := qa0 (a := wr) (B := wr.heap.size) gwn b6 szz; have hsm := csame B6 c6 w6 o6.rd.rb (HRH.out.below b6q nlr)) | ((go_at_call 26; (with_reducible refine (hsm).mono ?_); rintro e w7 ⟨rfl, q7, rfl⟩)) | fail "no arm"); go_wp2; go_returns; have b9 := below_drewN b6q q7; have e9 := HRE3.out; rw [if_neg HEQ.out] at e9; rw [← e9]; exact qw2.not (HAW.out.below b9) (HST.out.trans (qd4.of_below b9 (by have := HST.out.size; omega)))
    · rw [if_pos hl]; have HL := hdd hl; clear hon hl; go_enter Tryz.func151, Tryz.ntmps151; go_wp2_with (first | ((go_at_call 172; (with_reducible refine (ctk).mono ?_); rintro e w1 ⟨B, k, d, rfl, rb1, _, d1, st1⟩); have hk : ((k : Int) != 12) = true := (by rw [bne_iff_ne]; have e1 : L.length = k := rb1.1; have e2 := HL.out; omega); have D1' := hdd d1; have S1 := hdd st1; clear rb1 d1 st1) | fail "no arm"); go_returns; exact qw2.not D1'.out (BA.out.trans S1.out)
  · rw [if_pos her]
    by_cases h53 : er = 53
    · subst h53; clear her hon; go_enter Tryz.func151, Tryz.ntmps151; go_wp2_with (first | ((go_at_call 172; (with_reducible refine (ctk).mono ?_); rintro e w1 ⟨B, k, d, rfl, rb1, _, d1, st1⟩); have D1' := hdd d1; have S1 := hdd st1; clear rb1 d1 st1) | fail "no arm"); go_returns; exact qw2.not D1'.out (BA.out.trans S1.out)
    · have hne : (er != 0) = true := by rw [bne_iff_ne]; exact her
      have hne2 : (er == 53) = false := by rw [beq_eq_false_iff_ne]; exact h53
      have HE := hdd her; have HE53 := hdd h53; clear her hon h53; go_enter Tryz.func151, Tryz.ntmps151; go_wp2_with (first | ((go_at_call 172; (with_reducible refine (ctk).mono ?_); rintro e w1 ⟨B, k, d, rfl, rb1, _, d1, st1⟩); have D1' := hdd d1; have S1 := hdd st1; clear rb1 d1 st1) | fail "no arm"); go_returns; exact qw2.bad HE.out HE53.out D1'.out (BA.out.trans S1.out)
end
def rslotC (q : qf0) (fl ml fr mr : Nat) (s : SlV3) (B : Option Addr) (n c : Nat) : List Value := [.pointer (some ⟨q.d, 0, none⟩), .int .i64 (fl : Nat), .int .i64 (ml : Nat), .pointer (some ⟨q.d, 0, none⟩), .int .i64 (fr : Nat), .int .i64 (mr : Nat), .int .i64 (s.now : Nat), .int .i64 s.number, .slice B n c]
def qe5 (w : World) (base g : Nat) (q : qf0) (fl ml fr mr : Nat) (s : SlV3) : Prop := ∃ B n c, Blk w g 142 (rslotC q fl ml fr mr s B n c) ∧ n ≤ c ∧ c ≤ maxLen ∧ qb8 w base ⟨B, n, c⟩ s.load ∧ s.now ≤ 2
section
variable {w w' : World} {base g fl ml fr mr : Nat} {q : qf0} {D : qa3} {s : SlV3}
theorem qe5.below (h : qe5 w base g q fl ml fr mr s) (hb : Below w.heap.size w w') : qe5 w' base g q fl ml fr mr s := by
  obtain ⟨B, n, c, h1, h2, h3, h4, h5⟩ := h; exact ⟨B, n, c, h1.below hb h1.lt, h2, h3, h4.below hb, h5⟩
theorem qe5.rstep (h : qe5 w base g q fl ml fr mr s) (hd : qb5 w base q D) (k : qd4 base q w w') : qe5 w' base g q fl ml fr mr s := by
  obtain ⟨B, n, c, h1, h2, h3, h4, h5⟩ := h; exact ⟨B, n, c, hd.blk h1 k dcd, h2, h3, h4.rstep hd k, h5⟩
theorem qe5.set1 {cs : List Value} {B : Option Addr} {n c : Nat} {load : List UInt8} (hb : Blk w g 142 cs) (hd : qb5 w base q D) (hl : qb8 w base ⟨B, n, c⟩ load) (hg : base ≤ g) (i : Nat) (u : Value) : Blk (w.setCell ⟨g, i, none⟩ u) g 142 (cs.set i u) ∧ qb5 (w.setCell ⟨g, i, none⟩ u) base q D ∧ qb8 (w.setCell ⟨g, i, none⟩ u) base ⟨B, n, c⟩ load := by
  have kk : Keep (· = g) w (w.setCell ⟨g, i, none⟩ u) := Keep.one (qb1 _); refine ⟨hb.set_ i u, hd.apart kk (fun g' e => ?_), hl.keepF kk (fun g' e => ?_)⟩
  · subst e; obtain ⟨_, ⟨c1, b1⟩, _⟩ := hd.kinds; exact ⟨hg, hb.ne_ b1 dcd, _, _, hb, by decide⟩
  · subst e; exact ⟨hg, ql2 hb dcd⟩
theorem qe5.sets {B0 B : Option Addr} {n0 d0 n c oth : Nat} {o : Int} {load : List UInt8} (hb : Blk w g 142 (rslotC q fl ml fr mr s B0 n0 d0)) (hd : qb5 w base q D) (hg : base ≤ g) (hl : qb8 w base ⟨B, n, c⟩ load) (hc : n ≤ c) (hcm : c ≤ maxLen) (ho : (oth : Int) = o) (h2 : oth ≤ 2) (num : Int) :
    qb5 (((w.setCell ⟨g, 6, none⟩ (.int .i64 o)).setCell ⟨g, 7, none⟩ (.int .i64 num)).setCell ⟨g, 8, none⟩ (.slice B n c)) base q D ∧ qe5 (((w.setCell ⟨g, 6, none⟩ (.int .i64 o)).setCell ⟨g, 7, none⟩ (.int .i64 num)).setCell ⟨g, 8, none⟩ (.slice B n c)) base g q fl ml fr mr ⟨oth, num, load⟩ := by
  obtain ⟨b1, d1, l1⟩ := qe5.set1 hb hd hl hg 6 (.int .i64 o); obtain ⟨b2, d2, l2⟩ := qe5.set1 b1 d1 l1 hg 7 (.int .i64 num); obtain ⟨b3, d3, l3⟩ := qe5.set1 b2 d2 l2 hg 8 (.slice B n c); refine ⟨d3, B, n, c, ?_, hc, hcm, l3, h2⟩; subst ho; exact b3
def va5 (w : World) (base : Nat) (q : qf0) (fl ml fr mr : Nat) (R : qa3 × SlV3 × Int) (e : Ending) (w' : World) : Prop :=
  ∃ P, e = .returned (.tuple #[.pointer P, .int .i64 R.2.2]) ∧ (R.2.2 ≠ 0 → P = none) ∧ (R.2.2 = 0 → ∃ g, P = some ⟨g, 0, none⟩ ∧ w.heap.size ≤ g ∧ qe5 w' base g q fl ml fr mr R.2.1) ∧ qb5 w' base q R.1 ∧ qd4 base q w w'
theorem va5.no {z : Int} (hz : z ≠ 0) (hd : qb5 w' base q D) (hs : qd4 base q w w') : va5 w base q fl ml fr mr (D, s, z) (.returned (.tuple #[.pointer none, .int .i64 z])) w' :=
  ⟨none, rfl, fun _ => rfl, fun e => absurd e hz, hd, hs⟩
theorem qw3 (D : qa3) (f m : Nat) : (qb2 D f m).1.many = D.many ∧ (qb2 D f m).1.waits = D.waits := by
  have h : (qe1 D f m 0).1.many = D.many ∧ (qe1 D f m 0).1.waits = D.waits := by
    unfold qe1 qn3
    split
    · exact ⟨rfl, rfl⟩
    · split
      · exact ⟨rfl, rfl⟩
      · exact ⟨rfl, rfl⟩
  have h2 : ∀ k, (rdK (qe1 D f m 0).1 k).many = D.many ∧ (rdK (qe1 D f m 0).1 k).waits = D.waits := fun k => by
    obtain ⟨o, e⟩ := vd7 (qe1 D f m 0).1 k; rw [e]; exact h
  unfold qb2
  split
  · exact h
  split
  · exact h
  split
  · exact h
  split
  · exact h2 _
  · exact h2 _
theorem ropen10_any (hd : qb5 w base q D) (hs : base ≤ w.heap.size) (hml : 5 ≤ ml) (hmr : 5 ≤ mr) (hfl : fl + ml ≤ D.many) (hfr : fr + mr ≤ D.many) :
    Calls Tryz.prog 70 #[.agg #[.pointer (some ⟨q.d, 0, none⟩), .int .i64 (fl : Nat), .int .i64 (ml : Nat)], .agg #[.pointer (some ⟨q.d, 0, none⟩), .int .i64 (fr : Nat), .int .i64 (mr : Nat)]] w (va5 w base q fl ml fr mr (qd3 D fl ml fr mr)) := by
  obtain ⟨w0, hw0⟩ : ∃ w0, ((w.alloc (.cells #[.pointer (some ⟨q.d, 0, none⟩), .int .i64 (fl : Nat), .int .i64 (ml : Nat)] 50)).alloc (.cells #[.pointer (some ⟨q.d, 0, none⟩), .int .i64 (fr : Nat), .int .i64 (mr : Nat)] 50)).alloc (.cells #[.pointer (some ⟨q.d, 0, none⟩), .int .i64 (fl : Nat), .int .i64 (ml : Nat), .pointer (some ⟨q.d, 0, none⟩), .int .i64 (fr : Nat), .int .i64 (mr : Nat), .int .i64 2, .int .i64 0, .slice none 0 0] 142) = w0 := ⟨_, rfl⟩; have bA : Below w.heap.size w w0 := by rw [← hw0]; exact gwn
  have xl : Blk w0 w.heap.size 50 [.pointer (some ⟨q.d, 0, none⟩), .int .i64 (fl : Nat), .int .i64 (ml : Nat)] := by rw [← hw0]; exact ((Blk.top w rfl rfl).alloc _).alloc _
  have xr : Blk w0 (w.heap.size + 1) 50 [.pointer (some ⟨q.d, 0, none⟩), .int .i64 (fr : Nat), .int .i64 (mr : Nat)] := by rw [← hw0]; exact (Blk.top _ smp rfl).alloc _
  have xs : Blk w0 (w.heap.size + 2) 142 (rslotC q fl ml fr mr ⟨2, 0, []⟩ none 0 0) := by rw [← hw0]; exact Blk.top _ smp rfl
  have HW0 := hdd hw0; have hd0 := hd.below bA; have s0 := bA.size; have c1 := vg9 hd0 omg hml hfl; obtain ⟨m1, m2⟩ := qw3 D fl ml; have c2 := fun {W : World} (h : qb5 W base q (qb2 D fl ml).1) (hs : base ≤ W.heap.size) => vg9 h hs hmr (by rw [m1]; exact hfr)
  have hR : qd3 D fl ml fr mr = if (qb2 D fl ml).2.2.2 ≠ 0 ∧ (qb2 D fl ml).2.2.2 ≠ 53 then ((qb2 D fl ml).1, ⟨2, 0, []⟩, (qb2 D fl ml).2.2.2)
      else if (qb2 (qb2 D fl ml).1 fr mr).2.2.2 ≠ 0 ∧ (qb2 (qb2 D fl ml).1 fr mr).2.2.2 ≠ 53 then ((qb2 (qb2 D fl ml).1 fr mr).1, ⟨2, 0, []⟩, (qb2 (qb2 D fl ml).1 fr mr).2.2.2)
      else if (qb2 D fl ml).2.2.2 = 0 ∧ ((qb2 (qb2 D fl ml).1 fr mr).2.2.2 ≠ 0 ∨ (qb2 (qb2 D fl ml).1 fr mr).2.2.1 ≤ (qb2 D fl ml).2.2.1) then ((qb2 (qb2 D fl ml).1 fr mr).1, ⟨0, (qb2 D fl ml).2.2.1, (qb2 D fl ml).2.1⟩, 0)
      else if (qb2 (qb2 D fl ml).1 fr mr).2.2.2 = 0 then ((qb2 (qb2 D fl ml).1 fr mr).1, ⟨1, (qb2 (qb2 D fl ml).1 fr mr).2.2.1, (qb2 (qb2 D fl ml).1 fr mr).2.1⟩, 0)
      else ((qb2 (qb2 D fl ml).1 fr mr).1, ⟨2, 0, []⟩, 0) := rfl
  generalize qd3 D fl ml fr mr = R at *; generalize qb2 D fl ml = W1 at *; obtain ⟨D1, L1, N1, e1⟩ := W1; simp only at c1 c2 hR; generalize qb2 D1 fr mr = W2 at *; obtain ⟨D2, L2, N2, e2⟩ := W2; simp only at hR; have HR := hdd hR; have HD0 := hdd hd0; have HXL := hdd xl; have HXR := hdd xr; have HXS := hdd xs; have BA := hdd (qd4.of_below (q := q) bA hs); clear hR hd hd0 bA hw0 xl xr xs m1 m2; go_enter Tryz.func70, Tryz.ntmps70; go_upto_region 2 with fail; rw [HW0.out]; refine qp0 (fun W => w0 = W) rfl ?_; rintro W rfl; have y0 : w0.cell? ⟨w.heap.size, 0, none⟩ = some (.pointer (some ⟨q.d, 0, none⟩)) := HXL.out.cell 0; have y1 : w0.cell? ⟨w.heap.size, 1, none⟩ = some (.int .i64 (fl : Nat)) := HXL.out.cell 1; have y2 : w0.cell? ⟨w.heap.size, 2, none⟩ = some (.int .i64 (ml : Nat)) := HXL.out.cell 2; go_upto_region 3 with (first | ((go_at_call 151; (with_reducible refine (c1).mono ?_); rintro e w1 ⟨B1, n1, d1, N1', ok1, er1, rfl, p0, p53, px, hd1, st1⟩); have D1' := hdd hd1; have S1 := hdd st1; have X1 := hdd (HD0.out.blk HXS.out st1 dcd); have XR1 := hdd (HD0.out.blk HXR.out st1 dcd); have s1 := st1.size; have P0 := hdd p0; have P53 := hdd p53; have PX := hdd px; clear hd1 st1 p0 p53 px) | fail "no arm")
  by_cases her : er1 = 0
  rotate_left 1
  · have hne : (er1 != 0) = true := by rw [bne_iff_ne]; exact her
    have h10 : e1 ≠ 0 := fun e => her (P0.out e).2.1
    have h153 : e1 ≠ 53 := fun e => her (P53.out e).2
    obtain ⟨_, hee⟩ := PX.out h10 h153; have H10 := hdd h10; have H153 := hdd h153
    try simp only at hee
    subst hee; clear her h10 h153; go_wp2; go_ret2; have e9 := HR.out; rw [if_pos ⟨H10.out, H153.out⟩] at e9; rw [e9]; exact va5.no H10.out D1'.out (BA.out.trans S1.out)
  subst her; have he1 : e1 = 0 ∨ e1 = 53 := by
    by_cases q1 : e1 = 0
    · exact .inl q1
    · by_cases q2 : e1 = 53
      · exact .inr q2
      · exact .inl (PX.out q1 q2).2.symm
  have z0 : w1.cell? ⟨w.heap.size + 1, 0, none⟩ = some (.pointer (some ⟨q.d, 0, none⟩)) := XR1.out.cell 0; have z1 : w1.cell? ⟨w.heap.size + 1, 1, none⟩ = some (.int .i64 (fr : Nat)) := XR1.out.cell 1; have z2 : w1.cell? ⟨w.heap.size + 1, 2, none⟩ = some (.int .i64 (mr : Nat)) := XR1.out.cell 2; have HE1 := hdd he1; clear he1; go_upto_region 6 with (first | ((go_at_call 151; (with_reducible refine (c2 D1'.out omg).mono ?_); rintro e w2 ⟨B2, n2, d2, N2', ok2, er2, rfl, p0, p53, px, hd2, st2⟩); have D2' := hdd hd2; have X2 := hdd (D1'.out.blk X1.out st2 dcd); have s2 := st2.size; have Q0 := hdd p0; have Q53 := hdd p53; have QX := hdd px; have K2 := hdd st2; have S2 := hdd ((BA.out.trans S1.out).trans st2); clear hd2 st2 p0 p53 px) | fail "no arm")
  by_cases her2 : er2 = 0
  rotate_left 1
  · have hne : (er2 != 0) = true := by rw [bne_iff_ne]; exact her2
    have h10 : e2 ≠ 0 := fun e => her2 (Q0.out e).2.1
    have h153 : e2 ≠ 53 := fun e => her2 (Q53.out e).2
    obtain ⟨_, hee⟩ := QX.out h10 h153; have H10 := hdd h10; have H153 := hdd h153
    try simp only at hee
    subst hee; clear her2 h10 h153; go_wp2; go_ret2; have e9 := HR.out; rw [if_neg (fun e => by rcases HE1.out with q1 | q1; exact e.1 q1; exact e.2 q1), if_pos ⟨H10.out, H153.out⟩] at e9; rw [e9]; exact va5.no H10.out D2'.out S2.out
  subst her2; have he2 : e2 = 0 ∨ e2 = 53 := by
    by_cases q1 : e2 = 0
    · exact .inl q1
    · by_cases q2 : e2 = 53
      · exact .inr q2
      · exact .inl (QX.out q1 q2).2.symm
  rcases HE1.out with q1 | q1
  · obtain ⟨r1, _, r2, r3, r4, _, r5⟩ := P0.out q1
    try simp only at r1 r2 r5
    subst r1 r2; have BA1 := hdd (r5.rstep D1'.out K2.out); rcases he2 with q2 | q2
    · obtain ⟨t1, _, t2, t3, t4, _, t5⟩ := Q0.out q2
      try simp only at t1 t2 t5
      subst t1 t2 q1 q2; have BA2 := hdd t5
      by_cases hge : N2' ≤ N1'
      · have HG := hdd hge; have HRR := hdd (show R = (D2, ⟨0, N1', L1⟩, 0) from by have e9 := HR.out; rw [if_neg smp, if_neg smp, if_pos ⟨rfl, .inr hge⟩] at e9; exact e9); clear r5 t5; have u6 : w2.cell? ⟨w.heap.size + 2, 6, none⟩ = some (.int .i64 2) := X2.out.cell 6; have u7 : w2.cell? ⟨w.heap.size + 2, 7, none⟩ = some (.int .i64 0) := X2.out.cell 7; have u8 : w2.cell? ⟨w.heap.size + 2, 8, none⟩ = some (.slice none 0 0) := X2.out.cell 8; have v6 := X2.out.frozen 6; have v7 := X2.out.frozen 7; have v8 := X2.out.frozen 8; have l2 := X2.out.lt; have FIN := hdd (qe5.sets (o := 0) (oth := 0) X2.out D2'.out omg (BA1.out) r3 r4 rfl omg N1'); have bF := hdd ((((Below.refl w.heap.size w2).setCell (p := ⟨w.heap.size + 2, 6, none⟩) (by show w.heap.size ≤ w.heap.size + 2; omega) (.int .i64 0)).setCell (p := ⟨w.heap.size + 2, 7, none⟩) (by show w.heap.size ≤ w.heap.size + 2; omega) (.int .i64 N1')).setCell (p := ⟨w.heap.size + 2, 8, none⟩) (by show w.heap.size ≤ w.heap.size + 2; omega) (.slice B1 n1 d1)); go_wp2; go_ret2; rw [HRR.out]; exact ⟨_, rfl, fun e => absurd rfl e, fun _ => ⟨_, rfl, omg, FIN.out.2⟩, FIN.out.1, S2.out.then_below bF.out hs⟩
      · have HG := hdd hge; have HRR := hdd (show R = (D2, ⟨1, N2', L2⟩, 0) from by have e9 := HR.out; rw [if_neg smp, if_neg smp, if_neg (fun e => by rcases e.2 with e | e; exact e rfl; exact hge e), if_pos rfl] at e9; exact e9); clear r5 t5; have u6 : w2.cell? ⟨w.heap.size + 2, 6, none⟩ = some (.int .i64 2) := X2.out.cell 6; have u7 : w2.cell? ⟨w.heap.size + 2, 7, none⟩ = some (.int .i64 0) := X2.out.cell 7; have u8 : w2.cell? ⟨w.heap.size + 2, 8, none⟩ = some (.slice none 0 0) := X2.out.cell 8; have v6 := X2.out.frozen 6; have v7 := X2.out.frozen 7; have v8 := X2.out.frozen 8; have l2 := X2.out.lt; have FIN := hdd (qe5.sets (o := 1) (oth := 1) X2.out D2'.out omg (BA2.out) t3 t4 rfl omg N2'); have bF := hdd ((((Below.refl w.heap.size w2).setCell (p := ⟨w.heap.size + 2, 6, none⟩) (by show w.heap.size ≤ w.heap.size + 2; omega) (.int .i64 1)).setCell (p := ⟨w.heap.size + 2, 7, none⟩) (by show w.heap.size ≤ w.heap.size + 2; omega) (.int .i64 N2')).setCell (p := ⟨w.heap.size + 2, 8, none⟩) (by show w.heap.size ≤ w.heap.size + 2; omega) (.slice B2 n2 d2)); go_wp2; go_ret2; rw [HRR.out]; exact ⟨_, rfl, fun e => absurd rfl e, fun _ => ⟨_, rfl, omg, FIN.out.2⟩, FIN.out.1, S2.out.then_below bF.out hs⟩
    · obtain ⟨t1, _⟩ := Q53.out q2; subst t1 q1 q2; have HRR := hdd (show R = (D2, ⟨0, N1', L1⟩, 0) from by have e9 := HR.out; rw [if_neg smp, if_neg smp, if_pos ⟨rfl, .inl smp⟩] at e9; exact e9); clear r5; have u6 : w2.cell? ⟨w.heap.size + 2, 6, none⟩ = some (.int .i64 2) := X2.out.cell 6; have u7 : w2.cell? ⟨w.heap.size + 2, 7, none⟩ = some (.int .i64 0) := X2.out.cell 7; have u8 : w2.cell? ⟨w.heap.size + 2, 8, none⟩ = some (.slice none 0 0) := X2.out.cell 8; have v6 := X2.out.frozen 6; have v7 := X2.out.frozen 7; have v8 := X2.out.frozen 8; have l2 := X2.out.lt; have FIN := hdd (qe5.sets (o := 0) (oth := 0) X2.out D2'.out omg (BA1.out) r3 r4 rfl omg N1'); have bF := hdd ((((Below.refl w.heap.size w2).setCell (p := ⟨w.heap.size + 2, 6, none⟩) (by show w.heap.size ≤ w.heap.size + 2; omega) (.int .i64 0)).setCell (p := ⟨w.heap.size + 2, 7, none⟩) (by show w.heap.size ≤ w.heap.size + 2; omega) (.int .i64 N1')).setCell (p := ⟨w.heap.size + 2, 8, none⟩) (by show w.heap.size ≤ w.heap.size + 2; omega) (.slice B1 n1 d1)); go_wp2; go_ret2; rw [HRR.out]; exact ⟨_, rfl, fun e => absurd rfl e, fun _ => ⟨_, rfl, omg, FIN.out.2⟩, FIN.out.1, S2.out.then_below bF.out hs⟩
  · obtain ⟨r1, _⟩ := P53.out q1; subst r1; rcases he2 with q2 | q2
    · obtain ⟨t1, _, t2, t3, t4, _, t5⟩ := Q0.out q2
      try simp only at t1 t2 t5
      subst t1 t2 q1 q2; have BA2 := hdd t5; have HRR := hdd (show R = (D2, ⟨1, N2', L2⟩, 0) from by have e9 := HR.out; rw [if_neg smp, if_neg smp, if_neg (fun e => absurd e.1 smp), if_pos rfl] at e9; exact e9); clear t5; have u6 : w2.cell? ⟨w.heap.size + 2, 6, none⟩ = some (.int .i64 2) := X2.out.cell 6; have u7 : w2.cell? ⟨w.heap.size + 2, 7, none⟩ = some (.int .i64 0) := X2.out.cell 7; have u8 : w2.cell? ⟨w.heap.size + 2, 8, none⟩ = some (.slice none 0 0) := X2.out.cell 8; have v6 := X2.out.frozen 6; have v7 := X2.out.frozen 7; have v8 := X2.out.frozen 8; have l2 := X2.out.lt; have FIN := hdd (qe5.sets (o := 1) (oth := 1) X2.out D2'.out omg (BA2.out) t3 t4 rfl omg N2'); have bF := hdd ((((Below.refl w.heap.size w2).setCell (p := ⟨w.heap.size + 2, 6, none⟩) (by show w.heap.size ≤ w.heap.size + 2; omega) (.int .i64 1)).setCell (p := ⟨w.heap.size + 2, 7, none⟩) (by show w.heap.size ≤ w.heap.size + 2; omega) (.int .i64 N2')).setCell (p := ⟨w.heap.size + 2, 8, none⟩) (by show w.heap.size ≤ w.heap.size + 2; omega) (.slice B2 n2 d2)); go_wp2; go_ret2; rw [HRR.out]; exact ⟨_, rfl, fun e => absurd rfl e, fun _ => ⟨_, rfl, omg, FIN.out.2⟩, FIN.out.1, S2.out.then_below bF.out hs⟩
    · obtain ⟨t1, _⟩ := Q53.out q2; subst t1 q1 q2; have HRR := hdd (show R = (D2, ⟨2, 0, []⟩, 0) from by have e9 := HR.out; rw [if_neg smp, if_neg smp, if_neg (fun e => absurd e.1 smp), if_neg smp] at e9; exact e9); go_wp2; go_ret2; rw [HRR.out]; exact ⟨_, rfl, fun e => absurd rfl e, fun _ => ⟨_, rfl, omg, ⟨none, 0, 0, X2.out, Nat.le_refl _, by decide, ⟨⟨rfl, Row.nil _ _ _⟩, by decide, fun h => absurd h smp⟩, Nat.le_refl 2⟩⟩, D2'.out, S2.out⟩
end
theorem pad_take {load : List UInt8} {j t : Nat} (h : 128 ≤ (load.drop (j * 128)).length + t) (h2 : t = 0 ∨ (load.drop (j * 128)).length + t ≤ 128) : ((load.drop (j * 128)) ++ List.replicate t 0).take 128 = padL load j := by
  unfold padL; generalize load.drop (j * 128) = R at *; rcases h2 with h2 | h2
  · subst h2; rw [List.replicate_zero, List.append_nil]; have e : 128 - (R.take 128).length = 0 := by rw [List.length_take]; omega
    rw [e, List.replicate_zero, List.append_nil]
  · rw [List.take_of_length_le (by rw [List.length_append, List.length_replicate]; omega), List.take_of_length_le omg]
    congr 2
    omega
def goOn (P : qa3 × Int) (F : qa3 → qa3 × Int) : qa3 × Int := if P.2 ≠ 0 then P else F P.1
theorem qc9 {P : qa3 × Int} {F : qa3 → qa3 × Int} (h : P.2 ≠ 0) : goOn P F = P := by unfold goOn; rw [if_pos h]
theorem qi3 {P : qa3 × Int} {F : qa3 → qa3 × Int} (h : P.2 = 0) : goOn P F = F P.1 := by unfold goOn; rw [if_neg (by rw [h]; simp)]
theorem saveA_on (D : qa3) (f m : Nat) (number : Int) (load : List UInt8) : qo7 D f m number load = goOn (goOn (goOn (goOn (goOn (qb0 D f m 0 qa5) qc1) (fun X => qr6 X f m load 0 (qi0 load.length))) qc1) (fun X => qm5 X f m 0 2 number (qn9 load))) qc1 := by
  unfold qo7 qm3
  by_cases q1 : (qb0 D f m 0 qa5).2 = 0
  · rw [qi3 q1, if_neg (by rw [q1]; simp)]; generalize qc1 (qb0 D f m 0 qa5).1 = F1
    by_cases q2 : F1.2 = 0
    · rw [qi3 q2, if_neg (by rw [q2]; simp)]; generalize qr6 F1.1 f m load 0 (qi0 load.length) = FK
      by_cases q3 : FK.2 = 0
      · rw [qi3 q3, if_neg (show ¬ FK.2 ≠ 0 by rw [q3]; simp)]; generalize qc1 FK.1 = F2
        by_cases q4 : F2.2 = 0
        · rw [qi3 q4, if_neg (by rw [q4]; simp)]; generalize qm5 F2.1 f m 0 2 number (qn9 load) = P
          by_cases q5 : P.2 = 0
          · rw [qi3 q5, if_neg (by rw [q5]; simp)]
          · rw [qc9 q5, if_pos q5]
        · rw [qc9 q4, qc9 q4, if_pos q4]
      · rw [qc9 q3, qc9 q3, qc9 q3, if_pos q3, if_pos q3]
    · rw [qc9 q2, qc9 q2, qc9 q2, qc9 q2, if_pos q2]
  · rw [qc9 q1, qc9 q1, qc9 q1, qc9 q1, qc9 q1, if_pos q1]
structure RSv (w0 w : World) (base : Nat) (q : qf0) (D : qa3) (f m g ga fl ml fr mr : Nat) (s : SlV3) (A : Option Addr) (n c : Nat) (load : List UInt8) (B0 : Option Addr) (n0 d0 : Nat) : Prop where
  disk : qb5 w base q D
  x : Blk w g 142 (rslotC q fl ml fr mr s B0 n0 d0)
  a : Blk w ga 50 [.pointer (some ⟨q.d, 0, none⟩), .int .i64 (f : Nat), .int .i64 (m : Nat)]
  l : qb8 w base ⟨A, n, c⟩ load
  l0 : qb8 w base ⟨B0, n0, d0⟩ s.load
  st : qd4 base q w0 w
  bs : base ≤ w0.heap.size
section
variable {w w' w0 : World} {base g ga f m fl ml fr mr : Nat} {q : qf0} {D D' : qa3} {s : SlV3} {A B0 : Option Addr} {n c n0 d0 : Nat} {load : List UInt8}
theorem RSv.size (h : RSv w0 w base q D f m g ga fl ml fr mr s A n c load B0 n0 d0) : base ≤ w.heap.size := Nat.le_trans h.bs h.st.size
theorem RSv.below (h : RSv w0 w base q D f m g ga fl ml fr mr s A n c load B0 n0 d0) (hb : Below w.heap.size w w') : RSv w0 w' base q D f m g ga fl ml fr mr s A n c load B0 n0 d0 :=
  ⟨h.disk.below hb, h.x.below hb h.x.lt, h.a.below hb h.a.lt, h.l.below hb, h.l0.below hb, h.st.trans (qd4.of_below hb h.size), h.bs⟩
theorem RSv.rstep (h : RSv w0 w base q D f m g ga fl ml fr mr s A n c load B0 n0 d0) (hd : qb5 w' base q D') (k : qd4 base q w w') : RSv w0 w' base q D' f m g ga fl ml fr mr s A n c load B0 n0 d0 :=
  ⟨hd, h.disk.blk h.x k dcd, h.disk.blk h.a k dcd, h.l.rstep h.disk k, h.l0.rstep h.disk k, h.st.trans k, h.bs⟩
def RSaved (base : Nat) (q : qf0) (g : Nat) (w w' : World) : Prop := ∃ (w1 : World) (cs : List Value), qd4 base q w w1 ∧ Blk w1 g 142 cs ∧ Keep (· = g) w1 w' ∧ Below base w1 w'
theorem RSv.saved (h : RSv w0 w base q D f m g ga fl ml fr mr s A n c load B0 n0 d0) : RSaved base q g w0 w := ⟨w, _, h.st, h.x, Keep.refl _ _, Below.refl _ _⟩
theorem RSv.saved3 (h : RSv w0 w base q D f m g ga fl ml fr mr s A n c load B0 n0 d0) (hg : base ≤ g) (u1 u2 u3 : Value) : RSaved base q g w0 (((w.setCell ⟨g, 6, none⟩ u1).setCell ⟨g, 7, none⟩ u2).setCell ⟨g, 8, none⟩ u3) :=
  ⟨w, _, h.st, h.x, (((Keep.refl (· = g) w).set_ u1 rfl).set_ u2 rfl).set_ u3 rfl, (((Below.refl base w).setCell (p := ⟨g, 6, none⟩) hg u1).setCell (p := ⟨g, 7, none⟩) hg u2).setCell (p := ⟨g, 8, none⟩) hg u3⟩
theorem fill_on (X : qa3) (z : Int) (f m j t : Nat) (load : List UInt8) (hz : z = 0) : goOn (X, z) (fun Y => qr6 Y f m load j (t + 1)) = goOn (qb0 X f m ((1 + j : Nat) : Int) (padL load j)) (fun Y => qr6 Y f m load (j + 1) t) := by
  rw [qi3 hz]
  by_cases h : (qb0 X f m ((1 + j : Nat) : Int) (padL load j)).2 = 0
  · rw [qi3 h]; exact vk5 h
  · rw [qc9 h]; exact va0 h
end
section
variable {w w' : World} {base g fl ml fr mr : Nat} {q : qf0} {D : qa3} {s : SlV3} {A : Option Addr} {n c : Nat} {load : List UInt8}
theorem vh0 (R : qa3 × SlV3 × Int) (oth f m : Nat) (hsel : (oth = 0 ∧ f = fl ∧ m = ml ∧ s.now ≠ 0) ∨ (oth = 1 ∧ f = fr ∧ m = mr ∧ s.now = 0))
    (hR : R = if (qo7 D f m (s.number + 1) load).2 ≠ 0 then ((qo7 D f m (s.number + 1) load).1, s, (qo7 D f m (s.number + 1) load).2) else ((qo7 D f m (s.number + 1) load).1, ⟨oth, s.number + 1, load⟩, 0))
    (hS : qe5 w base g q fl ml fr mr s) (hd : qb5 w base q D) (hs : base ≤ w.heap.size) (hg : base ≤ g) (hm : 5 ≤ m) (hfm : f + m ≤ D.many)
    (hl : qb8 w base ⟨A, n, c⟩ load) (hc : n ≤ c) (hcm : c ≤ maxLen) (hn : n ≤ 512) (hnum : s.number ≠ 9223372036854775807) (hnb : -9223372036854775808 ≤ s.number ∧ s.number ≤ 9223372036854775807) (hw : D.waits.length < 800000) :
    Calls Tryz.prog 73 #[.pointer (some ⟨g, 0, none⟩), .slice A n c] w fun e w' => e = .returned (.int .i64 R.2.2) ∧ qb5 w' base q R.1 ∧ qe5 w' base g q fl ml fr mr R.2.1 ∧ RSaved base q g w w' := by
  have hlen : load.length = n := hl.1.1; have hSA := hS; obtain ⟨B0, n0, d0, h1, h2, h3, h4, h5⟩ := hS; have hK4 : qi0 n ≤ 4 := by unfold qi0; omega
  have hKn : ∀ j, (j < qi0 n ↔ j * 128 < n) := fun j => by unfold qi0; omega
  have HKN := hdd hKn; rw [saveA_on, hlen] at hR; generalize hKe : qi0 n = K at *; obtain ⟨P1, hP1⟩ : ∃ P1, P1 = qb0 D f m 0 qa5 := ⟨_, rfl⟩; obtain ⟨P2, hP2⟩ : ∃ P2, P2 = goOn P1 qc1 := ⟨_, rfl⟩; obtain ⟨P3, hP3⟩ : ∃ P3, P3 = goOn P2 (fun X => qr6 X f m load 0 K) := ⟨_, rfl⟩; obtain ⟨P4, hP4⟩ : ∃ P4, P4 = goOn P3 qc1 := ⟨_, rfl⟩; obtain ⟨P5, hP5⟩ : ∃ P5, P5 = goOn P4 (fun X => qm5 X f m 0 2 (s.number + 1) (qn9 load)) := ⟨_, rfl⟩; obtain ⟨P6, hP6⟩ : ∃ P6, P6 = goOn P5 qc1 := ⟨_, rfl⟩; rw [← hP1, ← hP2, ← hP3, ← hP4, ← hP5, ← hP6] at hR; have f1 : P1.1.many = D.many ∧ P1.1.waits.length ≤ D.waits.length + 1 := by rw [hP1]; exact qi7 D f m 0 qa5
  have f2 : P2.1.many = D.many ∧ P2.1.waits.length ≤ D.waits.length + 1 := by
    rw [hP2]
    by_cases h : P1.2 = 0
    · rw [qi3 h]; have := qo8 P1.1; exact ⟨this.1.trans f1.1, omg⟩
    · rw [qc9 h]; exact f1
  have f3 : P3.1.many = D.many ∧ P3.1.waits.length ≤ D.waits.length + 5 := by
    rw [hP3]
    by_cases h : P2.2 = 0
    · rw [qi3 h]; have := fillK_few f m load K 0 P2.1; exact ⟨this.1.trans f2.1, omg⟩
    · rw [qc9 h]; exact ⟨f2.1, omg⟩
  have f4 : P4.1.many = D.many ∧ P4.1.waits.length ≤ D.waits.length + 5 := by
    rw [hP4]
    by_cases h : P3.2 = 0
    · rw [qi3 h]; have := qo8 P3.1; exact ⟨this.1.trans f3.1, omg⟩
    · rw [qc9 h]; exact f3
  have HR := hdd hR; have H2 := hdd hP2; have H3 := hdd hP3; have H4 := hdd hP4; have H5 := hdd hP5; have H6 := hdd hP6; have F2 := hdd f2; have F4 := hdd f4; have HLEN := hdd hlen; have HNB := hdd hnb; have c1 := fun {W : World} (h : qb5 W base q D) (hs : base ≤ W.heap.size) (g9 : Nat) (h9 : RB W (some ⟨g9, 0, none⟩) 128 qa5) => (show Calls Tryz.prog 154 #[.agg #[.pointer (some ⟨q.d, 0, none⟩), .int .i64 (f : Nat), .int .i64 (m : Nat)], .int .i64 0, .slice (some ⟨g9, 0, none⟩) 128 128] W fun e w' => e = .returned (.int .i64 P1.2) ∧ qb5 w' base q P1.1 ∧ qd4 base q W w' from by rw [hP1]; exact vb9 h hs hfm 0 (some ⟨g9, 0, none⟩) 128 qa5 qd2 h9 omg)
  have HFILL := hdd (fun (X : qa3) (z : Int) (j t : Nat) (hz : z = 0) => fill_on X z f m j t load hz); clear hR hP1 hP2 hP3 hP4 hP5 hP6 f1 f2 f3 f4 hlen hnb hKn hKe; have hmk : ∀ W : World, (Instr.makeSlice 22 (.int .i64 128) (.int .i64 128)).run Tryz.prog W = .ok (.slice (some ⟨W.heap.size, 0, none⟩) 128 128) (W.alloc (.cells (madeCells (Value.int .u8 0).cells 128) 5)) := qi4 vg0 128 omg omg; have hmc : (madeCells (Value.int .u8 0).cells 128) = (qa5.map bv).toArray := by kernel_rfl
  rw [hmc] at hmk; clear hmc; have rbz : ∀ {W : World} {g : Nat}, Blk W g 5 (qa5.map bv) → RB W (some ⟨g, 0, none⟩) 128 qa5 := fun {W g} hb => (by have := RB.of_block (l := qa5) hb rfl; rw [qd2] at this; exact this)
  have RBZ := hdd (fun (W : World) (g : Nat) (hb : Blk W g 5 (qa5.map bv)) => rbz hb); clear rbz; generalize qa5.map bv = Z at *; unfold maxLen at hcm; have x0 : w.cell? ⟨g, 0, none⟩ = some (.pointer (some ⟨q.d, 0, none⟩)) := h1.cell 0; have x1 : w.cell? ⟨g, 1, none⟩ = some (.int .i64 (fl : Nat)) := h1.cell 1; have x2 : w.cell? ⟨g, 2, none⟩ = some (.int .i64 (ml : Nat)) := h1.cell 2; have x3 : w.cell? ⟨g, 3, none⟩ = some (.pointer (some ⟨q.d, 0, none⟩)) := h1.cell 3; have x4 : w.cell? ⟨g, 4, none⟩ = some (.int .i64 (fr : Nat)) := h1.cell 4; have x5 : w.cell? ⟨g, 5, none⟩ = some (.int .i64 (mr : Nat)) := h1.cell 5; have x6 : w.cell? ⟨g, 6, none⟩ = some (.int .i64 (s.now : Nat)) := h1.cell 6; have x7 : w.cell? ⟨g, 7, none⟩ = some (.int .i64 s.number) := h1.cell 7; have lg := h1.lt; have HX := hdd h1; have HSA := hdd hSA; have HD := hdd hd; have HL := hdd hl; have HL0 := hdd h4; have hnn : (s.number == 9223372036854775807) = false := by rw [beq_eq_false_iff_ne]; exact hnum
  have hc0 := h2; have hcm0 := h3; have hnw2 := h5; clear h1 h2 h3 h4 h5 hSA hd hl; have hnw : IntKind.i64.wrap (s.number + 1) = s.number + 1 := by rw [IntKind.wrap_i64]; have := HNB.out; omega
  have OO : RSv w (w.alloc (.cells #[.pointer (some ⟨q.d, 0, none⟩), .int .i64 (f : Nat), .int .i64 (m : Nat)] 50)) base q D f m g w.heap.size fl ml fr mr s A n c load B0 n0 d0 := by
    have bA : Below w.heap.size w (w.alloc (.cells #[.pointer (some ⟨q.d, 0, none⟩), .int .i64 (f : Nat), .int .i64 (m : Nat)] 50)) := (Below.refl _ _).alloc nlr _; exact ⟨HD.out.below bA, HX.out.below bA lg, Blk.top _ rfl rfl, HL.out.below bA, HL0.out.below bA, qd4.of_below bA hs, hs⟩
  rcases hsel with ⟨rfl, hf, hmm, hnow⟩ | ⟨rfl, hf, hmm, hnow⟩
  · have hn0 : ((s.now : Int) == 0) = false := by rw [beq_eq_false_iff_ne]; omega
    rw [← hf] at x1; rw [← hmm] at x2; clear hf hmm hnow; go_enter Tryz.func73, Tryz.ntmps73; go_upto_region 8 with fail; refine qp0 (fun W => RSv w W base q D f m g w.heap.size fl ml fr mr s A n c load B0 n0 d0) OO ?_; clear OO x0 x1 x2 x3 x4 x5 x6 x7; intro w1 o1; have a0 : w1.cell? ⟨w.heap.size, 0, none⟩ = some (.pointer (some ⟨q.d, 0, none⟩)) := o1.a.cell 0; have a1 : w1.cell? ⟨w.heap.size, 1, none⟩ = some (.int .i64 (f : Nat)) := o1.a.cell 1; have a2 : w1.cell? ⟨w.heap.size, 2, none⟩ = some (.int .i64 (m : Nat)) := o1.a.cell 2; have O1 := hdd o1; clear o1; go_region_held3 (fun w' => w'.cell? ⟨w.heap.size, 0, none⟩ = some (.pointer (some ⟨q.d, 0, none⟩)) ∧ w'.cell? ⟨w.heap.size, 1, none⟩ = some (.int .i64 (f : Nat)) ∧ w'.cell? ⟨w.heap.size, 2, none⟩ = some (.int .i64 (m : Nat))) (first | go_keep | (refine ⟨?_, ?_, ?_⟩ <;> assumption)) (first | ((go_at_call 154; (with_reducible refine (c1 (O1.out.below gwn).disk (by have := O1.out.size; simp; omega) w1.heap.size (RBZ.out _ _ blq)).mono ?_); rintro e w2 ⟨rfl, r2, k2⟩); have O2 := hdd ((O1.out.below (w' := (w1.alloc (.cells Z.toArray 5)).drew) gwn).rstep r2 k2); have b0 : w2.cell? ⟨w.heap.size, 0, none⟩ = some (.pointer (some ⟨q.d, 0, none⟩)) := O2.out.a.cell 0; have b1 : w2.cell? ⟨w.heap.size, 1, none⟩ = some (.int .i64 (f : Nat)) := O2.out.a.cell 1; have b2 : w2.cell? ⟨w.heap.size, 2, none⟩ = some (.int .i64 (m : Nat)) := O2.out.a.cell 2; clear r2 k2) | fail "no arm"); have cfl := fun {W : World} (O : RSv w W base q P1.1 f m g w.heap.size fl ml fr mr s A n c load B0 n0 d0) => qz4 O.disk O.size
    clear a0 a1 a2 c1 O1; go_upto_if 37 with fail; go_cut [7] (fun e wx => e = .int .i64 P2.2 ∧ RSv w wx base q P2.1 f m g w.heap.size fl ml fr mr s A n c load B0 n0 d0)
    case first =>
      by_cases h9 : P1.2 = 0
      · have e4 : P2 = qc1 P1.1 := H2.out.trans (qi3 h9); rw [← e4] at cfl; rw [h9]; clear e4 h9; go_wp2_with (first | ((go_at_call 155; (with_reducible refine (cfl O2.out).mono ?_); rintro e w5 ⟨rfl, r5, k5⟩); have O5 := hdd (O2.out.rstep r5 k5); clear r5 k5) | fail "no arm"); go_meet; exact ⟨rfl, O5.out⟩
      · have e4 : P2 = P1 := H2.out.trans (qc9 h9); have hne : (P1.2 == 0) = false := by rw [beq_eq_false_iff_ne]; exact h9
        have O5 := hdd O2.out; rw [← e4] at hne O5 ⊢; clear e4 h9; go_wp2_with fail; go_meet; exact ⟨rfl, O5.out⟩
    case rest =>
      obtain ⟨rfl, o3⟩ := hcut; have O3 := hdd o3; clear o3 cfl b0 b1 b2 O2; go_wp2_with fail; go_loopw [7, 8] (fun e i wr => ∃ (j t : Nat) (z : Int) (X : qa3), Hid (K = j + t) ∧ j ≤ K ∧ e = .int .i64 z ∧ i = .int .i64 ((j : Int) * 128) ∧ Hid (P3 = goOn (X, z) (fun Y => qr6 Y f m load j t)) ∧ X.many = D.many ∧ X.waits.length ≤ D.waits.length + 1 + j ∧ RSv w wr base q X f m g w.heap.size fl ml fr mr s A n c load B0 n0 d0) (fun _ i _ => n + 128 - (intOf i).toNat)
      case atStart => exact ⟨0, K, P2.2, P2.1, hdd omg, omg, rfl, rfl, hdd H3.out, F2.out.1, by have := F2.out.2; omega, O3.out⟩
      case round =>
        obtain ⟨j, t, z, X, hjt, hjK, rfl, rfl, hp3, hxm, hxw, o⟩ := hrel; have hkn := HKN.out j; have O := hdd o; clear o
        by_cases hlt : j < K
        · have hjn : j * 128 < n := hkn.1 hlt; have hjI : (j : Int) * 128 < n := omg
          by_cases hz : z = 0
          · have hzb : (z == 0) = true := by rw [hz]; rfl
            obtain ⟨wo, hwo⟩ : ∃ wo : World, wo = wr := ⟨_, rfl⟩; subst hwo; obtain ⟨t', rfl⟩ : ∃ t', t = t' + 1 := ⟨t - 1, by have := hjt.out; omega⟩; obtain ⟨A', hA'⟩ : ∃ A', (if c = j * 128 then A else A.map (·.add (j * 128 * 1))) = A' := ⟨_, rfl⟩; have hcutL : ∀ W, (Instr.slice 22 (.slice A n c) (some (.int .i64 ((j : Int) * 128))) none none).run Tryz.prog W = .ok (.slice A' (n - j * 128) (c - j * 128)) W := fun W => by
              have h := qi5 qb4 A n c (j * 128) omg W; rw [hA'] at h; exact h
            have hrL : RB wo A' (n - j * 128) (load.drop (j * 128)) := by
              have hll : load.length = n := HLEN.out; have h1 : RB wo A n load := O.out.l.1; refine ⟨by rw [List.length_drop, hll], ?_⟩; rw [← hA', Nat.mul_one]; exact (Row.cut h1.2 omg hc).congr fun i hi => by
                unfold qa2; rw [List.getD_eq_getElem?_getD, List.getD_eq_getElem?_getD, List.getElem?_drop]
            have HRL := hdd hrL; have HPT := hdd (fun u (h : 128 ≤ (load.drop (j * 128)).length + u) h2 => pad_take (load := load) (j := j) (t := u) h h2); have HFJ := hdd (hp3.out.trans (HFILL.out X z j t' hz)); have cwr := fun {W : World} (O : RSv w W base q X f m g w.heap.size fl ml fr mr s A n c load B0 n0 d0) (B : Option Addr) (d : Nat) (hb : RB W B 128 (padL load j)) => (show Calls Tryz.prog 154 #[.agg #[.pointer (some ⟨q.d, 0, none⟩), .int .i64 (f : Nat), .int .i64 (m : Nat)], .int .i64 (1 + (j : Int)), .slice B 128 d] W fun e w' => e = .returned (.int .i64 (qb0 X f m ((1 + j : Nat) : Int) (padL load j)).2) ∧ qb5 w' base q (qb0 X f m ((1 + j : Nat) : Int) (padL load j)).1 ∧ qd4 base q W w' from by
              have q9 := vb9 O.disk O.size (f := f) (m := m) (by rw [hxm]; exact hfm) ((1 + j : Nat) : Int) B d (padL load j) (vc0 load j) hb omg; rw [show (1 + (j : Int)) = ((1 + j : Nat) : Int) by omega]; exact q9)
            have hmw := qi7 X f m ((1 + j : Nat) : Int) (padL load j); have HMW := hdd hmw; obtain ⟨PL, hPL⟩ : ∃ PL, padL load j = PL := ⟨_, rfl⟩; rw [hPL] at HPT HFJ cwr HMW; obtain ⟨RL, hRL⟩ : ∃ RL, load.drop (j * 128) = RL := ⟨_, rfl⟩; rw [hRL] at HRL HPT; obtain ⟨nj, hnj⟩ : ∃ nj, n - j * 128 = nj := ⟨_, rfl⟩; rw [hnj] at HRL hcutL; have hnj2 : nj ≤ 512 := omg; have HNJ := hdd hnj; generalize qb0 X f m ((1 + j : Nat) : Int) PL = PJ at *; clear hrL hA' hPL hRL hnj hmw hp3 hz; go_wp2_with (first | (at_builtin; refine qa6 rfl rfl qb4 qc2 (s := .tmp 51) (N := nj) (L := RL) rfl (Ow.new _ _ #[] [] rfl dcd) rfl (k := RL) (HRL.out.below (B := wo.heap.size) gwn nlr).rd smp smp uml omg szz ?_; intro A3 c3 w3 hown3 hg3 hat3 hb3) | fail "no arm"); have b3 : Below wo.heap.size wo w3 := ((Below.refl wo.heap.size wo).alloc nlr _).trans hb3; have hRLl : RL.length = nj := HRL.out.1; have HRLL := hdd hRLl; clear hg3 hat3 hb3 hcutL hRLl; go_loopw [9] (fun v wi => ∃ (u : Nat) (B : Option Addr) (cc : Nat), (u = 0 ∨ nj + u ≤ 128) ∧ v = .slice B (nj + u) cc ∧ OB wi wo.heap.size 5 B (nj + u) cc (RL ++ List.replicate u 0) ∧ Below wo.heap.size wo wi) (fun v _ => 128 - (match v with | .slice _ k _ => k | _ => 0))
            case atStart => exact ⟨0, A3, c3, .inl rfl, rfl, by rw [List.replicate_zero, List.append_nil]; exact hown3, b3⟩
            case round =>
              obtain ⟨u, B, cc, hu, rfl, hown, hbel⟩ := hrel; have hbs := hbel.size
              by_cases hl9 : nj + u < 128
              · have hlI : (nj : Int) + u < 128 := omg; have hrp : Hid ((RL ++ List.replicate u 0) ++ [(0 : UInt8)] = RL ++ List.replicate (u + 1) 0) := by show _ = _; rw [List.append_assoc, ← List.replicate_succ']
                go_wp2_with (first | (at_builtin; refine qa6 rfl rfl qb4 qc2 (s := .tmp 59) (N := nj + (u + 1)) (L := RL ++ List.replicate (u + 1) 0) rfl (hown.below (b := wr.heap.size) gwn szz) rfl (k := [(0 : UInt8)]) (Rd.of_block (l := [(0 : UInt8)]) (qb7 _ _ smp) rfl) rfl hrp.out uml omg szz ?_; intro A8 c8 w8 hown8 hg8 hat8 hb8) | fail "no arm"); have b8 : Below wo.heap.size wo w8 := (hbel.alloc hbs _).trans hb8; go_roundw
                case rel => first
                  | exact ⟨u + 1, A8, c8, .inr omg, rfl, hown8, b8⟩
                  | ((repeat apply Exists.intro); exact ⟨⟨u + 1, A8, c8, .inr omg, rfl, hown8, b8⟩, rfl⟩)
                case measure => simp; omega
              · have hcap9 := hown.cap; have hcut9 : ∀ W, (Instr.slice 22 (.slice B (nj + u) cc) none (some (.int .i64 128)) none).run Tryz.prog W = .ok (.slice B 128 cc) W := qj3 qb4 B (nj + u) cc 128 omg; have hrb9 : RB wr B 128 PL := by
                  have q9 := (hown.rd.take_ (m := 128) omg).rb; rw [HPT.out u (by rw [HRLL.out]; omega) (by rw [HRLL.out]; omega)] at q9; exact q9
                have O9 := hdd (O.out.below hbel); have HRB9 := hdd hrb9; have a0 : wr.cell? ⟨w.heap.size, 0, none⟩ = some (.pointer (some ⟨q.d, 0, none⟩)) := O9.out.a.cell 0; have a1 : wr.cell? ⟨w.heap.size, 1, none⟩ = some (.int .i64 (f : Nat)) := O9.out.a.cell 1; have a2 : wr.cell? ⟨w.heap.size, 2, none⟩ = some (.int .i64 (m : Nat)) := O9.out.a.cell 2; have hjq : ((j : Int) * 128) / 128 = (j : Int) := omg; have hjw : IntKind.i64.wrap (j : Int) = (j : Int) := by rw [IntKind.wrap_i64]; omega
                have hjw2 : IntKind.i64.wrap (1 + (j : Int)) = 1 + (j : Int) := by rw [IntKind.wrap_i64]; omega
                obtain ⟨nu, hnu⟩ : ∃ nu, nj + u = nu := ⟨_, rfl⟩; rw [hnu] at hcut9 hl9 ⊢; have hlI : ¬ ((nu : Int) < 128) := omg; clear hown hrb9 hu hnu; go_wp2_with fail; go_region_held3 (fun w' => w'.cell? ⟨w.heap.size, 0, none⟩ = some (.pointer (some ⟨q.d, 0, none⟩)) ∧ w'.cell? ⟨w.heap.size, 1, none⟩ = some (.int .i64 (f : Nat)) ∧ w'.cell? ⟨w.heap.size, 2, none⟩ = some (.int .i64 (m : Nat))) (first | go_keep | (refine ⟨?_, ?_, ?_⟩ <;> assumption)) (first | ((go_at_call 154; (with_reducible refine (cwr (O9.out.below gwn) B cc (HRB9.out.below (B := wr.heap.size) gwn nlr)).mono ?_); rintro e w9 ⟨rfl, r9, k9⟩); have O10 := hdd ((O9.out.below (w' := wr.drew) gwn).rstep r9 k9); have m0 : w9.cell? ⟨w.heap.size, 0, none⟩ = some (.pointer (some ⟨q.d, 0, none⟩)) := O10.out.a.cell 0; have m1 : w9.cell? ⟨w.heap.size, 1, none⟩ = some (.int .i64 (f : Nat)) := O10.out.a.cell 1; have m2 : w9.cell? ⟨w.heap.size, 2, none⟩ = some (.int .i64 (m : Nat)) := O10.out.a.cell 2; clear r9 k9) | fail "no arm"); go_wp2_with fail; go_roundw
                case rel =>
                  have e9 : Hid (P3 = goOn (PJ.1, PJ.2) (fun Y => qr6 Y f m load (j + 1) t')) := HFJ; have hm1 := HMW.out; have hi9 : Value.int .i64 ((j : Int) * 128 + 128) = .int .i64 (((j + 1 : Nat) : Int) * 128) := by congr 1; omega
                  first
                    | exact ⟨j + 1, t', PJ.2, PJ.1, hdd (by have := hjt.out; omega), omg, rfl, hi9, e9, omg, by omega, O10.out⟩
                    | ((repeat apply Exists.intro); exact ⟨⟨j + 1, t', PJ.2, PJ.1, hdd (by have := hjt.out; omega), omg, rfl, hi9, e9, omg, by omega, O10.out⟩, rfl⟩)
                case measure => simp [intOf]; omega
          · have hzb : (z == 0) = false := by rw [beq_eq_false_iff_ne]; exact hz
            have e3 : P3 = (X, z) := hp3.out.trans (qc9 hz); have hz3 : P3.2 ≠ 0 := by rw [e3]; exact hz
            have e4 : P4 = P3 := H4.out.trans (qc9 hz3); have e5 : P5 = P4 := H5.out.trans (qc9 (by rw [e4]; exact hz3)); have e6 : P6 = P5 := H6.out.trans (qc9 (by rw [e5, e4]; exact hz3)); have HE := hdd (show R = (X, s, z) from by rw [HR.out, e6, e5, e4, if_pos hz3, e3]); have hzn : (z != 0) = true := by rw [bne_iff_ne]; exact hz
            clear hz e3 hz3 e4 e5 e6 hp3; go_wp2
            try rw [Exit.noGoto_ret]
            go_ret; rw [HE.out]; exact ⟨rfl, O.out.disk, ⟨B0, n0, d0, O.out.x, hc0, hcm0, O.out.l0, hnw2⟩, O.out.saved⟩
        · have hjn : ¬ ((j : Int) * 128 < n) := by have := fun e => hlt (hkn.2 e); omega
          have ht0 : t = 0 := by have := hjt.out; omega
          have e3 : P3 = (X, z) := by
            rw [hp3.out, ht0]
            by_cases hz : z = 0
            · rw [qi3 hz, hz]; rfl
            · exact qc9 hz
          have hz3 : z = P3.2 := by rw [e3]
          have hx3 : X = P3.1 := by rw [e3]
          clear e3 ht0; subst hz3 hx3; clear hp3 hxm hxw; clear HFILL; have cfl3 := fun {W : World} (O : RSv w W base q P3.1 f m g w.heap.size fl ml fr mr s A n c load B0 n0 d0) => qz4 O.disk O.size
          go_upto_if 70 with fail; go_cut [7] (fun e wx => e = .int .i64 P4.2 ∧ RSv w wx base q P4.1 f m g w.heap.size fl ml fr mr s A n c load B0 n0 d0)
          case first =>
            by_cases h9 : P3.2 = 0
            · have e4 : P4 = qc1 P3.1 := H4.out.trans (qi3 h9); rw [← e4] at cfl3; have Y0 : wr.cell? ⟨w.heap.size, 0, none⟩ = some (.pointer (some ⟨q.d, 0, none⟩)) := O.out.a.cell 0; rw [h9]; clear e4 h9; go_wp2_with (first | ((go_at_call 155; (with_reducible refine (cfl3 O.out).mono ?_); rintro e w5 ⟨rfl, r5, k5⟩); have O5 := hdd (O.out.rstep r5 k5); clear r5 k5) | fail "no arm"); go_meet; exact ⟨rfl, O5.out⟩
            · have e4 : P4 = P3 := H4.out.trans (qc9 h9); have hne : (P3.2 == 0) = false := by rw [beq_eq_false_iff_ne]; exact h9
              have O5 := hdd O.out; rw [← e4] at hne O5 ⊢; clear e4 h9; go_wp2_with fail; go_meet; exact ⟨rfl, O5.out⟩
          case rest =>
            obtain ⟨rfl, o4⟩ := hcut; have O4 := hdd o4; clear o4 cfl3; go_upto_if 75 with fail; go_cut [7] (fun e wx => e = .int .i64 P5.2 ∧ RSv w wx base q P5.1 f m g w.heap.size fl ml fr mr s A n c load B0 n0 d0)
            case first =>
              by_cases h9 : P4.2 = 0
              · have e4 : P5 = qm5 P4.1 f m 0 2 (s.number + 1) (qn9 load) := H5.out.trans (qi3 h9); have cput := fun {W : World} (O : RSv w W base q P4.1 f m g w.heap.size fl ml fr mr s A n c load B0 n0 d0) (B : Option Addr) (d : Nat) (hb : RB W B 12 (qn9 load)) => (show Calls Tryz.prog 156 #[.agg #[.pointer (some ⟨q.d, 0, none⟩), .int .i64 (f : Nat), .int .i64 (m : Nat)], .int .i64 0, .int .i64 2, .int .i64 (s.number + 1), .slice B 12 d] W fun e w' => e = .returned (.int .i64 P5.2) ∧ qb5 w' base q P5.1 ∧ qd4 base q W w' from by rw [e4]; exact ra_put O.disk O.size (by rw [F4.out.1]; exact hfm) 0 2 (s.number + 1) B 12 d (qn9 load) hb dcd (by have := HNB.out; omega) (by have := F4.out.2; omega))
                have HHL : Hid (putL (un n) ++ sumL load = qn9 load) := by show _ = _; unfold qn9; rw [HLEN.out]
                have csm := fun {W : World} (O : RSv w W base q P4.1 f m g w.heap.size fl ml fr mr s A n c load B0 n0 d0) => vj5 A n c load W O.l.1 uml
                have cpt := fun (W : World) => qv1 (n : Int) W omg omg
                have hsl := sumL_len load; have SLN := hdd hsl; generalize qn9 load = hL at *; generalize sumL load = sL at *; have a0 : wc.cell? ⟨w.heap.size, 0, none⟩ = some (.pointer (some ⟨q.d, 0, none⟩)) := O4.out.a.cell 0; have a1 : wc.cell? ⟨w.heap.size, 1, none⟩ = some (.int .i64 (f : Nat)) := O4.out.a.cell 1; have a2 : wc.cell? ⟨w.heap.size, 2, none⟩ = some (.int .i64 (m : Nat)) := O4.out.a.cell 2; have a7 : wc.cell? ⟨g, 7, none⟩ = some (.int .i64 s.number) := O4.out.x.cell 7; rw [h9]; clear e4 h9 hsl; go_wp2_with fail; go_region_held3 (fun w' => w'.cell? ⟨w.heap.size, 0, none⟩ = some (.pointer (some ⟨q.d, 0, none⟩)) ∧ w'.cell? ⟨w.heap.size, 1, none⟩ = some (.int .i64 (f : Nat)) ∧ w'.cell? ⟨w.heap.size, 2, none⟩ = some (.int .i64 (m : Nat)) ∧ w'.cell? ⟨g, 7, none⟩ = some (.int .i64 s.number)) (first | go_keep | (refine ⟨?_, ?_, ?_, ?_⟩ <;> assumption)) (first | ((go_at_call 157; (with_reducible refine (cpt _).mono ?_); rintro e w6 ⟨B6, c6, rfl, o6, b6⟩); have O6 := O4.out.below (qa0 (a := wc) (B := wc.heap.size) gwn b6 szz); have i0 : w6.cell? ⟨w.heap.size, 0, none⟩ = some (.pointer (some ⟨q.d, 0, none⟩)) := O6.a.cell 0; have i1 : w6.cell? ⟨w.heap.size, 1, none⟩ = some (.int .i64 (f : Nat)) := O6.a.cell 1; have i2 : w6.cell? ⟨w.heap.size, 2, none⟩ = some (.int .i64 (m : Nat)) := O6.a.cell 2; have i7 : w6.cell? ⟨g, 7, none⟩ = some (.int .i64 s.number) := O6.x.cell 7) | ((go_at_call 158; (with_reducible refine (csm O6).mono ?_); rintro e w7 ⟨B7, c7, rfl, o7, b7⟩); have O7 := O6.below b7; have o67 := o6.below b7 nlr; have j0 : w7.cell? ⟨w.heap.size, 0, none⟩ = some (.pointer (some ⟨q.d, 0, none⟩)) := O7.a.cell 0; have j1 : w7.cell? ⟨w.heap.size, 1, none⟩ = some (.int .i64 (f : Nat)) := O7.a.cell 1; have j2 : w7.cell? ⟨w.heap.size, 2, none⟩ = some (.int .i64 (m : Nat)) := O7.a.cell 2; have j7 : w7.cell? ⟨g, 7, none⟩ = some (.int .i64 s.number) := O7.x.cell 7) | (refine qd6 rfl rfl qb4 qc2 (s := .tmp 84) (x := .tmp 86) (N := 12) (L := hL) rfl o67 rfl (k := sL) o7.rd (by rfl) HHL.out uml omg (by have e1 := b6.size; have e2 := b7.size; omega) ?_; intro A8 c8 w8 hown8 hg8 hat8 hb8; have O8 := O4.out.below (Below.trans (Below.drew (Below.refl wc.heap.size wc)) ((b6.mono smp).trans ((b7.mono (by have e1 := b6.size; simp at e1; omega)).trans (hb8.mono smp)))); have l0 : w8.cell? ⟨w.heap.size, 0, none⟩ = some (.pointer (some ⟨q.d, 0, none⟩)) := O8.a.cell 0; have l1 : w8.cell? ⟨w.heap.size, 1, none⟩ = some (.int .i64 (f : Nat)) := O8.a.cell 1; have l2 : w8.cell? ⟨w.heap.size, 2, none⟩ = some (.int .i64 (m : Nat)) := O8.a.cell 2; have l7 : w8.cell? ⟨g, 7, none⟩ = some (.int .i64 s.number) := O8.x.cell 7) | ((go_at_call 156; (with_reducible refine (cput O8 A8 c8 hown8.rd.rb).mono ?_); rintro e w9 ⟨rfl, r9, k9⟩); have O9 := O8.rstep r9 k9; have m0 : w9.cell? ⟨w.heap.size, 0, none⟩ = some (.pointer (some ⟨q.d, 0, none⟩)) := O9.a.cell 0; have m1 : w9.cell? ⟨w.heap.size, 1, none⟩ = some (.int .i64 (f : Nat)) := O9.a.cell 1; have m2 : w9.cell? ⟨w.heap.size, 2, none⟩ = some (.int .i64 (m : Nat)) := O9.a.cell 2; have m7 : w9.cell? ⟨g, 7, none⟩ = some (.int .i64 s.number) := O9.x.cell 7; have HO9 := hdd O9; clear O9 r9 k9) | fail "no arm"); go_wp2_with fail; go_meet; exact ⟨rfl, HO9.out⟩
              · have e4 : P5 = P4 := H5.out.trans (qc9 h9); have hne : (P4.2 == 0) = false := by rw [beq_eq_false_iff_ne]; exact h9
                have O5 := hdd O4.out; rw [← e4] at hne O5 ⊢; clear e4 h9; go_wp2_with fail; go_meet; exact ⟨rfl, O5.out⟩
            case rest =>
              obtain ⟨rfl, o5⟩ := hcut; have O5 := hdd o5; clear o5 O4; have cfl5 := fun {W : World} (O : RSv w W base q P5.1 f m g w.heap.size fl ml fr mr s A n c load B0 n0 d0) => qz4 O.disk O.size
              go_upto_if 90 with fail; go_cut [7] (fun e wx => e = .int .i64 P6.2 ∧ RSv w wx base q P6.1 f m g w.heap.size fl ml fr mr s A n c load B0 n0 d0)
              case first =>
                by_cases h9 : P5.2 = 0
                · have e4 : P6 = qc1 P5.1 := H6.out.trans (qi3 h9); rw [← e4] at cfl5; have Y0 : wc.cell? ⟨w.heap.size, 0, none⟩ = some (.pointer (some ⟨q.d, 0, none⟩)) := O5.out.a.cell 0; rw [h9]; clear e4 h9; go_wp2_with (first | ((go_at_call 155; (with_reducible refine (cfl5 O5.out).mono ?_); rintro e w5 ⟨rfl, r5, k5⟩); have O6 := hdd (O5.out.rstep r5 k5); clear r5 k5) | fail "no arm"); go_meet; exact ⟨rfl, O6.out⟩
                · have e4 : P6 = P5 := H6.out.trans (qc9 h9); have hne : (P5.2 == 0) = false := by rw [beq_eq_false_iff_ne]; exact h9
                  have O6 := hdd O5.out; rw [← e4] at hne O6 ⊢; clear e4 h9; go_wp2_with fail; go_meet; exact ⟨rfl, O6.out⟩
              case rest =>
                obtain ⟨rfl, o6⟩ := hcut; have O6 := hdd o6; clear o6 O5 cfl5
                by_cases h9 : P6.2 = 0
                · have HE := hdd (show R = (P6.1, ⟨0, s.number + 1, load⟩, 0) from by rw [HR.out, if_neg (by rw [h9]; simp)]); have X9 := O6.out.x; have u6 : wc.cell? ⟨g, 6, none⟩ = some (.int .i64 (s.now : Nat)) := X9.cell 6; have u7 : wc.cell? ⟨g, 7, none⟩ = some (.int .i64 s.number) := X9.cell 7; have u8 : wc.cell? ⟨g, 8, none⟩ = some (.slice B0 n0 d0) := X9.cell 8; have v6 := X9.frozen 6; have v7 := X9.frozen 7; have v8 := X9.frozen 8; have l2 := X9.lt; have FIN := hdd (qe5.sets (o := 0) (oth := 0) X9 O6.out.disk hg O6.out.l hc uml rfl omg (s.number + 1)); have bF := hdd (O6.out.saved3 hg (.int .i64 0) (.int .i64 (s.number + 1)) (.slice A n c)); rw [h9]; clear h9 X9; go_wp2
                  try rw [Exit.noGoto_ret]
                  go_ret; rw [HE.out]; exact ⟨rfl, FIN.out.1, FIN.out.2, bF.out⟩
                · have HE := hdd (show R = (P6.1, s, P6.2) from by rw [HR.out, if_pos h9]); have hne : (P6.2 != 0) = true := by rw [bne_iff_ne]; exact h9
                  clear h9; go_wp2
                  try rw [Exit.noGoto_ret]
                  go_ret; rw [HE.out]; exact ⟨rfl, O6.out.disk, ⟨B0, n0, d0, O6.out.x, hc0, hcm0, O6.out.l0, hnw2⟩, O6.out.saved⟩
  · have hn0 : ((s.now : Int) == 0) = true := by rw [hnow]; rfl
    rw [← hf] at x4; rw [← hmm] at x5; clear hf hmm hnow; go_enter Tryz.func73, Tryz.ntmps73; go_upto_region 8 with fail; refine qp0 (fun W => RSv w W base q D f m g w.heap.size fl ml fr mr s A n c load B0 n0 d0) OO ?_; clear OO x0 x1 x2 x3 x4 x5 x6 x7; intro w1 o1; have a0 : w1.cell? ⟨w.heap.size, 0, none⟩ = some (.pointer (some ⟨q.d, 0, none⟩)) := o1.a.cell 0; have a1 : w1.cell? ⟨w.heap.size, 1, none⟩ = some (.int .i64 (f : Nat)) := o1.a.cell 1; have a2 : w1.cell? ⟨w.heap.size, 2, none⟩ = some (.int .i64 (m : Nat)) := o1.a.cell 2; have O1 := hdd o1; clear o1; go_region_held3 (fun w' => w'.cell? ⟨w.heap.size, 0, none⟩ = some (.pointer (some ⟨q.d, 0, none⟩)) ∧ w'.cell? ⟨w.heap.size, 1, none⟩ = some (.int .i64 (f : Nat)) ∧ w'.cell? ⟨w.heap.size, 2, none⟩ = some (.int .i64 (m : Nat))) (first | go_keep | (refine ⟨?_, ?_, ?_⟩ <;> assumption)) (first | ((go_at_call 154; (with_reducible refine (c1 (O1.out.below gwn).disk (by have := O1.out.size; simp; omega) w1.heap.size (RBZ.out _ _ blq)).mono ?_); rintro e w2 ⟨rfl, r2, k2⟩); have O2 := hdd ((O1.out.below (w' := (w1.alloc (.cells Z.toArray 5)).drew) gwn).rstep r2 k2); have b0 : w2.cell? ⟨w.heap.size, 0, none⟩ = some (.pointer (some ⟨q.d, 0, none⟩)) := O2.out.a.cell 0; have b1 : w2.cell? ⟨w.heap.size, 1, none⟩ = some (.int .i64 (f : Nat)) := O2.out.a.cell 1; have b2 : w2.cell? ⟨w.heap.size, 2, none⟩ = some (.int .i64 (m : Nat)) := O2.out.a.cell 2; clear r2 k2) | fail "no arm"); have cfl := fun {W : World} (O : RSv w W base q P1.1 f m g w.heap.size fl ml fr mr s A n c load B0 n0 d0) => qz4 O.disk O.size
    clear a0 a1 a2 c1 O1; go_upto_if 37 with fail; go_cut [7] (fun e wx => e = .int .i64 P2.2 ∧ RSv w wx base q P2.1 f m g w.heap.size fl ml fr mr s A n c load B0 n0 d0)
    case first =>
      by_cases h9 : P1.2 = 0
      · have e4 : P2 = qc1 P1.1 := H2.out.trans (qi3 h9); rw [← e4] at cfl; rw [h9]; clear e4 h9; go_wp2_with (first | ((go_at_call 155; (with_reducible refine (cfl O2.out).mono ?_); rintro e w5 ⟨rfl, r5, k5⟩); have O5 := hdd (O2.out.rstep r5 k5); clear r5 k5) | fail "no arm"); go_meet; exact ⟨rfl, O5.out⟩
      · have e4 : P2 = P1 := H2.out.trans (qc9 h9); have hne : (P1.2 == 0) = false := by rw [beq_eq_false_iff_ne]; exact h9
        have O5 := hdd O2.out; rw [← e4] at hne O5 ⊢; clear e4 h9; go_wp2_with fail; go_meet; exact ⟨rfl, O5.out⟩
    case rest =>
      obtain ⟨rfl, o3⟩ := hcut; have O3 := hdd o3; clear o3 cfl b0 b1 b2 O2; go_wp2_with fail; go_loopw [7, 8] (fun e i wr => ∃ (j t : Nat) (z : Int) (X : qa3), Hid (K = j + t) ∧ j ≤ K ∧ e = .int .i64 z ∧ i = .int .i64 ((j : Int) * 128) ∧ Hid (P3 = goOn (X, z) (fun Y => qr6 Y f m load j t)) ∧ X.many = D.many ∧ X.waits.length ≤ D.waits.length + 1 + j ∧ RSv w wr base q X f m g w.heap.size fl ml fr mr s A n c load B0 n0 d0) (fun _ i _ => n + 128 - (intOf i).toNat)
      case atStart => exact ⟨0, K, P2.2, P2.1, hdd omg, omg, rfl, rfl, hdd H3.out, F2.out.1, by have := F2.out.2; omega, O3.out⟩
      case round =>
        obtain ⟨j, t, z, X, hjt, hjK, rfl, rfl, hp3, hxm, hxw, o⟩ := hrel; have hkn := HKN.out j; have O := hdd o; clear o
        by_cases hlt : j < K
        · have hjn : j * 128 < n := hkn.1 hlt; have hjI : (j : Int) * 128 < n := omg
          by_cases hz : z = 0
          · have hzb : (z == 0) = true := by rw [hz]; rfl
            obtain ⟨wo, hwo⟩ : ∃ wo : World, wo = wr := ⟨_, rfl⟩; subst hwo; obtain ⟨t', rfl⟩ : ∃ t', t = t' + 1 := ⟨t - 1, by have := hjt.out; omega⟩; obtain ⟨A', hA'⟩ : ∃ A', (if c = j * 128 then A else A.map (·.add (j * 128 * 1))) = A' := ⟨_, rfl⟩; have hcutL : ∀ W, (Instr.slice 22 (.slice A n c) (some (.int .i64 ((j : Int) * 128))) none none).run Tryz.prog W = .ok (.slice A' (n - j * 128) (c - j * 128)) W := fun W => by
              have h := qi5 qb4 A n c (j * 128) omg W; rw [hA'] at h; exact h
            have hrL : RB wo A' (n - j * 128) (load.drop (j * 128)) := by
              have hll : load.length = n := HLEN.out; have h1 : RB wo A n load := O.out.l.1; refine ⟨by rw [List.length_drop, hll], ?_⟩; rw [← hA', Nat.mul_one]; exact (Row.cut h1.2 omg hc).congr fun i hi => by
                unfold qa2; rw [List.getD_eq_getElem?_getD, List.getD_eq_getElem?_getD, List.getElem?_drop]
            have HRL := hdd hrL; have HPT := hdd (fun u (h : 128 ≤ (load.drop (j * 128)).length + u) h2 => pad_take (load := load) (j := j) (t := u) h h2); have HFJ := hdd (hp3.out.trans (HFILL.out X z j t' hz)); have cwr := fun {W : World} (O : RSv w W base q X f m g w.heap.size fl ml fr mr s A n c load B0 n0 d0) (B : Option Addr) (d : Nat) (hb : RB W B 128 (padL load j)) => (show Calls Tryz.prog 154 #[.agg #[.pointer (some ⟨q.d, 0, none⟩), .int .i64 (f : Nat), .int .i64 (m : Nat)], .int .i64 (1 + (j : Int)), .slice B 128 d] W fun e w' => e = .returned (.int .i64 (qb0 X f m ((1 + j : Nat) : Int) (padL load j)).2) ∧ qb5 w' base q (qb0 X f m ((1 + j : Nat) : Int) (padL load j)).1 ∧ qd4 base q W w' from by
              have q9 := vb9 O.disk O.size (f := f) (m := m) (by rw [hxm]; exact hfm) ((1 + j : Nat) : Int) B d (padL load j) (vc0 load j) hb omg; rw [show (1 + (j : Int)) = ((1 + j : Nat) : Int) by omega]; exact q9)
            have hmw := qi7 X f m ((1 + j : Nat) : Int) (padL load j); have HMW := hdd hmw; obtain ⟨PL, hPL⟩ : ∃ PL, padL load j = PL := ⟨_, rfl⟩; rw [hPL] at HPT HFJ cwr HMW; obtain ⟨RL, hRL⟩ : ∃ RL, load.drop (j * 128) = RL := ⟨_, rfl⟩; rw [hRL] at HRL HPT; obtain ⟨nj, hnj⟩ : ∃ nj, n - j * 128 = nj := ⟨_, rfl⟩; rw [hnj] at HRL hcutL; have hnj2 : nj ≤ 512 := omg; have HNJ := hdd hnj; generalize qb0 X f m ((1 + j : Nat) : Int) PL = PJ at *; clear hrL hA' hPL hRL hnj hmw hp3 hz; go_wp2_with (first | (at_builtin; refine qa6 rfl rfl qb4 qc2 (s := .tmp 51) (N := nj) (L := RL) rfl (Ow.new _ _ #[] [] rfl dcd) rfl (k := RL) (HRL.out.below (B := wo.heap.size) gwn nlr).rd smp smp uml omg szz ?_; intro A3 c3 w3 hown3 hg3 hat3 hb3) | fail "no arm"); have b3 : Below wo.heap.size wo w3 := ((Below.refl wo.heap.size wo).alloc nlr _).trans hb3; have hRLl : RL.length = nj := HRL.out.1; have HRLL := hdd hRLl; clear hg3 hat3 hb3 hcutL hRLl; go_loopw [9] (fun v wi => ∃ (u : Nat) (B : Option Addr) (cc : Nat), (u = 0 ∨ nj + u ≤ 128) ∧ v = .slice B (nj + u) cc ∧ OB wi wo.heap.size 5 B (nj + u) cc (RL ++ List.replicate u 0) ∧ Below wo.heap.size wo wi) (fun v _ => 128 - (match v with | .slice _ k _ => k | _ => 0))
            case atStart => exact ⟨0, A3, c3, .inl rfl, rfl, by rw [List.replicate_zero, List.append_nil]; exact hown3, b3⟩
            case round =>
              obtain ⟨u, B, cc, hu, rfl, hown, hbel⟩ := hrel; have hbs := hbel.size
              by_cases hl9 : nj + u < 128
              · have hlI : (nj : Int) + u < 128 := omg; have hrp : Hid ((RL ++ List.replicate u 0) ++ [(0 : UInt8)] = RL ++ List.replicate (u + 1) 0) := by show _ = _; rw [List.append_assoc, ← List.replicate_succ']
                go_wp2_with (first | (at_builtin; refine qa6 rfl rfl qb4 qc2 (s := .tmp 59) (N := nj + (u + 1)) (L := RL ++ List.replicate (u + 1) 0) rfl (hown.below (b := wr.heap.size) gwn szz) rfl (k := [(0 : UInt8)]) (Rd.of_block (l := [(0 : UInt8)]) (qb7 _ _ smp) rfl) rfl hrp.out uml omg szz ?_; intro A8 c8 w8 hown8 hg8 hat8 hb8) | fail "no arm"); have b8 : Below wo.heap.size wo w8 := (hbel.alloc hbs _).trans hb8; go_roundw
                case rel => first
                  | exact ⟨u + 1, A8, c8, .inr omg, rfl, hown8, b8⟩
                  | ((repeat apply Exists.intro); exact ⟨⟨u + 1, A8, c8, .inr omg, rfl, hown8, b8⟩, rfl⟩)
                case measure => simp; omega
              · have hcap9 := hown.cap; have hcut9 : ∀ W, (Instr.slice 22 (.slice B (nj + u) cc) none (some (.int .i64 128)) none).run Tryz.prog W = .ok (.slice B 128 cc) W := qj3 qb4 B (nj + u) cc 128 omg; have hrb9 : RB wr B 128 PL := by
                  have q9 := (hown.rd.take_ (m := 128) omg).rb; rw [HPT.out u (by rw [HRLL.out]; omega) (by rw [HRLL.out]; omega)] at q9; exact q9
                have O9 := hdd (O.out.below hbel); have HRB9 := hdd hrb9; have a0 : wr.cell? ⟨w.heap.size, 0, none⟩ = some (.pointer (some ⟨q.d, 0, none⟩)) := O9.out.a.cell 0; have a1 : wr.cell? ⟨w.heap.size, 1, none⟩ = some (.int .i64 (f : Nat)) := O9.out.a.cell 1; have a2 : wr.cell? ⟨w.heap.size, 2, none⟩ = some (.int .i64 (m : Nat)) := O9.out.a.cell 2; have hjq : ((j : Int) * 128) / 128 = (j : Int) := omg; have hjw : IntKind.i64.wrap (j : Int) = (j : Int) := by rw [IntKind.wrap_i64]; omega
                have hjw2 : IntKind.i64.wrap (1 + (j : Int)) = 1 + (j : Int) := by rw [IntKind.wrap_i64]; omega
                obtain ⟨nu, hnu⟩ : ∃ nu, nj + u = nu := ⟨_, rfl⟩; rw [hnu] at hcut9 hl9 ⊢; have hlI : ¬ ((nu : Int) < 128) := omg; clear hown hrb9 hu hnu; go_wp2_with fail; go_region_held3 (fun w' => w'.cell? ⟨w.heap.size, 0, none⟩ = some (.pointer (some ⟨q.d, 0, none⟩)) ∧ w'.cell? ⟨w.heap.size, 1, none⟩ = some (.int .i64 (f : Nat)) ∧ w'.cell? ⟨w.heap.size, 2, none⟩ = some (.int .i64 (m : Nat))) (first | go_keep | (refine ⟨?_, ?_, ?_⟩ <;> assumption)) (first | ((go_at_call 154; (with_reducible refine (cwr (O9.out.below gwn) B cc (HRB9.out.below (B := wr.heap.size) gwn nlr)).mono ?_); rintro e w9 ⟨rfl, r9, k9⟩); have O10 := hdd ((O9.out.below (w' := wr.drew) gwn).rstep r9 k9); have m0 : w9.cell? ⟨w.heap.size, 0, none⟩ = some (.pointer (some ⟨q.d, 0, none⟩)) := O10.out.a.cell 0; have m1 : w9.cell? ⟨w.heap.size, 1, none⟩ = some (.int .i64 (f : Nat)) := O10.out.a.cell 1; have m2 : w9.cell? ⟨w.heap.size, 2, none⟩ = some (.int .i64 (m : Nat)) := O10.out.a.cell 2; clear r9 k9) | fail "no arm"); go_wp2_with fail; go_roundw
                case rel =>
                  have e9 : Hid (P3 = goOn (PJ.1, PJ.2) (fun Y => qr6 Y f m load (j + 1) t')) := HFJ; have hm1 := HMW.out; have hi9 : Value.int .i64 ((j : Int) * 128 + 128) = .int .i64 (((j + 1 : Nat) : Int) * 128) := by congr 1; omega
                  first
                    | exact ⟨j + 1, t', PJ.2, PJ.1, hdd (by have := hjt.out; omega), omg, rfl, hi9, e9, omg, by omega, O10.out⟩
                    | ((repeat apply Exists.intro); exact ⟨⟨j + 1, t', PJ.2, PJ.1, hdd (by have := hjt.out; omega), omg, rfl, hi9, e9, omg, by omega, O10.out⟩, rfl⟩)
                case measure => simp [intOf]; omega
          · have hzb : (z == 0) = false := by rw [beq_eq_false_iff_ne]; exact hz
            have e3 : P3 = (X, z) := hp3.out.trans (qc9 hz); have hz3 : P3.2 ≠ 0 := by rw [e3]; exact hz
            have e4 : P4 = P3 := H4.out.trans (qc9 hz3); have e5 : P5 = P4 := H5.out.trans (qc9 (by rw [e4]; exact hz3)); have e6 : P6 = P5 := H6.out.trans (qc9 (by rw [e5, e4]; exact hz3)); have HE := hdd (show R = (X, s, z) from by rw [HR.out, e6, e5, e4, if_pos hz3, e3]); have hzn : (z != 0) = true := by rw [bne_iff_ne]; exact hz
            clear hz e3 hz3 e4 e5 e6 hp3; go_wp2
            try rw [Exit.noGoto_ret]
            go_ret; rw [HE.out]; exact ⟨rfl, O.out.disk, ⟨B0, n0, d0, O.out.x, hc0, hcm0, O.out.l0, hnw2⟩, O.out.saved⟩
        · have hjn : ¬ ((j : Int) * 128 < n) := by have := fun e => hlt (hkn.2 e); omega
          have ht0 : t = 0 := by have := hjt.out; omega
          have e3 : P3 = (X, z) := by
            rw [hp3.out, ht0]
            by_cases hz : z = 0
            · rw [qi3 hz, hz]; rfl
            · exact qc9 hz
          have hz3 : z = P3.2 := by rw [e3]
          have hx3 : X = P3.1 := by rw [e3]
          clear e3 ht0; subst hz3 hx3; clear hp3 hxm hxw; clear HFILL; have cfl3 := fun {W : World} (O : RSv w W base q P3.1 f m g w.heap.size fl ml fr mr s A n c load B0 n0 d0) => qz4 O.disk O.size
          go_upto_if 70 with fail; go_cut [7] (fun e wx => e = .int .i64 P4.2 ∧ RSv w wx base q P4.1 f m g w.heap.size fl ml fr mr s A n c load B0 n0 d0)
          case first =>
            by_cases h9 : P3.2 = 0
            · have e4 : P4 = qc1 P3.1 := H4.out.trans (qi3 h9); rw [← e4] at cfl3; have Y0 : wr.cell? ⟨w.heap.size, 0, none⟩ = some (.pointer (some ⟨q.d, 0, none⟩)) := O.out.a.cell 0; rw [h9]; clear e4 h9; go_wp2_with (first | ((go_at_call 155; (with_reducible refine (cfl3 O.out).mono ?_); rintro e w5 ⟨rfl, r5, k5⟩); have O5 := hdd (O.out.rstep r5 k5); clear r5 k5) | fail "no arm"); go_meet; exact ⟨rfl, O5.out⟩
            · have e4 : P4 = P3 := H4.out.trans (qc9 h9); have hne : (P3.2 == 0) = false := by rw [beq_eq_false_iff_ne]; exact h9
              have O5 := hdd O.out; rw [← e4] at hne O5 ⊢; clear e4 h9; go_wp2_with fail; go_meet; exact ⟨rfl, O5.out⟩
          case rest =>
            obtain ⟨rfl, o4⟩ := hcut; have O4 := hdd o4; clear o4 cfl3; go_upto_if 75 with fail; go_cut [7] (fun e wx => e = .int .i64 P5.2 ∧ RSv w wx base q P5.1 f m g w.heap.size fl ml fr mr s A n c load B0 n0 d0)
            case first =>
              by_cases h9 : P4.2 = 0
              · have e4 : P5 = qm5 P4.1 f m 0 2 (s.number + 1) (qn9 load) := H5.out.trans (qi3 h9); have cput := fun {W : World} (O : RSv w W base q P4.1 f m g w.heap.size fl ml fr mr s A n c load B0 n0 d0) (B : Option Addr) (d : Nat) (hb : RB W B 12 (qn9 load)) => (show Calls Tryz.prog 156 #[.agg #[.pointer (some ⟨q.d, 0, none⟩), .int .i64 (f : Nat), .int .i64 (m : Nat)], .int .i64 0, .int .i64 2, .int .i64 (s.number + 1), .slice B 12 d] W fun e w' => e = .returned (.int .i64 P5.2) ∧ qb5 w' base q P5.1 ∧ qd4 base q W w' from by rw [e4]; exact ra_put O.disk O.size (by rw [F4.out.1]; exact hfm) 0 2 (s.number + 1) B 12 d (qn9 load) hb dcd (by have := HNB.out; omega) (by have := F4.out.2; omega))
                have HHL : Hid (putL (un n) ++ sumL load = qn9 load) := by show _ = _; unfold qn9; rw [HLEN.out]
                have csm := fun {W : World} (O : RSv w W base q P4.1 f m g w.heap.size fl ml fr mr s A n c load B0 n0 d0) => vj5 A n c load W O.l.1 uml
                have cpt := fun (W : World) => qv1 (n : Int) W omg omg
                have hsl := sumL_len load; have SLN := hdd hsl; generalize qn9 load = hL at *; generalize sumL load = sL at *; have a0 : wc.cell? ⟨w.heap.size, 0, none⟩ = some (.pointer (some ⟨q.d, 0, none⟩)) := O4.out.a.cell 0; have a1 : wc.cell? ⟨w.heap.size, 1, none⟩ = some (.int .i64 (f : Nat)) := O4.out.a.cell 1; have a2 : wc.cell? ⟨w.heap.size, 2, none⟩ = some (.int .i64 (m : Nat)) := O4.out.a.cell 2; have a7 : wc.cell? ⟨g, 7, none⟩ = some (.int .i64 s.number) := O4.out.x.cell 7; rw [h9]; clear e4 h9 hsl; go_wp2_with fail; go_region_held3 (fun w' => w'.cell? ⟨w.heap.size, 0, none⟩ = some (.pointer (some ⟨q.d, 0, none⟩)) ∧ w'.cell? ⟨w.heap.size, 1, none⟩ = some (.int .i64 (f : Nat)) ∧ w'.cell? ⟨w.heap.size, 2, none⟩ = some (.int .i64 (m : Nat)) ∧ w'.cell? ⟨g, 7, none⟩ = some (.int .i64 s.number)) (first | go_keep | (refine ⟨?_, ?_, ?_, ?_⟩ <;> assumption)) (first | ((go_at_call 157; (with_reducible refine (cpt _).mono ?_); rintro e w6 ⟨B6, c6, rfl, o6, b6⟩); have O6 := O4.out.below (qa0 (a := wc) (B := wc.heap.size) gwn b6 szz); have i0 : w6.cell? ⟨w.heap.size, 0, none⟩ = some (.pointer (some ⟨q.d, 0, none⟩)) := O6.a.cell 0; have i1 : w6.cell? ⟨w.heap.size, 1, none⟩ = some (.int .i64 (f : Nat)) := O6.a.cell 1; have i2 : w6.cell? ⟨w.heap.size, 2, none⟩ = some (.int .i64 (m : Nat)) := O6.a.cell 2; have i7 : w6.cell? ⟨g, 7, none⟩ = some (.int .i64 s.number) := O6.x.cell 7) | ((go_at_call 158; (with_reducible refine (csm O6).mono ?_); rintro e w7 ⟨B7, c7, rfl, o7, b7⟩); have O7 := O6.below b7; have o67 := o6.below b7 nlr; have j0 : w7.cell? ⟨w.heap.size, 0, none⟩ = some (.pointer (some ⟨q.d, 0, none⟩)) := O7.a.cell 0; have j1 : w7.cell? ⟨w.heap.size, 1, none⟩ = some (.int .i64 (f : Nat)) := O7.a.cell 1; have j2 : w7.cell? ⟨w.heap.size, 2, none⟩ = some (.int .i64 (m : Nat)) := O7.a.cell 2; have j7 : w7.cell? ⟨g, 7, none⟩ = some (.int .i64 s.number) := O7.x.cell 7) | (refine qd6 rfl rfl qb4 qc2 (s := .tmp 84) (x := .tmp 86) (N := 12) (L := hL) rfl o67 rfl (k := sL) o7.rd (by rfl) HHL.out uml omg (by have e1 := b6.size; have e2 := b7.size; omega) ?_; intro A8 c8 w8 hown8 hg8 hat8 hb8; have O8 := O4.out.below (Below.trans (Below.drew (Below.refl wc.heap.size wc)) ((b6.mono smp).trans ((b7.mono (by have e1 := b6.size; simp at e1; omega)).trans (hb8.mono smp)))); have l0 : w8.cell? ⟨w.heap.size, 0, none⟩ = some (.pointer (some ⟨q.d, 0, none⟩)) := O8.a.cell 0; have l1 : w8.cell? ⟨w.heap.size, 1, none⟩ = some (.int .i64 (f : Nat)) := O8.a.cell 1; have l2 : w8.cell? ⟨w.heap.size, 2, none⟩ = some (.int .i64 (m : Nat)) := O8.a.cell 2; have l7 : w8.cell? ⟨g, 7, none⟩ = some (.int .i64 s.number) := O8.x.cell 7) | ((go_at_call 156; (with_reducible refine (cput O8 A8 c8 hown8.rd.rb).mono ?_); rintro e w9 ⟨rfl, r9, k9⟩); have O9 := O8.rstep r9 k9; have m0 : w9.cell? ⟨w.heap.size, 0, none⟩ = some (.pointer (some ⟨q.d, 0, none⟩)) := O9.a.cell 0; have m1 : w9.cell? ⟨w.heap.size, 1, none⟩ = some (.int .i64 (f : Nat)) := O9.a.cell 1; have m2 : w9.cell? ⟨w.heap.size, 2, none⟩ = some (.int .i64 (m : Nat)) := O9.a.cell 2; have m7 : w9.cell? ⟨g, 7, none⟩ = some (.int .i64 s.number) := O9.x.cell 7; have HO9 := hdd O9; clear O9 r9 k9) | fail "no arm"); go_wp2_with fail; go_meet; exact ⟨rfl, HO9.out⟩
              · have e4 : P5 = P4 := H5.out.trans (qc9 h9); have hne : (P4.2 == 0) = false := by rw [beq_eq_false_iff_ne]; exact h9
                have O5 := hdd O4.out; rw [← e4] at hne O5 ⊢; clear e4 h9; go_wp2_with fail; go_meet; exact ⟨rfl, O5.out⟩
            case rest =>
              obtain ⟨rfl, o5⟩ := hcut; have O5 := hdd o5; clear o5 O4; have cfl5 := fun {W : World} (O : RSv w W base q P5.1 f m g w.heap.size fl ml fr mr s A n c load B0 n0 d0) => qz4 O.disk O.size
              go_upto_if 90 with fail; go_cut [7] (fun e wx => e = .int .i64 P6.2 ∧ RSv w wx base q P6.1 f m g w.heap.size fl ml fr mr s A n c load B0 n0 d0)
              case first =>
                by_cases h9 : P5.2 = 0
                · have e4 : P6 = qc1 P5.1 := H6.out.trans (qi3 h9); rw [← e4] at cfl5; have Y0 : wc.cell? ⟨w.heap.size, 0, none⟩ = some (.pointer (some ⟨q.d, 0, none⟩)) := O5.out.a.cell 0; rw [h9]; clear e4 h9; go_wp2_with (first | ((go_at_call 155; (with_reducible refine (cfl5 O5.out).mono ?_); rintro e w5 ⟨rfl, r5, k5⟩); have O6 := hdd (O5.out.rstep r5 k5); clear r5 k5) | fail "no arm"); go_meet; exact ⟨rfl, O6.out⟩
                · have e4 : P6 = P5 := H6.out.trans (qc9 h9); have hne : (P5.2 == 0) = false := by rw [beq_eq_false_iff_ne]; exact h9
                  have O6 := hdd O5.out; rw [← e4] at hne O6 ⊢; clear e4 h9; go_wp2_with fail; go_meet; exact ⟨rfl, O6.out⟩
              case rest =>
                obtain ⟨rfl, o6⟩ := hcut; have O6 := hdd o6; clear o6 O5 cfl5
                by_cases h9 : P6.2 = 0
                · have HE := hdd (show R = (P6.1, ⟨1, s.number + 1, load⟩, 0) from by rw [HR.out, if_neg (by rw [h9]; simp)]); have X9 := O6.out.x; have u6 : wc.cell? ⟨g, 6, none⟩ = some (.int .i64 (s.now : Nat)) := X9.cell 6; have u7 : wc.cell? ⟨g, 7, none⟩ = some (.int .i64 s.number) := X9.cell 7; have u8 : wc.cell? ⟨g, 8, none⟩ = some (.slice B0 n0 d0) := X9.cell 8; have v6 := X9.frozen 6; have v7 := X9.frozen 7; have v8 := X9.frozen 8; have l2 := X9.lt; have FIN := hdd (qe5.sets (o := 1) (oth := 1) X9 O6.out.disk hg O6.out.l hc uml rfl omg (s.number + 1)); have bF := hdd (O6.out.saved3 hg (.int .i64 1) (.int .i64 (s.number + 1)) (.slice A n c)); rw [h9]; clear h9 X9; go_wp2
                  try rw [Exit.noGoto_ret]
                  go_ret; rw [HE.out]; exact ⟨rfl, FIN.out.1, FIN.out.2, bF.out⟩
                · have HE := hdd (show R = (P6.1, s, P6.2) from by rw [HR.out, if_pos h9]); have hne : (P6.2 != 0) = true := by rw [bne_iff_ne]; exact h9
                  clear h9; go_wp2
                  try rw [Exit.noGoto_ret]
                  go_ret; rw [HE.out]; exact ⟨rfl, O6.out.disk, ⟨B0, n0, d0, O6.out.x, hc0, hcm0, O6.out.l0, hnw2⟩, O6.out.saved⟩
theorem rsave_any (hS : qe5 w base g q fl ml fr mr s) (hd : qb5 w base q D) (hs : base ≤ w.heap.size) (hg : base ≤ g) (hml : 5 ≤ ml) (hmr : 5 ≤ mr) (hfl : fl + ml ≤ D.many) (hfr : fr + mr ≤ D.many)
    (hl : qb8 w base ⟨A, n, c⟩ load) (hc : n ≤ c) (hcm : c ≤ maxLen) (hnb : -9223372036854775808 ≤ s.number ∧ s.number ≤ 9223372036854775807) (hw : D.waits.length < 800000) :
    Calls Tryz.prog 73 #[.pointer (some ⟨g, 0, none⟩), .slice A n c] w fun e w' => e = .returned (.int .i64 (qf5 D fl ml fr mr s load).2.2) ∧ qb5 w' base q (qf5 D fl ml fr mr s load).1 ∧ qe5 w' base g q fl ml fr mr (qf5 D fl ml fr mr s load).2.1 ∧ RSaved base q g w w' := by
  have hlen : load.length = n := hl.1.1
  by_cases h3 : 512 < load.length ∨ s.number = 9223372036854775807
  · have hR : qf5 D fl ml fr mr s load = (D, s, 3) := by unfold qf5; rw [if_pos h3]
    rw [hR]; have HS := hdd hS; have HD := hdd hd; obtain ⟨B0, n0, d0, h1, _⟩ := hS; have HX1 := hdd h1; have x7 : w.cell? ⟨g, 7, none⟩ = some (.int .i64 s.number) := h1.cell 7; have hcs : 512 < n ∨ (n ≤ 512 ∧ s.number = 9223372036854775807) := by rw [hlen] at h3; omega
    clear h1 h3 hd hl hR hlen; rcases hcs with q1 | ⟨q1, q2⟩
    · go_enter Tryz.func73, Tryz.ntmps73; go_wp2; go_ret; exact ⟨rfl, HD.out, HS.out, w, _, qd4.refl _ _ _, HX1.out, Keep.refl _ _, Below.refl _ _⟩
    · have q3 : (s.number == 9223372036854775807) = true := by rw [q2]; rfl
      clear q2; go_enter Tryz.func73, Tryz.ntmps73; go_wp2; go_ret; exact ⟨rfl, HD.out, HS.out, w, _, qd4.refl _ _ _, HX1.out, Keep.refl _ _, Below.refl _ _⟩
  · have hR : qf5 D fl ml fr mr s load = if (qo7 D (if s.now = 0 then fr else fl) (if s.now = 0 then mr else ml) (s.number + 1) load).2 ≠ 0 then ((qo7 D (if s.now = 0 then fr else fl) (if s.now = 0 then mr else ml) (s.number + 1) load).1, s, (qo7 D (if s.now = 0 then fr else fl) (if s.now = 0 then mr else ml) (s.number + 1) load).2)
      else ((qo7 D (if s.now = 0 then fr else fl) (if s.now = 0 then mr else ml) (s.number + 1) load).1, ⟨if s.now = 0 then 1 else 0, s.number + 1, load⟩, 0) := by unfold qf5; rw [if_neg h3]
    by_cases hn : s.now = 0
    · simp only [if_pos hn] at hR; exact vh0 _ 1 fr mr (.inr ⟨rfl, rfl, rfl, hn⟩) hR hS hd hs hg hmr hfr hl hc hcm omg omg hnb hw
    · simp only [if_neg hn] at hR; exact vh0 _ 0 fl ml (.inl ⟨rfl, rfl, rfl, hn⟩) hR hS hd hs hg hml hfl hl hc hcm omg omg hnb hw
end
end Go.Proofs.YtpmkpckldnnigaaGreat
