/- Parts: DigA, DigC, KeepA. -/
import Derived.Test.YtalmdccgpigppaaPr36
import Derived.Test.YtalmdccgpigppaaPr02
import Derived.Laws.BytesString
import Derived.Laws.IdiomStrings
import Derived.Test.YtalmdccgpigppaaPr39
import Derived.Test.YtalmdccgpigppaaPr41
import Derived.Test.YtalmdccgpigppaaPr46
import Derived.Test.YtalmdccgpigppaaPr12
import Derived.Deep.DeepCutAuto
import Derived.Deep.CutBlock
namespace Go.Proofs.Ytalmdccgpigppaa
open Go.RowKit

theorem fnv_top (H : Nat) (_ : H < 18446744073709551616) : wrap64 (IntKind.u64.wrap ((H : Int) * 2) / 2) = ((H % 9223372036854775808 : Nat) : Int) := by
  rw [IntKind.wrap_u64]; unfold wrap64; omega
set_option maxRecDepth 100000 in
theorem dbytes_any (A : Option Addr) (n c : Nat) (l : List UInt8) (w : World) (hl : RB w A n l) (hn : n ≤ maxLen) :
    Calls Try.prog 102 #[.slice A n c] w fun e w' => e = .returned (.int .i64 ((fnv l % 9223372036854775808 : Nat) : Int)) ∧ w = w' := by
  unfold maxLen at hn
  have hlen := Lib.hid hl.1
  generalize hz : fnv l = Z at *
  have Hz := Lib.hid hz
  clear hz
  go_enter Try.func102, Try.ntmps102
  go_wp2
  go_loop [3, 8] (fun h i => ∃ k H, k ≤ n ∧ i = .int .i64 (k : Nat) ∧ h = .int .u64 (H : Nat) ∧ Hid (H = fnv (l.take k)) ∧ H < 18446744073709551616) (fun _ i => n - (intOf i).toNat)
  case atStart => exact ⟨0, 14695981039346656037, Nat.zero_le _, rfl, rfl, rfl, by omega⟩
  case round =>
    obtain ⟨k, H, hk, rfl, rfl, hH, hlt⟩ := hrel
    by_cases hkn : k < n
    · obtain ⟨b, o, rfl, _, hc⟩ := hl.at_ hkn
      have hstep := Lib.hid (fnv_take l k (by rw [hlen.out]; exact hkn))
      have hy := byteAt_lt l k
      generalize byteAt l k = y at *
      have hxor := bits_xor_u64_nat H y hlt (by omega)
      have hX : H ^^^ y < 18446744073709551616 := Nat.xor_lt_two_pow (n := 64) hlt (by omega)
      have hnext : Hid (1099511628211 * (H ^^^ y) % 18446744073709551616 = fnv (l.take (k + 1))) := by
        show _ = _
        rw [hstep.out, hH.out]; rfl
      generalize H ^^^ y = X at *
      have hmul : IntKind.u64.wrap ((X : Int) * 1099511628211) = ((1099511628211 * X % 18446744073709551616 : Nat) : Int) := by rw [IntKind.wrap_u64]; omega
      have hlt2 : 1099511628211 * X % 18446744073709551616 < 18446744073709551616 := by omega
      generalize 1099511628211 * X % 18446744073709551616 = Y at *
      go_wp2
      go_round
      case rel => exact ⟨k + 1, Y, by omega, by go_num, by go_num, hnext, hlt2⟩
      case measure => simp [intOf]; omega
    · have hkk : k = n := by omega
      have hHZ : Hid (H = Z) := by
        show _ = _
        rw [hH.out, ← Hz.out, hkk, ← hlen.out, List.take_length]
      clear hkk
      go_wp2
      go_ret
      rw [← hHZ.out]
      exact ⟨ret_int (fnv_top H hlt), rfl⟩

end Go.Proofs.Ytalmdccgpigppaa
namespace Go.Proofs.Ytalmdccgpigppaa
open Go.RowKit
set_option linter.unusedVariables false
set_option linter.unusedSimpArgs false
theorem digof_ok (x : PA) (p : PV) (w : World) (h : ProgRd w x p) (hw : ProgWf p) (hm : mayB p = true) :
    Calls Try.prog 73 #[.agg #[.slice x.A1 x.n1 x.c1, .slice x.A2 x.n2 x.c2, .int .i64 p.regs, .slice x.A3 x.n3 x.c3, .slice x.A4 x.n4 x.c4]] w fun e w' => e = .returned (.tuple #[.int .i64 (fnv (progBs p) % 9223372036854775808 : Nat), .int .i64 0]) ∧ Below w.heap.size w w' := by
  have he := fun w h => encode_ok x p w h hw hm
  have hd := fun (A : Option Addr) (n c : Nat) (w : World) hl hn => dbytes_any A n c (progBs p) w hl hn
  generalize progBs p = L at *
  generalize fnv L % 9223372036854775808 = z at *
  go_enter Try.func73, Try.ntmps73
  go_wp2_with (first
    | ((go_at_call 101; (with_reducible refine (he _ (h.below ((Below.refl _ _).alloc (Nat.le_refl _) _) (Nat.le_refl _))).mono ?_); rintro e w1 ⟨A1, N1, c1, rfl, own1, hb1⟩); have hcp := own1.cap; have hN : N1 ≤ maxLen := (by omega); replace hb1 := below_then' (a := w) (B := w.heap.size) (by (repeat' (first | (with_reducible exact Below.refl _ _) | (with_reducible assumption) | (with_reducible refine Below.drew ?_) | (with_reducible refine below_drewN ?_ _) | (with_reducible refine Below.alloc ?_ ?_ _) | (with_reducible refine Below.setCell ?_ ?_ _) | omega | (simp; done) | (simp; omega)))) hb1 (by first | omega | (simp; done) | (simp; omega)); have hb1s := hb1.size)
    | (go_at_call 102; (with_reducible refine (hd _ _ _ _ own1.rd.rb hN).mono ?_); rintro e w2 ⟨rfl, rfl⟩))
  go_ret2
  exact ⟨rfl, (by (repeat' (first | (with_reducible exact Below.refl _ _) | (with_reducible assumption) | (with_reducible refine Below.drew ?_) | (with_reducible refine below_drewN ?_ _) | (with_reducible refine Below.alloc ?_ ?_ _) | (with_reducible refine Below.setCell ?_ ?_ _) | omega | (simp; done) | (simp; omega))))⟩

end Go.Proofs.Ytalmdccgpigppaa
namespace Go.Proofs.Ytalmdccgpigppaa
open Go.RowKit
set_option linter.unusedVariables false
set_option linter.unusedSimpArgs false
def progC (x : PA) (p : PV) : List Value := [.slice x.A1 x.n1 x.c1, .slice x.A2 x.n2 x.c2, .int .i64 p.regs, .slice x.A3 x.n3 x.c3, .slice x.A4 x.n4 x.c4]
theorem verifyB_may {p : PV} (h : verifyB p = true) : mayB p = true := by
  unfold verifyB at h
  rw [Bool.and_eq_true] at h
  exact h.1
section
variable {w w' : World} {base ga gb fl ml fr mr : Nat} {q : DiskP} {D : DiskV} {x : PA} {p : PV}
theorem keep_set4 {g : Nat} {cs : List Value} (hb : Blk w g 156 cs) (hg : base ≤ g) (hs : base ≤ w.heap.size) (u7 u8 u9 u10 : Value) :
    Step [156] base q w ((((w.setCell ⟨g, 7, none⟩ u7).setCell ⟨g, 8, none⟩ u8).setCell ⟨g, 9, none⟩ u9).setCell ⟨g, 10, none⟩ u10) ∧
    Blk ((((w.setCell ⟨g, 7, none⟩ u7).setCell ⟨g, 8, none⟩ u8).setCell ⟨g, 9, none⟩ u9).setCell ⟨g, 10, none⟩ u10) g 156 ((((cs.set 7 u7).set 8 u8).set 9 u9).set 10 u10) ∧
    (DiskS w base q D → DiskS ((((w.setCell ⟨g, 7, none⟩ u7).setCell ⟨g, 8, none⟩ u8).setCell ⟨g, 9, none⟩ u9).setCell ⟨g, 10, none⟩ u10) base q D) := by
  have one : ∀ {W : World} {cs : List Value} (i : Nat) (u : Value), Blk W g 156 cs → base ≤ W.heap.size → Step [156] base q W (W.setCell ⟨g, i, none⟩ u) := fun i u b s => Step.one (grown_setCell _) b (List.mem_cons_self ..) hg s
  have b1 := hb.set_ 7 u7
  have s1 := one 7 u7 hb hs
  have b2 := b1.set_ 8 u8
  have s2 := one 8 u8 b1 (by have := s1.size; omega)
  have b3 := b2.set_ 9 u9
  have s3 := one 9 u9 b2 (by have := s1.size; have := s2.size; omega)
  have s4 := one 10 u10 b3 (by have := s1.size; have := s2.size; have := s3.size; omega)
  exact ⟨((s1.trans s2).trans s3).trans s4, b3.set_ 10 u10, fun d => (((d.keepSet hb 7 u7).keepSet b1 8 u8).keepSet b2 9 u9).keepSet b3 10 u10⟩
set_option maxRecDepth 100000 in
set_option maxHeartbeats 20000000 in
theorem kopen_any (h : ProgAt w base x p) (hw : ProgWf p) (hv : verifyB p = true) (hd : DiskS w base q D) (hs : base ≤ w.heap.size) (hal : AreaAt w ga q.d fl ml) (har : AreaAt w gb q.d fr mr) (hml : 5 ≤ ml) (hmr : 5 ≤ mr) (hfl : fl + ml ≤ D.many) (hfr : fr + mr ≤ D.many) :
    Calls Try.prog 40 #[.pointer (some ⟨ga, 0, none⟩), .pointer (some ⟨gb, 0, none⟩), .agg #[.slice x.A1 x.n1 x.c1, .slice x.A2 x.n2 x.c2, .int .i64 p.regs, .slice x.A3 x.n3 x.c3, .slice x.A4 x.n4 x.c4]] w (KOPost w base q ga gb x p ((fnv (progBs p) % 9223372036854775808 : Nat) : Int) (kOpenV D fl ml fr mr p ((fnv (progBs p) % 9223372036854775808 : Nat) : Int))) := by
  have hvr := fun W h => vright_any x p W h hw
  rw [hv] at hvr
  have hdg := fun W h => digof_ok x p W h hw (verifyB_may hv)
  have hR : kOpenV D fl ml fr mr p ((fnv (progBs p) % 9223372036854775808 : Nat) : Int) = if (openSV D fl ml fr mr).2.2 ≠ 0 then ((openSV D fl ml fr mr).1, noKeep, (openSV D fl ml fr mr).2.2)
      else if (loadSV (openSV D fl ml fr mr).2.1).2.2 = false then ((openSV D fl ml fr mr).1, ⟨(openSV D fl ml fr mr).2.1, noSnap, false⟩, 0)
      else if (stRead p (loadSV (openSV D fl ml fr mr).2.1).1).2 ≠ 0 then ((openSV D fl ml fr mr).1, noKeep, 53)
      else if (stRead p (loadSV (openSV D fl ml fr mr).2.1).1).1.hash ≠ ((fnv (progBs p) % 9223372036854775808 : Nat) : Int) then ((openSV D fl ml fr mr).1, noKeep, 42)
      else ((openSV D fl ml fr mr).1, ⟨(openSV D fl ml fr mr).2.1, (stRead p (loadSV (openSV D fl ml fr mr).2.1).1).1, true⟩, 0) := by
    unfold kOpenV
    rw [if_neg (by rw [hv]; simp)]
    rfl
  have hop := fun {W : World} (d : DiskS W base q D) (b : base ≤ W.heap.size) (a : AreaAt W ga q.d fl ml) (r : AreaAt W gb q.d fr mr) => sopen_any d b a r hml hmr hfl hfr
  generalize openSV D fl ml fr mr = O at *
  obtain ⟨D', s', z⟩ := O
  simp only at hR hop
  generalize kOpenV D fl ml fr mr p ((fnv (progBs p) % 9223372036854775808 : Nat) : Int) = R at *
  generalize ((fnv (progBs p) % 9223372036854775808 : Nat) : Int) = hash at *
  have bA : Below w.heap.size w (w.alloc (.cells #[.slice x.A1 x.n1 x.c1, .slice x.A2 x.n2 x.c2, .int .i64 p.regs, .slice x.A3 x.n3 x.c3, .slice x.A4 x.n4 x.c4] 93)) := (Below.refl _ _).alloc (Nat.le_refl _) _
  have X0 := Lib.hid (show Blk (w.alloc (.cells #[.slice x.A1 x.n1 x.c1, .slice x.A2 x.n2 x.c2, .int .i64 p.regs, .slice x.A3 x.n3 x.c3, .slice x.A4 x.n4 x.c4] 93)) w.heap.size 93 (progC x p) from Blk.top _ rfl rfl)
  have P0 := Lib.hid (h.below bA)
  have D0 := Lib.hid (hd.below bA)
  have AL0 := Lib.hid (show AreaAt _ ga q.d fl ml from Blk.below hal bA (Blk.lt hal))
  have AR0 := Lib.hid (show AreaAt _ gb q.d fr mr from Blk.below har bA (Blk.lt har))
  have ST0 := Lib.hid (show Step mutD base q w _ from Step.of_below bA hs)
  have s0 := bA.size
  have HR := Lib.hid hR
  clear hR bA h hd hal har hw hv
  go_enter Try.func40, Try.ntmps40
  go_upto_region 4 with (first
    | ((go_at_call 72; (with_reducible refine (hvr _ P0.out.rd).mono ?_); rintro e w1 ⟨rfl, hb1⟩); have X1 := Lib.hid (X0.out.below hb1 X0.out.lt); have P1 := Lib.hid (P0.out.below hb1); have D1 := Lib.hid (D0.out.below hb1); have AL1 := Lib.hid (show AreaAt w1 ga q.d fl ml from Blk.below AL0.out hb1 (Blk.lt AL0.out)); have AR1 := Lib.hid (show AreaAt w1 gb q.d fr mr from Blk.below AR0.out hb1 (Blk.lt AR0.out)); have s1 := hb1.size; have ST1 := Lib.hid (ST0.out.then_below (hb1.mono s0) hs); clear hb1)
    | ((go_at_call 11; (with_reducible refine (hop D1.out (Nat.le_trans hs (Nat.le_trans s0 s1)) AL1.out AR1.out).mono ?_); rintro e w2 ⟨Q2, rfl, n2, y2, h2, st2⟩); have X2 := Lib.hid (D1.out.blk X1.out st2.tch (by decide)); have P2 := Lib.hid (P1.out.step D1.out st2 (by decide) (by decide) (by decide)); have D2 := Lib.hid h2; have ST2 := Lib.hid (ST1.out.trans st2); have s2 := st2.size; clear h2 st2)
    | fail "no arm")
  clear hop hvr AL0 AR0 AL1 AR1 X0 P0 D0 ST0 X1 P1 D1 ST1
  by_cases hz : z = 0
  · subst hz
    obtain ⟨gs, rfl, hgs, hsl⟩ := y2 rfl
    have S2 := Lib.hid hsl
    clear y2 n2 hsl
    have HR2 := Lib.hid (HR.out.trans (if_neg (by simp)))
    clear HR
    obtain ⟨x20, x21, x22, x23, x24⟩ := blk5 X2.out
    go_upto_region 11 with (first
      | ((go_at_call 73; (with_reducible refine (hdg _ P2.out.rd).mono ?_); rintro e w3 ⟨rfl, hb3⟩); have X3 := Lib.hid (X2.out.below hb3 X2.out.lt); have P3 := Lib.hid (P2.out.below hb3); have D3 := Lib.hid (D2.out.below hb3); have S3 := Lib.hid (S2.out.below hb3); have s3 := hb3.size; have ST3 := Lib.hid (ST2.out.then_below (hb3.mono (Nat.le_trans s0 (Nat.le_trans s1 s2))) hs); obtain ⟨x30, x31, x32, x33, x34⟩ := blk5 X3.out; clear hb3)
      | ((go_at_call 15; (with_reducible refine (load_any (S3.out.below (by (repeat' (first | (with_reducible exact Below.refl _ _) | (with_reducible assumption) | (with_reducible refine Below.drew ?_) | (with_reducible refine below_drewN ?_ _) | (with_reducible refine Below.alloc ?_ ?_ _) | (with_reducible refine Below.setCell ?_ ?_ _) | omega | (simp; done) | (simp; omega)))))).mono ?_); rintro e w5 ⟨B5, m5, c5, rfl, ob5, hb5⟩))
      | fail "no arm")
    have b35 : Below w3.heap.size w3 w5 := below_then' (a := w3) (B := w3.heap.size) (by (repeat' (first | (with_reducible exact Below.refl _ _) | (with_reducible assumption) | (with_reducible refine Below.drew ?_) | (with_reducible refine below_drewN ?_ _) | (with_reducible refine Below.alloc ?_ ?_ _) | (with_reducible refine Below.setCell ?_ ?_ _) | omega | (simp; done) | (simp; omega)))) hb5 (by first | omega | (simp; done) | (simp; omega))
    have K5 := Lib.hid (Blk.below (w' := w5) (g := w3.heap.size) (t := 156) (cs := keepC gs x p hash noSnap none 0 0 false) (Blk.top _ rfl rfl) hb5 (by first | omega | (simp; done) | (simp; omega)))
    have OB5 := Lib.hid ob5
    have X5 := Lib.hid (X3.out.below b35 X3.out.lt)
    have P5 := Lib.hid (P3.out.below b35)
    have D5 := Lib.hid (D3.out.below b35)
    have S5 := Lib.hid (S3.out.below b35)
    have s5 := b35.size
    have ST5 := Lib.hid (ST3.out.then_below (b35.mono (Nat.le_trans s0 (Nat.le_trans s1 (Nat.le_trans s2 s3)))) hs)
    obtain ⟨x50, x51, x52, x53, x54⟩ := blk5 X5.out
    have g5 := K5.out.lt
    clear ob5 hb5 b35 X3 P3 D3 S3 ST3 X2 P2 D2 S2 ST2 hdg
    have g3 : w2.heap.size ≤ w3.heap.size := s3
    have hwg : w.heap.size ≤ w3.heap.size := Nat.le_trans s0 (Nat.le_trans s1 (Nat.le_trans s2 s3))
    generalize w3.heap.size = gk at *
    generalize loadSV s' = L at *
    obtain ⟨lb, ln, lh⟩ := L
    simp only at HR2
    cases lh with
    | false =>
      have HR3 := Lib.hid (HR2.out.trans (if_pos rfl))
      clear HR2
      go_wp2_with fail
      go_ret2
      rw [HR3.out]
      exact ⟨_, rfl, fun e => absurd rfl e, fun _ => ⟨_, rfl, hwg, gs, none, 0, 0, K5.out, by omega, by omega, S5.out, IntsAt.nil _ _, Nat.le_refl _, by unfold maxLen; omega, P5.out⟩, D5.out, ST5.out⟩
    | true =>
      have HR3 := Lib.hid (HR2.out.trans (if_neg (by simp)))
      clear HR2
      have cp5 := OB5.out.cap
      have hrd := fun W (h : ProgRd W x p) hl => stateread_own x p B5 m5 c5 lb W h hl cp5.1 cp5.2
      generalize stRead p lb = Sr at *
      obtain ⟨⟨st, sh, sc⟩, er⟩ := Sr
      simp only at HR3
      clear cp5
      go_upto_region 14 with (first
        | ((go_at_call 74; (with_reducible refine (hrd _ P5.out.rd OB5.out.rd.rb).mono ?_); rintro e w6 ⟨A6, n6, c6, rfl, ⟨b6, own6⟩, hb6⟩))
        | fail "no arm")
      have b57 : Below w5.heap.size w5 (w6.alloc (.cells #[.int .i64 st, .int .i64 sh, .slice A6 n6 c6] 98)) := hb6.alloc hb6.size _
      have V7 := Lib.hid (show Blk (w6.alloc (.cells #[.int .i64 st, .int .i64 sh, .slice A6 n6 c6] 98)) w6.heap.size 98 [.int .i64 st, .int .i64 sh, .slice A6 n6 c6] from Blk.top _ rfl rfl)
      have K7 := Lib.hid (K5.out.below b57 K5.out.lt)
      have P7 := Lib.hid (P5.out.below b57)
      have D7 := Lib.hid (D5.out.below b57)
      have S7 := Lib.hid (S5.out.below b57)
      have I7 := Lib.hid (own6.below (b := w6.heap.size) ((Below.refl _ _).alloc (Nat.le_refl _) _) (Nat.le_refl _) : Ow iv (w6.alloc (.cells #[.int .i64 st, .int .i64 sh, .slice A6 n6 c6] 98)) b6 3 A6 n6 c6 sc)
      have s7 := b57.size
      have hbw5 : base ≤ w5.heap.size := Nat.le_trans hs (Nat.le_trans hwg (Nat.le_of_lt g5))
      have ST7 := Lib.hid (ST5.out.then_below (b57.mono (Nat.le_trans hwg (Nat.le_of_lt g5))) hs)
      have hgx : w6.heap.size < (w6.alloc (.cells #[.int .i64 st, .int .i64 sh, .slice A6 n6 c6] 98)).heap.size := V7.out.lt
      clear b57 own6 hb6 hrd K5 P5 D5 S5 ST5 X5 x50 x51 x52 x53 x54 OB5
      generalize (w6.alloc (.cells #[.int .i64 st, .int .i64 sh, .slice A6 n6 c6] 98)) = w7 at *
      generalize w6.heap.size = gx at *
      obtain ⟨v70, v71, v72⟩ := blk3 V7.out
      by_cases he : er = 0
      · subst he
        have HR4 := Lib.hid (HR3.out.trans (if_neg (by simp)))
        clear HR3
        by_cases hh : sh = hash
        · subst hh
          have HR5 := Lib.hid (HR4.out.trans (if_neg (by simp)))
          clear HR4
          have g7 : gk < w7.heap.size := K7.out.lt
          have f73 := K7.out.frozen 3
          have f74 := K7.out.frozen 4
          have f77 := K7.out.frozen 7
          have f78 := K7.out.frozen 8
          have f79 := K7.out.frozen 9
          have f710 := K7.out.frozen 10
          obtain ⟨k0, k7, k8, k9, k10⟩ := (show w7.cell? ⟨gk, 0, none⟩ = some (.pointer (some ⟨gs, 0, none⟩)) ∧ w7.cell? ⟨gk, 7, none⟩ = some (.int .i64 0) ∧ w7.cell? ⟨gk, 8, none⟩ = some (.int .i64 0) ∧ w7.cell? ⟨gk, 9, none⟩ = some (.slice none 0 0) ∧ w7.cell? ⟨gk, 10, none⟩ = some (.bool false) from ⟨K7.out.cell 0, K7.out.cell 7, K7.out.cell 8, K7.out.cell 9, K7.out.cell 10⟩)
          go_wp2_with fail
          go_ret2
          rw [HR5.out]
          obtain ⟨t8, b8, d8⟩ := keep_set4 (q := q) (D := D') K7.out (Nat.le_trans hs hwg) (Nat.le_trans hbw5 s7) (.int .i64 st) (.int .i64 sh) (.slice A6 n6 c6) (.bool true)
          have cp7 := I7.out.cap
          exact ⟨_, rfl, fun e => absurd rfl e, fun _ => ⟨_, rfl, hwg, gs, A6, n6, c6, b8, by omega, by omega, S7.out.stepM D7.out t8 (by decide) (by decide), (IntsAt.of_ow I7.out).step D7.out t8 (by decide), cp7.1, cp7.2, P7.out.step D7.out t8 (by decide) (by decide) (by decide)⟩, d8 D7.out, ST7.out.then_below ((((((Below.refl _ _).setCell hwg _).setCell hwg _).setCell hwg _).setCell hwg _)) hs⟩
        · have hhb : (sh != hash) = true := by rw [bne_iff_ne]; exact hh
          have HR5 := Lib.hid (HR4.out.trans (if_pos hh))
          clear HR4 hh
          go_wp2_with fail
          go_ret2
          rw [HR5.out]
          exact KOPost.no (by decide) D7.out ST7.out
      · have heb : ((er : Int) != 0) = true := by rw [bne_iff_ne]; omega
        have HR4 := Lib.hid (HR3.out.trans (if_pos (by simpa using he)))
        clear HR3 he
        go_wp2_with fail
        go_ret2
        rw [HR4.out]
        exact KOPost.no (by decide) D7.out ST7.out
  · have hzb : (z != 0) = true := by rw [bne_iff_ne]; exact hz
    have HR2 := Lib.hid (HR.out.trans (if_pos hz))
    obtain rfl := n2 hz
    have HZ := Lib.hid hz
    clear HR hz n2 y2
    go_wp2_with fail
    go_ret2
    rw [HR2.out]
    exact KOPost.no HZ.out D2.out ST2.out
end
end Go.Proofs.Ytalmdccgpigppaa
