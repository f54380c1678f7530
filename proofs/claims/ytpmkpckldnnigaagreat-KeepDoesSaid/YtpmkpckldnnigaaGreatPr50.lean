/- Parts: RVerA. -/
import Derived.Test.YtpmkpckldnnigaaGreatPr02
import Derived.Test.YtpmkpckldnnigaaGreatPr23
import Derived.Test.YtpmkpckldnnigaaGreatPr35
import Derived.Test.YtpmkpckldnnigaaGreatPr04
set_option linter.unusedVariables false
set_option linter.unusedSimpArgs false
set_option maxRecDepth 100000
set_option maxHeartbeats 40000000
namespace Go.Proofs.YtpmkpckldnnigaaGreat
open Go.RowKit
section
variable {x : PA} {p : PV} {w : World} {i : Nat}
def qv6 (x : PA) (p : PV) (n : Nat) : Prop := ∀ (reg : Int) (w : World), qc8 w x p → Calls Tryz.prog 66 #[.agg #[.slice x.A1 x.n1 x.c1, .slice x.A2 x.n2 x.c2, .int .i64 p.regs, .slice x.A3 x.n3 x.c3, .slice x.A4 x.n4 x.c4], .int .i64 (n : Nat), .int .i64 reg] w fun e w' => e = .returned (.int .i64 (ql7 p n reg)) ∧ Below w.heap.size w w'
theorem rtaken_of (hk : qv6 x p i) (h : qc8 w x p) (r : Int) :
    Calls Tryz.prog 144 #[.agg #[.slice x.A1 x.n1 x.c1, .slice x.A2 x.n2 x.c2, .int .i64 p.regs, .slice x.A3 x.n3 x.c3, .slice x.A4 x.n4 x.c4], .int .i64 (i : Nat), .int .i64 r] w fun e w' => e = .returned (.int .i64 (qa8 p i r)) ∧ Below w.heap.size w w' := by
  unfold qa8
  by_cases h0 : r < 0
  · rw [if_pos (.inl h0)]; go_enter Tryz.func144, Tryz.ntmps144; go_wp2; go_ret; exact ⟨rfl, gwn⟩
  by_cases h1 : p.regs ≤ r
  · rw [if_pos (.inr h1)]; go_enter Tryz.func144, Tryz.ntmps144; go_wp2; go_ret; exact ⟨rfl, gwn⟩
  rw [if_neg omg]; have hkk := hk r; generalize ql7 p i r = kr at *; go_enter Tryz.func144, Tryz.ntmps144; go_wp2_with (first | ((go_at_call 66; (with_reducible refine (hkk _ (h.below (b := w.heap.size) gwn nlr)).mono ?_); rintro e w1 ⟨rfl, hb1⟩)) | fail "no arm"); go_ret; exact ⟨rfl, qa0 (a := w) (B := w.heap.size) gwn hb1 szz⟩
theorem rgives_of (hk : qv6 x p i) (h : qc8 w x p) (hi : i < p.code.length) :
    Calls Tryz.prog 65 #[.agg #[.slice x.A1 x.n1 x.c1, .slice x.A2 x.n2 x.c2, .int .i64 p.regs, .slice x.A3 x.n3 x.c3, .slice x.A4 x.n4 x.c4], .int .i64 (i : Nat)] w fun e w' => e = .returned (.int .i64 (qf6 p (qa8 p i) (qa1 p.code i))) ∧ Below w.heap.size w w' := by
  have hl4 := h.r4.1; have hl3 := h.r3.1; have hl1 := h.r1.1; have hi4 : i < x.n4 := omg; obtain ⟨b, o, y, hA, hb, hy, hc⟩ := h.r4.at_ qk8 omg hi4; rw [qk4 hy]; obtain ⟨op, ya, yb, yc, yk⟩ := y; have h0 : w.cell? ⟨b, o + i * 5, none⟩ = some (.int .i64 op) := hc 0 omg; have h1 : w.cell? ⟨b, o + i * 5 + 1, none⟩ = some (.int .i64 ya) := hc 1 omg; have h2 : w.cell? ⟨b, o + i * 5 + 2, none⟩ = some (.int .i64 yb) := hc 2 omg; have h3 : w.cell? ⟨b, o + i * 5 + 3, none⟩ = some (.int .i64 yc) := hc 3 omg; have h4 : w.cell? ⟨b, o + i * 5 + 4, none⟩ = some (.int .i64 yk) := hc 4 omg; have htk := fun (r : Int) (W : World) (h : qc8 W x p) => rtaken_of hk h r
  have hsg := fun W => rsign_any op W
  have HP := hdd h; clear hc hy hk; have H0 := hdd h0
  by_cases hs : qo3 op = true
  · rw [show sgn3 op = (qn1 op, qj0 op, true) from by unfold sgn3; rw [if_pos hs]] at hsg; rw [show qf6 p (qa8 p i) ⟨op, ya, yb, yc, yk⟩ = qj0 op from by unfold qf6; rw [if_pos hs]]; generalize qn1 op = si at *; generalize qj0 op = so at *; clear hs; simp only [hA]; go_enter Tryz.func65, Tryz.ntmps65; go_wp2_with (first | ((go_at_call 143; (with_reducible refine (hsg _).mono ?_); rintro e w1 ⟨rfl, hb1⟩); have hp1 := Blk.below (w' := w1) (g := w.heap.size) (t := 27) (cs := [.slice (x.A1) x.n1 x.c1, .slice x.A2 x.n2 x.c2, .int .i64 p.regs, .slice (x.A3) x.n3 x.c3, .slice (some ⟨b, o, none⟩) x.n4 x.c4]) blq hb1 szz; have hx1 := Blk.below (w' := w1) (g := w.heap.size + 1) (t := 133) (cs := [.int .i64 op, .int .i64 ya, .int .i64 yb, .int .i64 yc, .int .i64 (yk)]) blq hb1 szz; obtain ⟨p0, p1, p2, p3, p4⟩ := blk5 hp1; obtain ⟨x0, x1, x2, x3, x4⟩ := blk5 hx1; have b01 : Below w.heap.size w w1 := qa0 (a := w) (B := w.heap.size) gwn hb1 szz; skip) | ((go_at_call 144; (with_reducible refine (ht _ (HP.out.below b01 nlr)).mono ?_); rintro e w2 ⟨rfl, hb2⟩); have b02 : Below w.heap.size w w2 := b01.trans (hb2.mono b01.size)) | fail "no arm"); go_ret; exact ⟨rfl, by first | exact b02 | exact b01 | exact gwn⟩
  have hs' : qo3 op = false := by cases q : qo3 op with | false => rfl | true => exact absurd q hs
  have hsn : ¬ (5 ≤ op ∧ op ≤ 20) := by unfold qo3 at hs'; rw [decide_eq_false_iff_not] at hs'; exact hs'
  rw [show sgn3 op = (0, 0, false) from by unfold sgn3; rw [hs']; rfl] at hsg; have hgv : qf6 p (qa8 p i) ⟨op, ya, yb, yc, yk⟩ = if op ≤ 2 then op else if op = 3 then qa8 p i yb else if op = 27 then qa8 p i yc else if op = 21 ∧ 0 ≤ yk ∧ yk < (p.cells.length : Int) then (qf2 p.cells yk.toNat).1 else if op = 28 ∧ 0 ≤ yk ∧ yk < (p.ins.length : Int) then kAt p.ins yk else 0 := by
    unfold qf6; rw [hs']; rfl
  rw [hgv, hl3, hl1]; clear hgv hs hs'
  by_cases o2 : op ≤ 2
  · rw [if_pos o2]; simp only [hA]; go_enter Tryz.func65, Tryz.ntmps65; go_wp2_with (first | ((go_at_call 143; (with_reducible refine (hsg _).mono ?_); rintro e w1 ⟨rfl, hb1⟩); have hp1 := Blk.below (w' := w1) (g := w.heap.size) (t := 27) (cs := [.slice (x.A1) x.n1 x.c1, .slice x.A2 x.n2 x.c2, .int .i64 p.regs, .slice (x.A3) x.n3 x.c3, .slice (some ⟨b, o, none⟩) x.n4 x.c4]) blq hb1 szz; have hx1 := Blk.below (w' := w1) (g := w.heap.size + 1) (t := 133) (cs := [.int .i64 op, .int .i64 ya, .int .i64 yb, .int .i64 yc, .int .i64 (yk)]) blq hb1 szz; obtain ⟨p0, p1, p2, p3, p4⟩ := blk5 hp1; obtain ⟨x0, x1, x2, x3, x4⟩ := blk5 hx1; have b01 : Below w.heap.size w w1 := qa0 (a := w) (B := w.heap.size) gwn hb1 szz; skip) | ((go_at_call 144; (with_reducible refine (ht _ (HP.out.below b01 nlr)).mono ?_); rintro e w2 ⟨rfl, hb2⟩); have b02 : Below w.heap.size w w2 := b01.trans (hb2.mono b01.size)) | fail "no arm"); go_ret; exact ⟨rfl, by first | exact b02 | exact b01 | exact gwn⟩
  rw [if_neg o2]
  by_cases o3 : op = 3
  · rw [if_pos o3]; have b3 : (op == 3) = true := by rw [o3]; rfl
    clear o3; have ht := htk yb; simp only [hA] at ht; generalize qa8 p i yb = tv at *; simp only [hA]; go_enter Tryz.func65, Tryz.ntmps65; go_wp2_with (first | ((go_at_call 143; (with_reducible refine (hsg _).mono ?_); rintro e w1 ⟨rfl, hb1⟩); have hp1 := Blk.below (w' := w1) (g := w.heap.size) (t := 27) (cs := [.slice (x.A1) x.n1 x.c1, .slice x.A2 x.n2 x.c2, .int .i64 p.regs, .slice (x.A3) x.n3 x.c3, .slice (some ⟨b, o, none⟩) x.n4 x.c4]) blq hb1 szz; have hx1 := Blk.below (w' := w1) (g := w.heap.size + 1) (t := 133) (cs := [.int .i64 op, .int .i64 ya, .int .i64 yb, .int .i64 yc, .int .i64 (yk)]) blq hb1 szz; obtain ⟨p0, p1, p2, p3, p4⟩ := blk5 hp1; obtain ⟨x0, x1, x2, x3, x4⟩ := blk5 hx1; have b01 : Below w.heap.size w w1 := qa0 (a := w) (B := w.heap.size) gwn hb1 szz; skip) | ((go_at_call 144; (with_reducible refine (ht _ (HP.out.below b01 nlr)).mono ?_); rintro e w2 ⟨rfl, hb2⟩); have b02 : Below w.heap.size w w2 := b01.trans (hb2.mono b01.size)) | fail "no arm"); go_ret; exact ⟨rfl, by first | exact b02 | exact b01 | exact gwn⟩
  rw [if_neg o3]; have b3 : (op == 3) = false := by rw [beq_eq_false_iff_ne]; exact o3
  by_cases o27 : op = 27
  · rw [if_pos o27]; have b27 : (op == 27) = true := by rw [o27]; rfl
    clear o27; have ht := htk yc; simp only [hA] at ht; generalize qa8 p i yc = tv at *; simp only [hA]; go_enter Tryz.func65, Tryz.ntmps65; go_wp2_with (first | ((go_at_call 143; (with_reducible refine (hsg _).mono ?_); rintro e w1 ⟨rfl, hb1⟩); have hp1 := Blk.below (w' := w1) (g := w.heap.size) (t := 27) (cs := [.slice (x.A1) x.n1 x.c1, .slice x.A2 x.n2 x.c2, .int .i64 p.regs, .slice (x.A3) x.n3 x.c3, .slice (some ⟨b, o, none⟩) x.n4 x.c4]) blq hb1 szz; have hx1 := Blk.below (w' := w1) (g := w.heap.size + 1) (t := 133) (cs := [.int .i64 op, .int .i64 ya, .int .i64 yb, .int .i64 yc, .int .i64 (yk)]) blq hb1 szz; obtain ⟨p0, p1, p2, p3, p4⟩ := blk5 hp1; obtain ⟨x0, x1, x2, x3, x4⟩ := blk5 hx1; have b01 : Below w.heap.size w w1 := qa0 (a := w) (B := w.heap.size) gwn hb1 szz; skip) | ((go_at_call 144; (with_reducible refine (ht _ (HP.out.below b01 nlr)).mono ?_); rintro e w2 ⟨rfl, hb2⟩); have b02 : Below w.heap.size w w2 := b01.trans (hb2.mono b01.size)) | fail "no arm"); go_ret; exact ⟨rfl, by first | exact b02 | exact b01 | exact gwn⟩
  rw [if_neg o27]; have b27 : (op == 27) = false := by rw [beq_eq_false_iff_ne]; exact o27
  by_cases o21 : op = 21
  · have bq : (op == 21) = true := by rw [o21]; rfl
    have b28 : (op == 28) = false := by rw [o21]; rfl
    by_cases k0 : 0 ≤ yk
    · by_cases k1 : yk < (x.n3 : Int)
      · rw [if_pos ⟨by assumption, k0, k1⟩]; obtain ⟨k, rfl⟩ : ∃ k : Nat, yk = k := ⟨yk.toNat, omg⟩; obtain ⟨b3, o3, y3, hA3, hb3, hy3, hc3⟩ := h.r3.at_ qj2 omg (show k < x.n3 by omega); have c30 : w.cell? ⟨b3, o3 + k * 2, none⟩ = some (.int .i64 y3.1) := hc3 0 omg; rw [Int.toNat_natCast, qk9 hy3]; have HA3 := hdd hA3; clear hc3 hy3; simp only [hA3]; clear o21; simp only [hA]; go_enter Tryz.func65, Tryz.ntmps65; go_wp2_with (first | ((go_at_call 143; (with_reducible refine (hsg _).mono ?_); rintro e w1 ⟨rfl, hb1⟩); have hp1 := Blk.below (w' := w1) (g := w.heap.size) (t := 27) (cs := [.slice (x.A1) x.n1 x.c1, .slice x.A2 x.n2 x.c2, .int .i64 p.regs, .slice (some ⟨b3, o3, none⟩) x.n3 x.c3, .slice (some ⟨b, o, none⟩) x.n4 x.c4]) blq hb1 szz; have hx1 := Blk.below (w' := w1) (g := w.heap.size + 1) (t := 133) (cs := [.int .i64 op, .int .i64 ya, .int .i64 yb, .int .i64 yc, .int .i64 ((k : Nat))]) blq hb1 szz; obtain ⟨p0, p1, p2, p3, p4⟩ := blk5 hp1; obtain ⟨x0, x1, x2, x3, x4⟩ := blk5 hx1; have b01 : Below w.heap.size w w1 := qa0 (a := w) (B := w.heap.size) gwn hb1 szz; have c31 : w1.cell? ⟨b3, o3 + k * 2, none⟩ = some (.int .i64 y3.1) := (b01.cell (p := ⟨b3, o3 + k * 2, none⟩) hb3).trans c30) | ((go_at_call 144; (with_reducible refine (ht _ (HP.out.below b01 nlr)).mono ?_); rintro e w2 ⟨rfl, hb2⟩); have b02 : Below w.heap.size w w2 := b01.trans (hb2.mono b01.size)) | fail "no arm"); go_ret; exact ⟨rfl, by first | exact b02 | exact b01 | exact gwn⟩
      · rw [if_neg omg, if_neg omg]; clear o21; simp only [hA]; go_enter Tryz.func65, Tryz.ntmps65; go_wp2_with (first | ((go_at_call 143; (with_reducible refine (hsg _).mono ?_); rintro e w1 ⟨rfl, hb1⟩); have hp1 := Blk.below (w' := w1) (g := w.heap.size) (t := 27) (cs := [.slice (x.A1) x.n1 x.c1, .slice x.A2 x.n2 x.c2, .int .i64 p.regs, .slice (x.A3) x.n3 x.c3, .slice (some ⟨b, o, none⟩) x.n4 x.c4]) blq hb1 szz; have hx1 := Blk.below (w' := w1) (g := w.heap.size + 1) (t := 133) (cs := [.int .i64 op, .int .i64 ya, .int .i64 yb, .int .i64 yc, .int .i64 (yk)]) blq hb1 szz; obtain ⟨p0, p1, p2, p3, p4⟩ := blk5 hp1; obtain ⟨x0, x1, x2, x3, x4⟩ := blk5 hx1; have b01 : Below w.heap.size w w1 := qa0 (a := w) (B := w.heap.size) gwn hb1 szz; skip) | ((go_at_call 144; (with_reducible refine (ht _ (HP.out.below b01 nlr)).mono ?_); rintro e w2 ⟨rfl, hb2⟩); have b02 : Below w.heap.size w w2 := b01.trans (hb2.mono b01.size)) | fail "no arm"); go_ret; exact ⟨rfl, by first | exact b02 | exact b01 | exact gwn⟩
    · rw [if_neg omg, if_neg omg]; clear o21; simp only [hA]; go_enter Tryz.func65, Tryz.ntmps65; go_wp2_with (first | ((go_at_call 143; (with_reducible refine (hsg _).mono ?_); rintro e w1 ⟨rfl, hb1⟩); have hp1 := Blk.below (w' := w1) (g := w.heap.size) (t := 27) (cs := [.slice (x.A1) x.n1 x.c1, .slice x.A2 x.n2 x.c2, .int .i64 p.regs, .slice (x.A3) x.n3 x.c3, .slice (some ⟨b, o, none⟩) x.n4 x.c4]) blq hb1 szz; have hx1 := Blk.below (w' := w1) (g := w.heap.size + 1) (t := 133) (cs := [.int .i64 op, .int .i64 ya, .int .i64 yb, .int .i64 yc, .int .i64 (yk)]) blq hb1 szz; obtain ⟨p0, p1, p2, p3, p4⟩ := blk5 hp1; obtain ⟨x0, x1, x2, x3, x4⟩ := blk5 hx1; have b01 : Below w.heap.size w w1 := qa0 (a := w) (B := w.heap.size) gwn hb1 szz; skip) | ((go_at_call 144; (with_reducible refine (ht _ (HP.out.below b01 nlr)).mono ?_); rintro e w2 ⟨rfl, hb2⟩); have b02 : Below w.heap.size w w2 := b01.trans (hb2.mono b01.size)) | fail "no arm"); go_ret; exact ⟨rfl, by first | exact b02 | exact b01 | exact gwn⟩
  rw [if_neg (fun q => o21 q.1)]; have b21 : (op == 21) = false := by rw [beq_eq_false_iff_ne]; exact o21
  by_cases o28 : op = 28
  · have bq : (op == 28) = true := by rw [o28]; rfl
    by_cases k0 : 0 ≤ yk
    · by_cases k1 : yk < (x.n1 : Int)
      · rw [if_pos ⟨by assumption, k0, k1⟩]; obtain ⟨k, rfl⟩ : ∃ k : Nat, yk = k := ⟨yk.toNat, omg⟩; obtain ⟨b1', o1', hA1, hb1', hc1⟩ := h.r1.at_ (show k < x.n1 by omega); have ek : kAt p.ins (k : Int) = qd5 p.ins k := by unfold kAt qd5; rw [if_neg omg, Int.toNat_natCast]
        rw [ek]; generalize qd5 p.ins k = iv0 at *; simp only [hA1]; clear o28; simp only [hA]; go_enter Tryz.func65, Tryz.ntmps65; go_wp2_with (first | ((go_at_call 143; (with_reducible refine (hsg _).mono ?_); rintro e w1 ⟨rfl, hb1⟩); have hp1 := Blk.below (w' := w1) (g := w.heap.size) (t := 27) (cs := [.slice (some ⟨b1', o1', none⟩) x.n1 x.c1, .slice x.A2 x.n2 x.c2, .int .i64 p.regs, .slice (x.A3) x.n3 x.c3, .slice (some ⟨b, o, none⟩) x.n4 x.c4]) blq hb1 szz; have hx1 := Blk.below (w' := w1) (g := w.heap.size + 1) (t := 133) (cs := [.int .i64 op, .int .i64 ya, .int .i64 yb, .int .i64 yc, .int .i64 ((k : Nat))]) blq hb1 szz; obtain ⟨p0, p1, p2, p3, p4⟩ := blk5 hp1; obtain ⟨x0, x1, x2, x3, x4⟩ := blk5 hx1; have b01 : Below w.heap.size w w1 := qa0 (a := w) (B := w.heap.size) gwn hb1 szz; have c31 : w1.cell? ⟨b1', o1' + k, none⟩ = some (.int .i64 iv0) := (b01.cell (p := ⟨b1', o1' + k, none⟩) hb1').trans hc1) | ((go_at_call 144; (with_reducible refine (ht _ (HP.out.below b01 nlr)).mono ?_); rintro e w2 ⟨rfl, hb2⟩); have b02 : Below w.heap.size w w2 := b01.trans (hb2.mono b01.size)) | fail "no arm"); go_ret; exact ⟨rfl, by first | exact b02 | exact b01 | exact gwn⟩
      · rw [if_neg omg]; clear o28; simp only [hA]; go_enter Tryz.func65, Tryz.ntmps65; go_wp2_with (first | ((go_at_call 143; (with_reducible refine (hsg _).mono ?_); rintro e w1 ⟨rfl, hb1⟩); have hp1 := Blk.below (w' := w1) (g := w.heap.size) (t := 27) (cs := [.slice (x.A1) x.n1 x.c1, .slice x.A2 x.n2 x.c2, .int .i64 p.regs, .slice (x.A3) x.n3 x.c3, .slice (some ⟨b, o, none⟩) x.n4 x.c4]) blq hb1 szz; have hx1 := Blk.below (w' := w1) (g := w.heap.size + 1) (t := 133) (cs := [.int .i64 op, .int .i64 ya, .int .i64 yb, .int .i64 yc, .int .i64 (yk)]) blq hb1 szz; obtain ⟨p0, p1, p2, p3, p4⟩ := blk5 hp1; obtain ⟨x0, x1, x2, x3, x4⟩ := blk5 hx1; have b01 : Below w.heap.size w w1 := qa0 (a := w) (B := w.heap.size) gwn hb1 szz; skip) | ((go_at_call 144; (with_reducible refine (ht _ (HP.out.below b01 nlr)).mono ?_); rintro e w2 ⟨rfl, hb2⟩); have b02 : Below w.heap.size w w2 := b01.trans (hb2.mono b01.size)) | fail "no arm"); go_ret; exact ⟨rfl, by first | exact b02 | exact b01 | exact gwn⟩
    · rw [if_neg omg]; clear o28; simp only [hA]; go_enter Tryz.func65, Tryz.ntmps65; go_wp2_with (first | ((go_at_call 143; (with_reducible refine (hsg _).mono ?_); rintro e w1 ⟨rfl, hb1⟩); have hp1 := Blk.below (w' := w1) (g := w.heap.size) (t := 27) (cs := [.slice (x.A1) x.n1 x.c1, .slice x.A2 x.n2 x.c2, .int .i64 p.regs, .slice (x.A3) x.n3 x.c3, .slice (some ⟨b, o, none⟩) x.n4 x.c4]) blq hb1 szz; have hx1 := Blk.below (w' := w1) (g := w.heap.size + 1) (t := 133) (cs := [.int .i64 op, .int .i64 ya, .int .i64 yb, .int .i64 yc, .int .i64 (yk)]) blq hb1 szz; obtain ⟨p0, p1, p2, p3, p4⟩ := blk5 hp1; obtain ⟨x0, x1, x2, x3, x4⟩ := blk5 hx1; have b01 : Below w.heap.size w w1 := qa0 (a := w) (B := w.heap.size) gwn hb1 szz; skip) | ((go_at_call 144; (with_reducible refine (ht _ (HP.out.below b01 nlr)).mono ?_); rintro e w2 ⟨rfl, hb2⟩); have b02 : Below w.heap.size w w2 := b01.trans (hb2.mono b01.size)) | fail "no arm"); go_ret; exact ⟨rfl, by first | exact b02 | exact b01 | exact gwn⟩
  rw [if_neg (fun q => o28 q.1)]; have b28 : (op == 28) = false := by rw [beq_eq_false_iff_ne]; exact o28
  simp only [hA]; go_enter Tryz.func65, Tryz.ntmps65; go_wp2_with (first | ((go_at_call 143; (with_reducible refine (hsg _).mono ?_); rintro e w1 ⟨rfl, hb1⟩); have hp1 := Blk.below (w' := w1) (g := w.heap.size) (t := 27) (cs := [.slice (x.A1) x.n1 x.c1, .slice x.A2 x.n2 x.c2, .int .i64 p.regs, .slice (x.A3) x.n3 x.c3, .slice (some ⟨b, o, none⟩) x.n4 x.c4]) blq hb1 szz; have hx1 := Blk.below (w' := w1) (g := w.heap.size + 1) (t := 133) (cs := [.int .i64 op, .int .i64 ya, .int .i64 yb, .int .i64 yc, .int .i64 (yk)]) blq hb1 szz; obtain ⟨p0, p1, p2, p3, p4⟩ := blk5 hp1; obtain ⟨x0, x1, x2, x3, x4⟩ := blk5 hx1; have b01 : Below w.heap.size w w1 := qa0 (a := w) (B := w.heap.size) gwn hb1 szz; skip) | ((go_at_call 144; (with_reducible refine (ht _ (HP.out.below b01 nlr)).mono ?_); rintro e w2 ⟨rfl, hb2⟩); have b02 : Below w.heap.size w w2 := b01.trans (hb2.mono b01.size)) | fail "no arm"); go_ret; exact ⟨rfl, by first | exact b02 | exact b01 | exact gwn⟩
theorem kindR_nine {r : Int} {k : Nat} (h : ql7 p k r = 9) : ∀ m, ql7 p (k + m) r = 9 := by
  intro m
  induction m with
  | zero => exact h
  | succ m ih =>
    show ql7 p (k + m + 1) r = 9
    rw [qj5]
    split
    · exact ih
    · rw [if_pos (by rw [ih]; omega)]
theorem rkind_next {n : Nat} (hn : n ≤ p.code.length) (ih : ∀ i, i < n → qv6 x p i) : qv6 x p n := by
  intro reg w h; have hl4 := h.r4.1; have hgv := fun (k : Nat) (hk : k < n) (W : World) (h : qc8 W x p) => rgives_of (ih k hk) h omg
  have HP := hdd h; have HN := hdd hn; have hn4 : n ≤ x.n4 := omg; have hn4m : x.n4 ≤ 9223372036854775807 := by have := h.k4; unfold maxLen at this; omega
  clear ih hn; go_enter Tryz.func66, Tryz.ntmps66; go_wp2_with fail; go_loopw [7, 8] (fun v i wr => ∃ k : Nat, k ≤ n ∧ i = .int .i64 (k : Nat) ∧ v = .int .i64 (ql7 p k reg) ∧ Below w.heap.size w wr ∧ Blk wr w.heap.size 27 [.slice x.A1 x.n1 x.c1, .slice x.A2 x.n2 x.c2, .int .i64 p.regs, .slice x.A3 x.n3 x.c3, .slice x.A4 x.n4 x.c4]) (fun _ i _ => n - (intOf i).toNat)
  case atStart => exact ⟨0, omg, rfl, rfl, gwn, blq⟩
  case round =>
    obtain ⟨k, hk, rfl, rfl, hbel, hblk⟩ := hrel; have HB := hdd hbel; have HX := hdd hblk; have hs := hbel.size; have lx := hblk.lt; obtain ⟨y0, y1, y2, y3, y4⟩ := blk5 hblk; clear hbel hblk
    by_cases hlt : k < n
    · have PW := hdd (HP.out.below HB.out nlr); obtain ⟨b, o, y, hA, hb, hy, hc⟩ := PW.out.r4.at_ qk8 omg (show k < x.n4 by omega); have hI := qk4 hy; have hks := qj5 p k reg; rw [hI] at hks; have hg := hgv k hlt; rw [hI] at hg; obtain ⟨op, ya, yb, yc, yk⟩ := y; simp only at hks; have h0 : wr.cell? ⟨b, o + k * 5, none⟩ = some (.int .i64 op) := hc 0 omg; have h1 : wr.cell? ⟨b, o + k * 5 + 1, none⟩ = some (.int .i64 ya) := hc 1 omg; clear hc hy hI hgv; generalize qf6 p (qa8 p k) ⟨op, ya, yb, yc, yk⟩ = gv at *; simp only [hA] at y4 hg ⊢
      by_cases o29 : 29 ≤ op
      · have HK := hdd (hks.trans (if_pos (.inl o29))); clear hks; generalize ql7 p k reg = kr at *; go_wp2_with fail; go_roundw
        case rel => exact ⟨k + 1, omg, by go_num, by rw [HK.out], HB.out, by first | exact HX.out | (rw [← hA]; exact HX.out)⟩
        case measure => simp [intOf]; omega
      · by_cases oa : ya = reg
        · have hks2 := hks.trans (if_neg omg); have ab : (ya != reg) = false := by rw [oa]; simp
          clear hks
          by_cases kz : ql7 p k reg = 0
          · have HK := hdd (hks2.trans (if_neg (by rw [kz]; simp))); clear hks2; rw [kz]; go_wp2_with (first | ((go_at_call 65; (with_reducible refine (hg _ PW.out).mono ?_); rintro e w1 ⟨rfl, hb1⟩); have B1 := hdd (HB.out.trans (hb1.mono hs)); have X1 := hdd (HX.out.below hb1 lx)) | fail "no arm"); go_roundw
            case rel => exact ⟨k + 1, omg, by go_num, by rw [HK.out], B1.out, by first | exact X1.out | (rw [← hA]; exact X1.out)⟩
            case measure => simp [intOf]; omega
          · have kzb : (ql7 p k reg != 0) = true := by rw [bne_iff_ne]; exact kz
            have hk9 : Hid (ql7 p n reg = 9) := by
              show _ = _
              have e1 := hks2.trans (if_pos kz); have := kindR_nine e1 (n - (k + 1))
              rwa [show k + 1 + (n - (k + 1)) = n by omega] at this
            clear hks2 kz; generalize ql7 p k reg = kr at *; go_wp2_with fail; go_ret; exact ⟨by rw [hk9.out]; rfl, HB.out⟩
        · have HK := hdd (hks.trans (if_pos (.inr oa))); have ab : (ya != reg) = true := by rw [bne_iff_ne]; exact oa
          clear hks oa; generalize ql7 p k reg = kr at *; go_wp2_with fail; go_roundw
          case rel => exact ⟨k + 1, omg, by go_num, by rw [HK.out], HB.out, by first | exact HX.out | (rw [← hA]; exact HX.out)⟩
          case measure => simp [intOf]; omega
    · have hk9 : k = n := omg; subst hk9; go_wp2_with fail; go_ret; exact ⟨rfl, HB.out⟩
theorem vd4 : ∀ n, n ≤ p.code.length → qv6 x p n := by
  intro n
  induction n using Nat.strongRecOn with
  | ind n ih => exact fun hn => rkind_next hn (fun i hi => ih i hi omg)
end
end Go.Proofs.YtpmkpckldnnigaaGreat
