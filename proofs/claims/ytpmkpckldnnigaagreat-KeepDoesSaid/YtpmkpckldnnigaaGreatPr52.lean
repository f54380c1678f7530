/- Parts: RVerC. -/
import Derived.Test.YtpmkpckldnnigaaGreatPr02
import Derived.Test.YtpmkpckldnnigaaGreatPr51
import Derived.Test.YtpmkpckldnnigaaGreatPr05
set_option linter.unusedVariables false
set_option linter.unusedSimpArgs false
set_option maxRecDepth 100000
set_option maxHeartbeats 40000000
namespace Go.Proofs.YtpmkpckldnnigaaGreat
open Go.RowKit
section
variable {x : PA} {p : PV} {w : World}
theorem vg7 {n i : Nat} : qv7 p n i = true ↔ ∃ k, k < n ∧ ((qa1 p.code k).op = 30 ∨ (qa1 p.code k).op = 31) ∧ (i : Int) - (k : Int) ≤ (qa1 p.code k).k := by
  unfold qv7; rw [List.any_eq_true]; constructor
  · rintro ⟨k, hk, h⟩; rw [Bool.and_eq_true, Bool.or_eq_true, decide_eq_true_eq, decide_eq_true_eq, decide_eq_true_eq] at h; exact ⟨k, List.mem_range.1 hk, h.1, h.2⟩
  · rintro ⟨k, hk, h1, h2⟩; refine ⟨k, List.mem_range.2 hk, ?_⟩; rw [Bool.and_eq_true, Bool.or_eq_true, decide_eq_true_eq, decide_eq_true_eq, decide_eq_true_eq]; exact ⟨h1, h2⟩
theorem rskip_any (h : qc8 w x p) {i : Nat} (hi : i ≤ p.code.length) (hcode : p.code.length ≤ 100000) :
    Calls Tryz.prog 67 #[.agg #[.slice x.A1 x.n1 x.c1, .slice x.A2 x.n2 x.c2, .int .i64 p.regs, .slice x.A3 x.n3 x.c3, .slice x.A4 x.n4 x.c4], .int .i64 (i : Nat)] w fun e w' => e = .returned (.bool (skipR p i)) ∧ Below w.heap.size w w' := by
  have hl4 := h.r4.1; have HP := hdd h; have hi4 : i ≤ x.n4 := omg; have hn4 : x.n4 ≤ 100000 := omg; have hsk : skipR p i = qv7 p i i := rfl; rw [hsk]; clear hsk hi hcode hl4; go_enter Tryz.func67, Tryz.ntmps67; go_wp2_with fail; go_loopw [5] (fun j wr => ∃ k : Nat, k ≤ i ∧ j = .int .i64 (k : Nat) ∧ qv7 p k i = false ∧ Below w.heap.size w wr ∧ Blk wr w.heap.size 27 [.slice x.A1 x.n1 x.c1, .slice x.A2 x.n2 x.c2, .int .i64 p.regs, .slice x.A3 x.n3 x.c3, .slice x.A4 x.n4 x.c4]) (fun j _ => i - (intOf j).toNat)
  case atStart => exact ⟨0, omg, rfl, rfl, gwn, blq⟩
  case round =>
    obtain ⟨k, hk, rfl, hno, hbel, hblk⟩ := hrel; have HB := hdd hbel; have HX := hdd hblk; have HNO := hdd hno; have lx := hblk.lt; obtain ⟨y0, y1, y2, y3, y4⟩ := blk5 hblk; clear hbel hblk hno
    by_cases hlt : k < i
    · have PW := hdd (HP.out.below HB.out nlr); obtain ⟨b, o, y, hA, hb, hy, hc⟩ := PW.out.r4.at_ qk8 omg (show k < x.n4 by omega); have hI := qk4 hy; obtain ⟨op, ya, yb, yc, yk⟩ := y; have h0 : wr.cell? ⟨b, o + k * 5, none⟩ = some (.int .i64 op) := hc 0 omg; have h4 : wr.cell? ⟨b, o + k * 5 + 4, none⟩ = some (.int .i64 yk) := hc 4 omg; have hw1 : IntKind.i64.wrap ((i : Int) - (k : Int)) = (i : Int) - (k : Int) := by rw [IntKind.wrap_i64]; omega
      have HI := hdd hI; clear hc hy hI; simp only [hA] at y4
      by_cases q30 : op = 30
      · have b30 : (op == 30) = true := by rw [q30]; rfl
        have HQ := hdd (show op = 30 ∨ op = 31 from .inl q30); clear q30
        by_cases qk : (i : Int) - (k : Int) ≤ yk
        · have hyes : Hid (qv7 p i i = true) := by
            show _ = _
            exact vg7.2 ⟨k, hlt, by rw [HI.out]; exact HQ.out, by rw [HI.out]; exact qk⟩
          go_wp2_with fail; go_ret; exact ⟨by rw [hyes.out]; rfl, HB.out⟩
        · have hn2 : Hid (qv7 p (k + 1) i = false) := by
            show _ = _
            rw [qo6, HNO.out, HI.out, decide_eq_false qk, Bool.and_false]; rfl
          go_wp2_with fail; go_roundw
          case rel => exact ⟨k + 1, omg, by go_num, hn2.out, HB.out, HX.out⟩
          case measure => simp [intOf]; omega
      · have b30 : (op == 30) = false := by rw [beq_eq_false_iff_ne]; exact q30
        by_cases q31 : op = 31
        · have b31 : (op == 31) = true := by rw [q31]; rfl
          have HQ := hdd (show op = 30 ∨ op = 31 from .inr q31); clear q31 q30
          by_cases qk : (i : Int) - (k : Int) ≤ yk
          · have hyes : Hid (qv7 p i i = true) := by
              show _ = _
              exact vg7.2 ⟨k, hlt, by rw [HI.out]; exact HQ.out, by rw [HI.out]; exact qk⟩
            go_wp2_with fail; go_ret; exact ⟨by rw [hyes.out]; rfl, HB.out⟩
          · have hn2 : Hid (qv7 p (k + 1) i = false) := by
              show _ = _
              rw [qo6, HNO.out, HI.out, decide_eq_false qk, Bool.and_false]; rfl
            go_wp2_with fail; go_roundw
            case rel => exact ⟨k + 1, omg, by go_num, hn2.out, HB.out, HX.out⟩
            case measure => simp [intOf]; omega
        · have b31 : (op == 31) = false := by rw [beq_eq_false_iff_ne]; exact q31
          have hn2 : Hid (qv7 p (k + 1) i = false) := by
            show _ = _
            rw [qo6, HNO.out, HI.out, decide_eq_false q30, decide_eq_false q31]; rfl
          clear q30 q31; go_wp2_with fail; go_roundw
          case rel => exact ⟨k + 1, omg, by go_num, hn2.out, HB.out, HX.out⟩
          case measure => simp [intOf]; omega
    · have hk9 : k = i := omg; subst hk9; go_wp2_with fail; go_ret; exact ⟨by rw [HNO.out]; rfl, HB.out⟩
theorem outsR_le (p : PV) (n o : Nat) : qk7 p n o ≤ n := by
  induction n with
  | zero => simp [qk7]
  | succ n ih => rw [qk6]; split <;> omega
def qv9 (p : PV) : Bool := (List.range p.code.length).all (okR p) && (List.range p.outs.length).all (fun o => decide (qk7 p p.code.length o = 1))
theorem rightV_no {k : Nat} (hk : k < p.code.length) (h : okR p k = false) : qv9 p = false := by
  unfold qv9; have : (List.range p.code.length).all (okR p) = false := by
    cases q : (List.range p.code.length).all (okR p) with
    | false => rfl
    | true =>
      rw [List.all_eq_true] at q; have := q k (List.mem_range.2 hk); rw [h] at this
      cases this
  rw [this]; rfl
theorem rightV_out {o : Nat} (ho : o < p.outs.length) (h : qk7 p p.code.length o ≠ 1) : qv9 p = false := by
  unfold qv9; have : (List.range p.outs.length).all (fun o => decide (qk7 p p.code.length o = 1)) = false := by
    cases q : (List.range p.outs.length).all (fun o => decide (qk7 p p.code.length o = 1)) with
    | false => rfl
    | true =>
      rw [List.all_eq_true] at q; have := of_decide_eq_true (q o (List.mem_range.2 ho)); exact absurd this h
  rw [this, Bool.and_false]
theorem rightV_yes (h1 : ∀ k, k < p.code.length → okR p k = true) (h2 : ∀ o, o < p.outs.length → qk7 p p.code.length o = 1) : qv9 p = true := by
  unfold qv9; rw [Bool.and_eq_true, List.all_eq_true, List.all_eq_true]; exact ⟨fun k hk => h1 k (List.mem_range.1 hk), fun o ho => decide_eq_true (h2 o (List.mem_range.1 ho))⟩
theorem rright_yes (h : qc8 w x p) (hm : mayB p = true) :
    Calls Tryz.prog 17 #[.agg #[.slice x.A1 x.n1 x.c1, .slice x.A2 x.n2 x.c2, .int .i64 p.regs, .slice x.A3 x.n3 x.c3, .slice x.A4 x.n4 x.c4]] w fun e w' => e = .returned (.bool (qv9 p)) ∧ Below w.heap.size w w' := by
  have hmay := fun w h => qv2 x p w h
  rw [hm] at hmay; have hl4 := h.r4.1; have hl2 := h.r2.1; have hcode : p.code.length ≤ 2048 := (qe9.1 hm).2.2.2.2.2.1; have hn4 : x.n4 ≤ 2048 := omg; have hn2 : x.n2 ≤ 100 := by have := (qi1.1 (qe9.1 hm).2.1).2.2; omega
  have HP := hdd h; have HL4 := hdd hl4; have HL2 := hdd hl2; have htk := hdd (fun (i : Nat) (hi : i < p.code.length) (W : World) (h : qc8 W x p) => rtakes_of (vd4 i omg) h hi omg); have hgv := hdd (fun (i : Nat) (hi : i < p.code.length) (W : World) (h : qc8 W x p) => rgives_of (vd4 i omg) h hi); have hkd := hdd (fun (i : Nat) (hi : i < p.code.length) (r : Int) (W : World) (h : qc8 W x p) => vd4 i omg r W h); have hsk := hdd (fun (i : Nat) (hi : i < p.code.length) (W : World) (h : qc8 W x p) => rskip_any h (i := i) omg omg); have hno := hdd (fun (k : Nat) (hk : k < p.code.length) (h : okR p k = false) => rightV_no hk h); have hout := hdd (fun (o : Nat) (ho : o < p.outs.length) (h : qk7 p p.code.length o ≠ 1) => rightV_out ho h); have hyes := hdd (fun h1 h2 => rightV_yes (p := p) h1 h2); generalize qv9 p = RV at *; clear h hm hl4 hl2; go_enter Tryz.func17, Tryz.ntmps17; go_wp2_with (first | ((go_at_call 63; (with_reducible refine (hmay _ (HP.out.below (b := w.heap.size) gwn nlr)).mono ?_); rintro e w1 ⟨rfl, hb1⟩); have hp1 := Blk.below (w' := w1) (g := w.heap.size) (t := 27) (cs := [.slice x.A1 x.n1 x.c1, .slice x.A2 x.n2 x.c2, .int .i64 p.regs, .slice x.A3 x.n3 x.c3, .slice x.A4 x.n4 x.c4]) blq hb1 szz; have b01 : Below w.heap.size w w1 := qa0 (a := w) (B := w.heap.size) gwn hb1 szz) | fail "no arm"); go_loopw [3, 4, 5] (fun j _ _ wr => ∃ k : Nat, k ≤ x.n4 ∧ j = .int .i64 (k : Nat) ∧ (∀ m, m < k → okR p m = true) ∧ Below w.heap.size w wr ∧ Blk wr w.heap.size 27 [.slice x.A1 x.n1 x.c1, .slice x.A2 x.n2 x.c2, .int .i64 p.regs, .slice x.A3 x.n3 x.c3, .slice x.A4 x.n4 x.c4]) (fun j _ _ _ => x.n4 - (intOf j).toNat)
  case atStart => exact ⟨0, omg, rfl, fun m hm => absurd hm omg, b01, hp1⟩
  case round =>
    clear hp1 b01 hmay; obtain ⟨k, hk, rfl, hall, hbel, hblk⟩ := hrel; have HB := hdd hbel; have HX := hdd hblk; have HA := hdd hall; have lx := hblk.lt; obtain ⟨y0, y1, y2, y3, y4⟩ := blk5 hblk; clear hbel hblk hall
    by_cases hlt : k < x.n4
    · have hkc : k < p.code.length := by rw [HL4.out]; exact hlt
      have PW := hdd (HP.out.below HB.out nlr); obtain ⟨b, o, y, hA, hb, hy, hc⟩ := PW.out.r4.at_ qk8 omg hlt; have hI := qk4 hy; obtain ⟨op, ya, yb, yc, yk⟩ := y; have h0 : wr.cell? ⟨b, o + k * 5, none⟩ = some (.int .i64 op) := hc 0 omg; have h1 : wr.cell? ⟨b, o + k * 5 + 1, none⟩ = some (.int .i64 ya) := hc 1 omg; have h2 : wr.cell? ⟨b, o + k * 5 + 2, none⟩ = some (.int .i64 yb) := hc 2 omg; have h3 : wr.cell? ⟨b, o + k * 5 + 3, none⟩ = some (.int .i64 yc) := hc 3 omg; have h4 : wr.cell? ⟨b, o + k * 5 + 4, none⟩ = some (.int .i64 yk) := hc 4 omg; have hok : okR p k = (qh3 p k ⟨op, ya, yb, yc, yk⟩ && ((decide (29 ≤ op) || (decide (ya < p.regs) && (decide (ql7 p k ya = 0) && (decide (qf6 p (qa8 p k) ⟨op, ya, yb, yc, yk⟩ = 1) || decide (qf6 p (qa8 p k) ⟨op, ya, yb, yc, yk⟩ = 2))))) && (decide (op ≠ 29) || !skipR p k))) := by unfold okR; rw [hI]
      have ct := htk.out k hkc; have cg := hgv.out k hkc; have ck := hkd.out k hkc ya; have cs := hsk.out k hkc; rw [hI] at ct cg; generalize qh3 p k ⟨op, ya, yb, yc, yk⟩ = tv at *; generalize qf6 p (qa8 p k) ⟨op, ya, yb, yc, yk⟩ = gv at *; generalize ql7 p k ya = kv at *; generalize skipR p k = sv at *; simp only [hA] at ct cg ck cs y4 ⊢; have HOK := hdd hok; have hnext := hdd (show okR p k = true → ∀ m, m < k + 1 → okR p m = true from fun e m hm => by
        rcases Nat.lt_or_ge m k with q | q
        · exact HA.out m q
        · rw [show m = k by omega]; exact e)
      have hstop := hdd (fun e => hno.out k hkc e); have hAA := hdd hA; clear hok hc hy hI htk hgv hkd hsk hno hout hyes hA
      cases tv with
      | false =>
        have HRV := hdd (hstop.out (by rw [HOK.out]; rfl)); go_wp2_with (first | ((go_at_call 64; (with_reducible refine (ct _ (PW.out.below ((Below.refl _ _).alloc nlr _) nlr)).mono ?_); rintro e w2 ⟨rfl, hb2⟩); have b02 : Below wr.heap.size wr w2 := qa0 (a := wr) (B := wr.heap.size) gwn hb2 szz; have hp2 := (HX.out.below b02 lx); (try simp only [hAA.out] at hp2); have hx2 := Blk.below (w' := w2) (g := wr.heap.size) (t := 133) (cs := [.int .i64 op, .int .i64 ya, .int .i64 yb, .int .i64 yc, .int .i64 yk]) blq hb2 szz; obtain ⟨p20, p21, p22, p23, p24⟩ := blk5 hp2; obtain ⟨x20, x21, x22, x23, x24⟩ := blk5 hx2; have sz2 := hp2.lt; have sy2 := hx2.lt; have B2 := hdd (HB.out.trans (b02.mono HB.out.size)); have P2 := hdd (HX.out.below b02 lx)) | ((go_at_call 65; (with_reducible refine (cg _ (PW.out.below b02 nlr)).mono ?_); rintro e w3 ⟨rfl, hb3⟩); have b03 : Below wr.heap.size wr w3 := b02.trans (hb3.mono b02.size); have hp3 := hp2.below hb3 sz2; have hx3 := hx2.below hb3 sy2; obtain ⟨p30, p31, p32, p33, p34⟩ := blk5 hp3; obtain ⟨x30, x31, x32, x33, x34⟩ := blk5 hx3; have sz3 := hp3.lt; have sy3 := hx3.lt; have B3 := hdd (HB.out.trans (b03.mono HB.out.size)); have P3 := hdd (HX.out.below b03 lx)) | ((go_at_call 66; (with_reducible refine (ck _ (PW.out.below b03 nlr)).mono ?_); rintro e w4 ⟨rfl, hb4⟩); have b04 : Below wr.heap.size wr w4 := b03.trans (hb4.mono b03.size); have hp4 := hp3.below hb4 sz3; have hx4 := hx3.below hb4 sy3; obtain ⟨p40, p41, p42, p43, p44⟩ := blk5 hp4; obtain ⟨x40, x41, x42, x43, x44⟩ := blk5 hx4; have sz4 := hp4.lt; have sy4 := hx4.lt; have B4 := hdd (HB.out.trans (b04.mono HB.out.size)); have P4 := hdd (HX.out.below b04 lx)) | ((go_at_call 67; (with_reducible refine (cs _ (PW.out.below b02 nlr)).mono ?_); rintro e w5 ⟨rfl, hb5⟩); have b05 : Below wr.heap.size wr w5 := b02.trans (hb5.mono b02.size); have hp5 := hp2.below hb5 sz2; have hx5 := hx2.below hb5 sy2; obtain ⟨p50, p51, p52, p53, p54⟩ := blk5 hp5; obtain ⟨x50, x51, x52, x53, x54⟩ := blk5 hx5; have sz5 := hp5.lt; have sy5 := hx5.lt; have B5 := hdd (HB.out.trans (b05.mono HB.out.size)); have P5 := hdd (HX.out.below b05 lx)) | fail "no arm"); go_ret; refine ⟨?_, by first | exact B5.out | exact B4.out | exact B3.out | exact B2.out⟩; rw [HRV.out]
        first
          | rfl
          | (simp; done)
      | true =>
        by_cases o29 : 29 ≤ op
        · by_cases q29 : op = 29
          · have b29 : (op == 29) = true := by rw [q29]; rfl
            cases sv with
            | true =>
              have HRV := hdd (hstop.out (by rw [HOK.out, q29]; simp)); clear q29; go_wp2_with (first | ((go_at_call 64; (with_reducible refine (ct _ (PW.out.below ((Below.refl _ _).alloc nlr _) nlr)).mono ?_); rintro e w2 ⟨rfl, hb2⟩); have b02 : Below wr.heap.size wr w2 := qa0 (a := wr) (B := wr.heap.size) gwn hb2 szz; have hp2 := (HX.out.below b02 lx); (try simp only [hAA.out] at hp2); have hx2 := Blk.below (w' := w2) (g := wr.heap.size) (t := 133) (cs := [.int .i64 op, .int .i64 ya, .int .i64 yb, .int .i64 yc, .int .i64 yk]) blq hb2 szz; obtain ⟨p20, p21, p22, p23, p24⟩ := blk5 hp2; obtain ⟨x20, x21, x22, x23, x24⟩ := blk5 hx2; have sz2 := hp2.lt; have sy2 := hx2.lt; have B2 := hdd (HB.out.trans (b02.mono HB.out.size)); have P2 := hdd (HX.out.below b02 lx)) | ((go_at_call 65; (with_reducible refine (cg _ (PW.out.below b02 nlr)).mono ?_); rintro e w3 ⟨rfl, hb3⟩); have b03 : Below wr.heap.size wr w3 := b02.trans (hb3.mono b02.size); have hp3 := hp2.below hb3 sz2; have hx3 := hx2.below hb3 sy2; obtain ⟨p30, p31, p32, p33, p34⟩ := blk5 hp3; obtain ⟨x30, x31, x32, x33, x34⟩ := blk5 hx3; have sz3 := hp3.lt; have sy3 := hx3.lt; have B3 := hdd (HB.out.trans (b03.mono HB.out.size)); have P3 := hdd (HX.out.below b03 lx)) | ((go_at_call 66; (with_reducible refine (ck _ (PW.out.below b03 nlr)).mono ?_); rintro e w4 ⟨rfl, hb4⟩); have b04 : Below wr.heap.size wr w4 := b03.trans (hb4.mono b03.size); have hp4 := hp3.below hb4 sz3; have hx4 := hx3.below hb4 sy3; obtain ⟨p40, p41, p42, p43, p44⟩ := blk5 hp4; obtain ⟨x40, x41, x42, x43, x44⟩ := blk5 hx4; have sz4 := hp4.lt; have sy4 := hx4.lt; have B4 := hdd (HB.out.trans (b04.mono HB.out.size)); have P4 := hdd (HX.out.below b04 lx)) | ((go_at_call 67; (with_reducible refine (cs _ (PW.out.below b02 nlr)).mono ?_); rintro e w5 ⟨rfl, hb5⟩); have b05 : Below wr.heap.size wr w5 := b02.trans (hb5.mono b02.size); have hp5 := hp2.below hb5 sz2; have hx5 := hx2.below hb5 sy2; obtain ⟨p50, p51, p52, p53, p54⟩ := blk5 hp5; obtain ⟨x50, x51, x52, x53, x54⟩ := blk5 hx5; have sz5 := hp5.lt; have sy5 := hx5.lt; have B5 := hdd (HB.out.trans (b05.mono HB.out.size)); have P5 := hdd (HX.out.below b05 lx)) | fail "no arm"); go_ret; refine ⟨?_, by first | exact B5.out | exact B4.out | exact B3.out | exact B2.out⟩; rw [HRV.out]
              first
                | rfl
                | (simp; done)
            | false =>
              have HNX := hdd (hnext.out (by rw [HOK.out, q29]; simp)); clear q29; go_wp2_with (first | ((go_at_call 64; (with_reducible refine (ct _ (PW.out.below ((Below.refl _ _).alloc nlr _) nlr)).mono ?_); rintro e w2 ⟨rfl, hb2⟩); have b02 : Below wr.heap.size wr w2 := qa0 (a := wr) (B := wr.heap.size) gwn hb2 szz; have hp2 := (HX.out.below b02 lx); (try simp only [hAA.out] at hp2); have hx2 := Blk.below (w' := w2) (g := wr.heap.size) (t := 133) (cs := [.int .i64 op, .int .i64 ya, .int .i64 yb, .int .i64 yc, .int .i64 yk]) blq hb2 szz; obtain ⟨p20, p21, p22, p23, p24⟩ := blk5 hp2; obtain ⟨x20, x21, x22, x23, x24⟩ := blk5 hx2; have sz2 := hp2.lt; have sy2 := hx2.lt; have B2 := hdd (HB.out.trans (b02.mono HB.out.size)); have P2 := hdd (HX.out.below b02 lx)) | ((go_at_call 65; (with_reducible refine (cg _ (PW.out.below b02 nlr)).mono ?_); rintro e w3 ⟨rfl, hb3⟩); have b03 : Below wr.heap.size wr w3 := b02.trans (hb3.mono b02.size); have hp3 := hp2.below hb3 sz2; have hx3 := hx2.below hb3 sy2; obtain ⟨p30, p31, p32, p33, p34⟩ := blk5 hp3; obtain ⟨x30, x31, x32, x33, x34⟩ := blk5 hx3; have sz3 := hp3.lt; have sy3 := hx3.lt; have B3 := hdd (HB.out.trans (b03.mono HB.out.size)); have P3 := hdd (HX.out.below b03 lx)) | ((go_at_call 66; (with_reducible refine (ck _ (PW.out.below b03 nlr)).mono ?_); rintro e w4 ⟨rfl, hb4⟩); have b04 : Below wr.heap.size wr w4 := b03.trans (hb4.mono b03.size); have hp4 := hp3.below hb4 sz3; have hx4 := hx3.below hb4 sy3; obtain ⟨p40, p41, p42, p43, p44⟩ := blk5 hp4; obtain ⟨x40, x41, x42, x43, x44⟩ := blk5 hx4; have sz4 := hp4.lt; have sy4 := hx4.lt; have B4 := hdd (HB.out.trans (b04.mono HB.out.size)); have P4 := hdd (HX.out.below b04 lx)) | ((go_at_call 67; (with_reducible refine (cs _ (PW.out.below b02 nlr)).mono ?_); rintro e w5 ⟨rfl, hb5⟩); have b05 : Below wr.heap.size wr w5 := b02.trans (hb5.mono b02.size); have hp5 := hp2.below hb5 sz2; have hx5 := hx2.below hb5 sy2; obtain ⟨p50, p51, p52, p53, p54⟩ := blk5 hp5; obtain ⟨x50, x51, x52, x53, x54⟩ := blk5 hx5; have sz5 := hp5.lt; have sy5 := hx5.lt; have B5 := hdd (HB.out.trans (b05.mono HB.out.size)); have P5 := hdd (HX.out.below b05 lx)) | fail "no arm"); go_roundw
              case rel =>
                first
                  | exact ⟨k + 1, omg, by go_num, HNX.out, B5.out, by first | exact hp5 | exact P5.out⟩
                  | exact ⟨k + 1, omg, by go_num, HNX.out, B4.out, by first | exact hp4 | exact P4.out⟩
                  | exact ⟨k + 1, omg, by go_num, HNX.out, B3.out, by first | exact hp3 | exact P3.out⟩
                  | exact ⟨k + 1, omg, by go_num, HNX.out, B2.out, by first | exact hp2 | exact P2.out⟩
              case measure => simp [intOf]; omega
          · have b29 : (op == 29) = false := by rw [beq_eq_false_iff_ne]; exact q29
            have HNX := hdd (hnext.out (by rw [HOK.out, decide_eq_true o29, decide_eq_true (show op ≠ 29 from q29)]; rfl)); clear q29; go_wp2_with (first | ((go_at_call 64; (with_reducible refine (ct _ (PW.out.below ((Below.refl _ _).alloc nlr _) nlr)).mono ?_); rintro e w2 ⟨rfl, hb2⟩); have b02 : Below wr.heap.size wr w2 := qa0 (a := wr) (B := wr.heap.size) gwn hb2 szz; have hp2 := (HX.out.below b02 lx); (try simp only [hAA.out] at hp2); have hx2 := Blk.below (w' := w2) (g := wr.heap.size) (t := 133) (cs := [.int .i64 op, .int .i64 ya, .int .i64 yb, .int .i64 yc, .int .i64 yk]) blq hb2 szz; obtain ⟨p20, p21, p22, p23, p24⟩ := blk5 hp2; obtain ⟨x20, x21, x22, x23, x24⟩ := blk5 hx2; have sz2 := hp2.lt; have sy2 := hx2.lt; have B2 := hdd (HB.out.trans (b02.mono HB.out.size)); have P2 := hdd (HX.out.below b02 lx)) | ((go_at_call 65; (with_reducible refine (cg _ (PW.out.below b02 nlr)).mono ?_); rintro e w3 ⟨rfl, hb3⟩); have b03 : Below wr.heap.size wr w3 := b02.trans (hb3.mono b02.size); have hp3 := hp2.below hb3 sz2; have hx3 := hx2.below hb3 sy2; obtain ⟨p30, p31, p32, p33, p34⟩ := blk5 hp3; obtain ⟨x30, x31, x32, x33, x34⟩ := blk5 hx3; have sz3 := hp3.lt; have sy3 := hx3.lt; have B3 := hdd (HB.out.trans (b03.mono HB.out.size)); have P3 := hdd (HX.out.below b03 lx)) | ((go_at_call 66; (with_reducible refine (ck _ (PW.out.below b03 nlr)).mono ?_); rintro e w4 ⟨rfl, hb4⟩); have b04 : Below wr.heap.size wr w4 := b03.trans (hb4.mono b03.size); have hp4 := hp3.below hb4 sz3; have hx4 := hx3.below hb4 sy3; obtain ⟨p40, p41, p42, p43, p44⟩ := blk5 hp4; obtain ⟨x40, x41, x42, x43, x44⟩ := blk5 hx4; have sz4 := hp4.lt; have sy4 := hx4.lt; have B4 := hdd (HB.out.trans (b04.mono HB.out.size)); have P4 := hdd (HX.out.below b04 lx)) | ((go_at_call 67; (with_reducible refine (cs _ (PW.out.below b02 nlr)).mono ?_); rintro e w5 ⟨rfl, hb5⟩); have b05 : Below wr.heap.size wr w5 := b02.trans (hb5.mono b02.size); have hp5 := hp2.below hb5 sz2; have hx5 := hx2.below hb5 sy2; obtain ⟨p50, p51, p52, p53, p54⟩ := blk5 hp5; obtain ⟨x50, x51, x52, x53, x54⟩ := blk5 hx5; have sz5 := hp5.lt; have sy5 := hx5.lt; have B5 := hdd (HB.out.trans (b05.mono HB.out.size)); have P5 := hdd (HX.out.below b05 lx)) | fail "no arm"); go_roundw
            case rel =>
              first
                | exact ⟨k + 1, omg, by go_num, HNX.out, B5.out, by first | exact hp5 | exact P5.out⟩
                | exact ⟨k + 1, omg, by go_num, HNX.out, B4.out, by first | exact hp4 | exact P4.out⟩
                | exact ⟨k + 1, omg, by go_num, HNX.out, B3.out, by first | exact hp3 | exact P3.out⟩
                | exact ⟨k + 1, omg, by go_num, HNX.out, B2.out, by first | exact hp2 | exact P2.out⟩
            case measure => simp [intOf]; omega
        · have b29 : (op == 29) = false := by rw [beq_eq_false_iff_ne]; omega
          by_cases ra : ya < p.regs
          · by_cases kz : kv = 0
            · subst kz
              by_cases g1 : gv = 1
              · subst g1; have HNX := hdd (hnext.out (by rw [HOK.out, decide_eq_true ra, decide_eq_true (show op ≠ 29 by omega)]; simp)); go_wp2_with (first | ((go_at_call 64; (with_reducible refine (ct _ (PW.out.below ((Below.refl _ _).alloc nlr _) nlr)).mono ?_); rintro e w2 ⟨rfl, hb2⟩); have b02 : Below wr.heap.size wr w2 := qa0 (a := wr) (B := wr.heap.size) gwn hb2 szz; have hp2 := (HX.out.below b02 lx); (try simp only [hAA.out] at hp2); have hx2 := Blk.below (w' := w2) (g := wr.heap.size) (t := 133) (cs := [.int .i64 op, .int .i64 ya, .int .i64 yb, .int .i64 yc, .int .i64 yk]) blq hb2 szz; obtain ⟨p20, p21, p22, p23, p24⟩ := blk5 hp2; obtain ⟨x20, x21, x22, x23, x24⟩ := blk5 hx2; have sz2 := hp2.lt; have sy2 := hx2.lt; have B2 := hdd (HB.out.trans (b02.mono HB.out.size)); have P2 := hdd (HX.out.below b02 lx)) | ((go_at_call 65; (with_reducible refine (cg _ (PW.out.below b02 nlr)).mono ?_); rintro e w3 ⟨rfl, hb3⟩); have b03 : Below wr.heap.size wr w3 := b02.trans (hb3.mono b02.size); have hp3 := hp2.below hb3 sz2; have hx3 := hx2.below hb3 sy2; obtain ⟨p30, p31, p32, p33, p34⟩ := blk5 hp3; obtain ⟨x30, x31, x32, x33, x34⟩ := blk5 hx3; have sz3 := hp3.lt; have sy3 := hx3.lt; have B3 := hdd (HB.out.trans (b03.mono HB.out.size)); have P3 := hdd (HX.out.below b03 lx)) | ((go_at_call 66; (with_reducible refine (ck _ (PW.out.below b03 nlr)).mono ?_); rintro e w4 ⟨rfl, hb4⟩); have b04 : Below wr.heap.size wr w4 := b03.trans (hb4.mono b03.size); have hp4 := hp3.below hb4 sz3; have hx4 := hx3.below hb4 sy3; obtain ⟨p40, p41, p42, p43, p44⟩ := blk5 hp4; obtain ⟨x40, x41, x42, x43, x44⟩ := blk5 hx4; have sz4 := hp4.lt; have sy4 := hx4.lt; have B4 := hdd (HB.out.trans (b04.mono HB.out.size)); have P4 := hdd (HX.out.below b04 lx)) | ((go_at_call 67; (with_reducible refine (cs _ (PW.out.below b02 nlr)).mono ?_); rintro e w5 ⟨rfl, hb5⟩); have b05 : Below wr.heap.size wr w5 := b02.trans (hb5.mono b02.size); have hp5 := hp2.below hb5 sz2; have hx5 := hx2.below hb5 sy2; obtain ⟨p50, p51, p52, p53, p54⟩ := blk5 hp5; obtain ⟨x50, x51, x52, x53, x54⟩ := blk5 hx5; have sz5 := hp5.lt; have sy5 := hx5.lt; have B5 := hdd (HB.out.trans (b05.mono HB.out.size)); have P5 := hdd (HX.out.below b05 lx)) | fail "no arm"); go_roundw
                case rel =>
                  first
                    | exact ⟨k + 1, omg, by go_num, HNX.out, B5.out, by first | exact hp5 | exact P5.out⟩
                    | exact ⟨k + 1, omg, by go_num, HNX.out, B4.out, by first | exact hp4 | exact P4.out⟩
                    | exact ⟨k + 1, omg, by go_num, HNX.out, B3.out, by first | exact hp3 | exact P3.out⟩
                    | exact ⟨k + 1, omg, by go_num, HNX.out, B2.out, by first | exact hp2 | exact P2.out⟩
                case measure => simp [intOf]; omega
              · have g1b : (gv != 1) = true := by rw [bne_iff_ne]; exact g1
                by_cases g2 : gv = 2
                · subst g2; have HNX := hdd (hnext.out (by rw [HOK.out, decide_eq_true ra, decide_eq_true (show op ≠ 29 by omega)]; simp)); go_wp2_with (first | ((go_at_call 64; (with_reducible refine (ct _ (PW.out.below ((Below.refl _ _).alloc nlr _) nlr)).mono ?_); rintro e w2 ⟨rfl, hb2⟩); have b02 : Below wr.heap.size wr w2 := qa0 (a := wr) (B := wr.heap.size) gwn hb2 szz; have hp2 := (HX.out.below b02 lx); (try simp only [hAA.out] at hp2); have hx2 := Blk.below (w' := w2) (g := wr.heap.size) (t := 133) (cs := [.int .i64 op, .int .i64 ya, .int .i64 yb, .int .i64 yc, .int .i64 yk]) blq hb2 szz; obtain ⟨p20, p21, p22, p23, p24⟩ := blk5 hp2; obtain ⟨x20, x21, x22, x23, x24⟩ := blk5 hx2; have sz2 := hp2.lt; have sy2 := hx2.lt; have B2 := hdd (HB.out.trans (b02.mono HB.out.size)); have P2 := hdd (HX.out.below b02 lx)) | ((go_at_call 65; (with_reducible refine (cg _ (PW.out.below b02 nlr)).mono ?_); rintro e w3 ⟨rfl, hb3⟩); have b03 : Below wr.heap.size wr w3 := b02.trans (hb3.mono b02.size); have hp3 := hp2.below hb3 sz2; have hx3 := hx2.below hb3 sy2; obtain ⟨p30, p31, p32, p33, p34⟩ := blk5 hp3; obtain ⟨x30, x31, x32, x33, x34⟩ := blk5 hx3; have sz3 := hp3.lt; have sy3 := hx3.lt; have B3 := hdd (HB.out.trans (b03.mono HB.out.size)); have P3 := hdd (HX.out.below b03 lx)) | ((go_at_call 66; (with_reducible refine (ck _ (PW.out.below b03 nlr)).mono ?_); rintro e w4 ⟨rfl, hb4⟩); have b04 : Below wr.heap.size wr w4 := b03.trans (hb4.mono b03.size); have hp4 := hp3.below hb4 sz3; have hx4 := hx3.below hb4 sy3; obtain ⟨p40, p41, p42, p43, p44⟩ := blk5 hp4; obtain ⟨x40, x41, x42, x43, x44⟩ := blk5 hx4; have sz4 := hp4.lt; have sy4 := hx4.lt; have B4 := hdd (HB.out.trans (b04.mono HB.out.size)); have P4 := hdd (HX.out.below b04 lx)) | ((go_at_call 67; (with_reducible refine (cs _ (PW.out.below b02 nlr)).mono ?_); rintro e w5 ⟨rfl, hb5⟩); have b05 : Below wr.heap.size wr w5 := b02.trans (hb5.mono b02.size); have hp5 := hp2.below hb5 sz2; have hx5 := hx2.below hb5 sy2; obtain ⟨p50, p51, p52, p53, p54⟩ := blk5 hp5; obtain ⟨x50, x51, x52, x53, x54⟩ := blk5 hx5; have sz5 := hp5.lt; have sy5 := hx5.lt; have B5 := hdd (HB.out.trans (b05.mono HB.out.size)); have P5 := hdd (HX.out.below b05 lx)) | fail "no arm"); go_roundw
                  case rel =>
                    first
                      | exact ⟨k + 1, omg, by go_num, HNX.out, B5.out, by first | exact hp5 | exact P5.out⟩
                      | exact ⟨k + 1, omg, by go_num, HNX.out, B4.out, by first | exact hp4 | exact P4.out⟩
                      | exact ⟨k + 1, omg, by go_num, HNX.out, B3.out, by first | exact hp3 | exact P3.out⟩
                      | exact ⟨k + 1, omg, by go_num, HNX.out, B2.out, by first | exact hp2 | exact P2.out⟩
                  case measure => simp [intOf]; omega
                · have g2b : (gv != 2) = true := by rw [bne_iff_ne]; exact g2
                  have HRV := hdd (hstop.out (by rw [HOK.out, decide_eq_false o29, decide_eq_false g1, decide_eq_false g2]; simp)); go_wp2_with (first | ((go_at_call 64; (with_reducible refine (ct _ (PW.out.below ((Below.refl _ _).alloc nlr _) nlr)).mono ?_); rintro e w2 ⟨rfl, hb2⟩); have b02 : Below wr.heap.size wr w2 := qa0 (a := wr) (B := wr.heap.size) gwn hb2 szz; have hp2 := (HX.out.below b02 lx); (try simp only [hAA.out] at hp2); have hx2 := Blk.below (w' := w2) (g := wr.heap.size) (t := 133) (cs := [.int .i64 op, .int .i64 ya, .int .i64 yb, .int .i64 yc, .int .i64 yk]) blq hb2 szz; obtain ⟨p20, p21, p22, p23, p24⟩ := blk5 hp2; obtain ⟨x20, x21, x22, x23, x24⟩ := blk5 hx2; have sz2 := hp2.lt; have sy2 := hx2.lt; have B2 := hdd (HB.out.trans (b02.mono HB.out.size)); have P2 := hdd (HX.out.below b02 lx)) | ((go_at_call 65; (with_reducible refine (cg _ (PW.out.below b02 nlr)).mono ?_); rintro e w3 ⟨rfl, hb3⟩); have b03 : Below wr.heap.size wr w3 := b02.trans (hb3.mono b02.size); have hp3 := hp2.below hb3 sz2; have hx3 := hx2.below hb3 sy2; obtain ⟨p30, p31, p32, p33, p34⟩ := blk5 hp3; obtain ⟨x30, x31, x32, x33, x34⟩ := blk5 hx3; have sz3 := hp3.lt; have sy3 := hx3.lt; have B3 := hdd (HB.out.trans (b03.mono HB.out.size)); have P3 := hdd (HX.out.below b03 lx)) | ((go_at_call 66; (with_reducible refine (ck _ (PW.out.below b03 nlr)).mono ?_); rintro e w4 ⟨rfl, hb4⟩); have b04 : Below wr.heap.size wr w4 := b03.trans (hb4.mono b03.size); have hp4 := hp3.below hb4 sz3; have hx4 := hx3.below hb4 sy3; obtain ⟨p40, p41, p42, p43, p44⟩ := blk5 hp4; obtain ⟨x40, x41, x42, x43, x44⟩ := blk5 hx4; have sz4 := hp4.lt; have sy4 := hx4.lt; have B4 := hdd (HB.out.trans (b04.mono HB.out.size)); have P4 := hdd (HX.out.below b04 lx)) | ((go_at_call 67; (with_reducible refine (cs _ (PW.out.below b02 nlr)).mono ?_); rintro e w5 ⟨rfl, hb5⟩); have b05 : Below wr.heap.size wr w5 := b02.trans (hb5.mono b02.size); have hp5 := hp2.below hb5 sz2; have hx5 := hx2.below hb5 sy2; obtain ⟨p50, p51, p52, p53, p54⟩ := blk5 hp5; obtain ⟨x50, x51, x52, x53, x54⟩ := blk5 hx5; have sz5 := hp5.lt; have sy5 := hx5.lt; have B5 := hdd (HB.out.trans (b05.mono HB.out.size)); have P5 := hdd (HX.out.below b05 lx)) | fail "no arm"); go_ret; refine ⟨?_, by first | exact B5.out | exact B4.out | exact B3.out | exact B2.out⟩; rw [HRV.out]
                  first
                    | rfl
                    | (simp; done)
            · have kzb : (kv != 0) = true := by rw [bne_iff_ne]; exact kz
              have HRV := hdd (hstop.out (by rw [HOK.out, decide_eq_false o29, decide_eq_false kz]; simp)); go_wp2_with (first | ((go_at_call 64; (with_reducible refine (ct _ (PW.out.below ((Below.refl _ _).alloc nlr _) nlr)).mono ?_); rintro e w2 ⟨rfl, hb2⟩); have b02 : Below wr.heap.size wr w2 := qa0 (a := wr) (B := wr.heap.size) gwn hb2 szz; have hp2 := (HX.out.below b02 lx); (try simp only [hAA.out] at hp2); have hx2 := Blk.below (w' := w2) (g := wr.heap.size) (t := 133) (cs := [.int .i64 op, .int .i64 ya, .int .i64 yb, .int .i64 yc, .int .i64 yk]) blq hb2 szz; obtain ⟨p20, p21, p22, p23, p24⟩ := blk5 hp2; obtain ⟨x20, x21, x22, x23, x24⟩ := blk5 hx2; have sz2 := hp2.lt; have sy2 := hx2.lt; have B2 := hdd (HB.out.trans (b02.mono HB.out.size)); have P2 := hdd (HX.out.below b02 lx)) | ((go_at_call 65; (with_reducible refine (cg _ (PW.out.below b02 nlr)).mono ?_); rintro e w3 ⟨rfl, hb3⟩); have b03 : Below wr.heap.size wr w3 := b02.trans (hb3.mono b02.size); have hp3 := hp2.below hb3 sz2; have hx3 := hx2.below hb3 sy2; obtain ⟨p30, p31, p32, p33, p34⟩ := blk5 hp3; obtain ⟨x30, x31, x32, x33, x34⟩ := blk5 hx3; have sz3 := hp3.lt; have sy3 := hx3.lt; have B3 := hdd (HB.out.trans (b03.mono HB.out.size)); have P3 := hdd (HX.out.below b03 lx)) | ((go_at_call 66; (with_reducible refine (ck _ (PW.out.below b03 nlr)).mono ?_); rintro e w4 ⟨rfl, hb4⟩); have b04 : Below wr.heap.size wr w4 := b03.trans (hb4.mono b03.size); have hp4 := hp3.below hb4 sz3; have hx4 := hx3.below hb4 sy3; obtain ⟨p40, p41, p42, p43, p44⟩ := blk5 hp4; obtain ⟨x40, x41, x42, x43, x44⟩ := blk5 hx4; have sz4 := hp4.lt; have sy4 := hx4.lt; have B4 := hdd (HB.out.trans (b04.mono HB.out.size)); have P4 := hdd (HX.out.below b04 lx)) | ((go_at_call 67; (with_reducible refine (cs _ (PW.out.below b02 nlr)).mono ?_); rintro e w5 ⟨rfl, hb5⟩); have b05 : Below wr.heap.size wr w5 := b02.trans (hb5.mono b02.size); have hp5 := hp2.below hb5 sz2; have hx5 := hx2.below hb5 sy2; obtain ⟨p50, p51, p52, p53, p54⟩ := blk5 hp5; obtain ⟨x50, x51, x52, x53, x54⟩ := blk5 hx5; have sz5 := hp5.lt; have sy5 := hx5.lt; have B5 := hdd (HB.out.trans (b05.mono HB.out.size)); have P5 := hdd (HX.out.below b05 lx)) | fail "no arm"); go_ret; refine ⟨?_, by first | exact B5.out | exact B4.out | exact B3.out | exact B2.out⟩; rw [HRV.out]
              first
                | rfl
                | (simp; done)
          · have HRV := hdd (hstop.out (by rw [HOK.out, decide_eq_false o29, decide_eq_false ra]; simp)); go_wp2_with (first | ((go_at_call 64; (with_reducible refine (ct _ (PW.out.below ((Below.refl _ _).alloc nlr _) nlr)).mono ?_); rintro e w2 ⟨rfl, hb2⟩); have b02 : Below wr.heap.size wr w2 := qa0 (a := wr) (B := wr.heap.size) gwn hb2 szz; have hp2 := (HX.out.below b02 lx); (try simp only [hAA.out] at hp2); have hx2 := Blk.below (w' := w2) (g := wr.heap.size) (t := 133) (cs := [.int .i64 op, .int .i64 ya, .int .i64 yb, .int .i64 yc, .int .i64 yk]) blq hb2 szz; obtain ⟨p20, p21, p22, p23, p24⟩ := blk5 hp2; obtain ⟨x20, x21, x22, x23, x24⟩ := blk5 hx2; have sz2 := hp2.lt; have sy2 := hx2.lt; have B2 := hdd (HB.out.trans (b02.mono HB.out.size)); have P2 := hdd (HX.out.below b02 lx)) | ((go_at_call 65; (with_reducible refine (cg _ (PW.out.below b02 nlr)).mono ?_); rintro e w3 ⟨rfl, hb3⟩); have b03 : Below wr.heap.size wr w3 := b02.trans (hb3.mono b02.size); have hp3 := hp2.below hb3 sz2; have hx3 := hx2.below hb3 sy2; obtain ⟨p30, p31, p32, p33, p34⟩ := blk5 hp3; obtain ⟨x30, x31, x32, x33, x34⟩ := blk5 hx3; have sz3 := hp3.lt; have sy3 := hx3.lt; have B3 := hdd (HB.out.trans (b03.mono HB.out.size)); have P3 := hdd (HX.out.below b03 lx)) | ((go_at_call 66; (with_reducible refine (ck _ (PW.out.below b03 nlr)).mono ?_); rintro e w4 ⟨rfl, hb4⟩); have b04 : Below wr.heap.size wr w4 := b03.trans (hb4.mono b03.size); have hp4 := hp3.below hb4 sz3; have hx4 := hx3.below hb4 sy3; obtain ⟨p40, p41, p42, p43, p44⟩ := blk5 hp4; obtain ⟨x40, x41, x42, x43, x44⟩ := blk5 hx4; have sz4 := hp4.lt; have sy4 := hx4.lt; have B4 := hdd (HB.out.trans (b04.mono HB.out.size)); have P4 := hdd (HX.out.below b04 lx)) | ((go_at_call 67; (with_reducible refine (cs _ (PW.out.below b02 nlr)).mono ?_); rintro e w5 ⟨rfl, hb5⟩); have b05 : Below wr.heap.size wr w5 := b02.trans (hb5.mono b02.size); have hp5 := hp2.below hb5 sz2; have hx5 := hx2.below hb5 sy2; obtain ⟨p50, p51, p52, p53, p54⟩ := blk5 hp5; obtain ⟨x50, x51, x52, x53, x54⟩ := blk5 hx5; have sz5 := hp5.lt; have sy5 := hx5.lt; have B5 := hdd (HB.out.trans (b05.mono HB.out.size)); have P5 := hdd (HX.out.below b05 lx)) | fail "no arm"); go_ret; refine ⟨?_, by first | exact B5.out | exact B4.out | exact B3.out | exact B2.out⟩; rw [HRV.out]
            first
              | rfl
              | (simp; done)
    · have hk9 : k = x.n4 := omg; subst hk9; have hall2 := hdd (show ∀ m, m < p.code.length → okR p m = true from fun m hm => HA.out m (by rw [← HL4.out]; exact hm)); clear htk hgv hkd hsk hno HA; go_wp2_with fail; go_loopw [6, 7, 8] (fun u _ _ w2 => ∃ o : Nat, o ≤ x.n2 ∧ u = .int .i64 (o : Nat) ∧ (∀ m, m < o → qk7 p p.code.length m = 1) ∧ Below w.heap.size w w2 ∧ Blk w2 w.heap.size 27 [.slice x.A1 x.n1 x.c1, .slice x.A2 x.n2 x.c2, .int .i64 p.regs, .slice x.A3 x.n3 x.c3, .slice x.A4 x.n4 x.c4]) (fun u _ _ _ => x.n2 - (intOf u).toNat)
      case atStart => exact ⟨0, omg, rfl, fun m hm => absurd hm omg, HB.out, HX.out⟩
      case round =>
        clear HB HX y0 y1 y2 y3 y4 lx; obtain ⟨u, hu, rfl, hou, hbel, hblk⟩ := hrel; have HB2 := hdd hbel; have HX2 := hdd hblk; have HO := hdd hou; have lx2 := hblk.lt; obtain ⟨y0, y1, y2, y3, y4⟩ := blk5 hblk; clear hbel hblk hou
        by_cases hltu : u < x.n2
        · go_wp2_with fail; go_loopw [7, 8] (fun c j w3 => ∃ k : Nat, k ≤ x.n4 ∧ j = .int .i64 (k : Nat) ∧ c = .int .i64 (qk7 p k u : Nat) ∧ Below w.heap.size w w3 ∧ Blk w3 w.heap.size 27 [.slice x.A1 x.n1 x.c1, .slice x.A2 x.n2 x.c2, .int .i64 p.regs, .slice x.A3 x.n3 x.c3, .slice x.A4 x.n4 x.c4]) (fun _ j _ => x.n4 - (intOf j).toNat)
          case atStart => exact ⟨0, omg, rfl, rfl, HB2.out, HX2.out⟩
          case round =>
            clear y0 y1 y2 y3 y4; obtain ⟨k, hk3, rfl, rfl, hbel3, hblk3⟩ := hrel; have HB3 := hdd hbel3; have HX3 := hdd hblk3; have lx3 := hblk3.lt; obtain ⟨y0, y1, y2, y3, y4⟩ := blk5 hblk3; clear hbel3 hblk3; have hle := outsR_le p k u
            by_cases hlt3 : k < x.n4
            · have PW := hdd (HP.out.below HB3.out nlr); obtain ⟨b, o, y, hA, hb, hy, hc⟩ := PW.out.r4.at_ qk8 omg hlt3; have hI := qk4 hy; obtain ⟨op, ya, yb, yc, yk⟩ := y; have h0 : wr.cell? ⟨b, o + k * 5, none⟩ = some (.int .i64 op) := hc 0 omg; have h4 : wr.cell? ⟨b, o + k * 5 + 4, none⟩ = some (.int .i64 yk) := hc 4 omg; have hsc := qk6 p k u; rw [hI] at hsc; simp only at hsc; have HSC := hdd hsc; clear hc hy hI hsc; generalize qk7 p k u = cn at *; simp only [hA] at y4
              by_cases q29 : op = 29
              · have b29 : (op == 29) = true := by rw [q29]; rfl
                by_cases qu : yk = (u : Int)
                · have bu : (yk == (u : Int)) = true := by rw [qu]; simp
                  have HC := hdd (show qk7 p (k + 1) u = cn + 1 from by rw [HSC.out, if_pos ⟨q29, qu⟩]); clear q29 qu; go_wp2_with fail; go_roundw
                  case rel => exact ⟨k + 1, omg, by go_num, by rw [HC.out]; go_num, HB3.out, HX3.out⟩
                  case measure => simp [intOf]; omega
                · have bu : (yk == (u : Int)) = false := by rw [beq_eq_false_iff_ne]; exact qu
                  have HC := hdd (show qk7 p (k + 1) u = cn from by rw [HSC.out, if_neg (fun e => qu e.2)]; rfl); clear q29 qu; go_wp2_with fail; go_roundw
                  case rel => exact ⟨k + 1, omg, by go_num, by rw [HC.out], HB3.out, HX3.out⟩
                  case measure => simp [intOf]; omega
              · have b29 : (op == 29) = false := by rw [beq_eq_false_iff_ne]; exact q29
                have HC := hdd (show qk7 p (k + 1) u = cn from by rw [HSC.out, if_neg (fun e => q29 e.1)]; rfl); clear q29; go_wp2_with fail; go_roundw
                case rel => exact ⟨k + 1, omg, by go_num, by rw [HC.out], HB3.out, HX3.out⟩
                case measure => simp [intOf]; omega
            · have hk9 : k = x.n4 := omg; subst hk9; have huc : u < p.outs.length := by rw [HL2.out]; exact hltu
              have hcl := HL4.out
              by_cases q1 : qk7 p x.n4 u = 1
              · have HNX := hdd (show ∀ m, m < u + 1 → qk7 p p.code.length m = 1 from fun m hm => by
                  rcases Nat.lt_or_ge m u with q | q
                  · exact HO.out m q
                  · rw [show m = u by omega, hcl]; exact q1)
                rw [q1]; clear q1 hcl; go_wp2_with fail; go_roundw
                case rel => exact ⟨u + 1, omg, by go_num, HNX.out, HB3.out, HX3.out⟩
                case measure => simp [intOf]; omega
              · have HRV := hdd (hout.out u huc (by rw [hcl]; exact q1)); have q1b : ((qk7 p x.n4 u : Int) != 1) = true := by rw [bne_iff_ne]; omega
                clear q1 hcl; generalize qk7 p x.n4 u = cn at *; go_wp2_with fail; go_ret; refine ⟨?_, HB3.out⟩; rw [HRV.out]
                rfl
        · have hu9 : u = x.n2 := omg; subst hu9; have HRV := hdd (hyes.out hall2.out (fun o ho => HO.out o (by rw [← HL2.out]; exact ho))); go_wp2_with fail; go_ret; refine ⟨?_, HB2.out⟩; rw [HRV.out]
          rfl
theorem vh1 (h : qc8 w x p) :
    Calls Tryz.prog 17 #[.agg #[.slice x.A1 x.n1 x.c1, .slice x.A2 x.n2 x.c2, .int .i64 p.regs, .slice x.A3 x.n3 x.c3, .slice x.A4 x.n4 x.c4]] w fun e w' => e = .returned (.bool (qj8 p)) ∧ Below w.heap.size w w' := by
  rw [verify_is]
  cases hm : mayB p with
  | true =>
    rw [show vh4 p = qv9 p from by unfold vh4 qv9; rw [hm]; rfl]; exact rright_yes h hm
  | false =>
    rw [show vh4 p = false from by unfold vh4; rw [hm]; rfl]; have hmay := fun w h => qv2 x p w h
    rw [hm] at hmay; have HP := hdd h; clear hm h; go_enter Tryz.func17, Tryz.ntmps17; go_wp2_with (first | (go_at_call 63; (with_reducible refine (hmay _ (HP.out.below (b := w.heap.size) gwn nlr)).mono ?_); rintro e w1 ⟨rfl, hb1⟩) | fail "no arm"); go_ret; exact ⟨rfl, qa0 (a := w) (B := w.heap.size) gwn hb1 szz⟩
end
end Go.Proofs.YtpmkpckldnnigaaGreat
