/- Parts: SlotC. -/
import Derived.Test.YtalmdccgpigppaaPr32
import Derived.Deep.DeepCutAuto
import Derived.Deep.CutBlock
import Derived.Test.YtalmdccgpigppaaPr31
namespace Go.Proofs.Ytalmdccgpigppaa
open Go.RowKit
set_option linter.unusedVariables false
set_option linter.unusedSimpArgs false
/-- Which is the newest, as the program says it. -/
def nowI (k : Nat) : Int := if k = 2 then -1 else k
def slotC (ga gb : Nat) (s : SlV3) (B : Option Addr) (n c : Nat) : List Value := [.pointer (some ⟨ga, 0, none⟩), .pointer (some ⟨gb, 0, none⟩), .int .i64 (nowI s.now), .int .i64 s.number, .slice B n c]
def SlotsAt (w : World) (base g ga gb : Nat) (s : SlV3) : Prop := ∃ B n c, Blk w g 111 (slotC ga gb s B n c) ∧ n ≤ c ∧ c ≤ maxLen ∧ BytesAt w base ⟨B, n, c⟩ s.load ∧ s.now ≤ 2 ∧ n ≤ 512
def mutS : List TypeId := 111 :: mutD
section
variable {w w' : World} {base g ga gb : Nat} {p : DiskP} {D : DiskV} {s : SlV3} {A : Option Addr} {n c : Nat} {load : List UInt8}
theorem SlotsAt.below (h : SlotsAt w base g ga gb s) (hb : Below w.heap.size w w') : SlotsAt w' base g ga gb s := by
  obtain ⟨B, n, c, h1, h2, h3, h4, h5, h6⟩ := h
  exact ⟨B, n, c, h1.below hb h1.lt, h2, h3, h4.below hb, h5, h6⟩
theorem SlotsAt.step (h : SlotsAt w base g ga gb s) (hd : DiskS w base p D) (k : Step mutD base p w w') : SlotsAt w' base g ga gb s := by
  obtain ⟨B, n, c, h1, h2, h3, h4, h5, h6⟩ := h
  exact ⟨B, n, c, hd.blk h1 k.tch (by decide), h2, h3, h4.step hd k (by decide), h5, h6⟩
/-- What Load gives. -/
def loadSV (s : SlV3) : List UInt8 × Int × Bool := if s.now = 2 then ([], 0, false) else (s.load, s.number, true)
set_option maxRecDepth 100000 in
set_option maxHeartbeats 4000000 in
theorem load_any (h : SlotsAt w base g ga gb s) : Calls Try.prog 15 #[.pointer (some ⟨g, 0, none⟩)] w fun e w' => ∃ B n c, e = .returned (.tuple #[.slice B n c, .int .i64 (loadSV s).2.1, .bool (loadSV s).2.2]) ∧ OB w' w.heap.size 5 B n c (loadSV s).1 ∧ Below w.heap.size w w' := by
  obtain ⟨B, n, c, h1, h2, h3, h4, h5, h6⟩ := h
  have c0 : w.cell? ⟨g, 0, none⟩ = some (.pointer (some ⟨ga, 0, none⟩)) := h1.cell 0
  have c2 : w.cell? ⟨g, 2, none⟩ = some (.int .i64 (nowI s.now)) := h1.cell 2
  have c3 : w.cell? ⟨g, 3, none⟩ = some (.int .i64 s.number) := h1.cell 3
  have c4 : w.cell? ⟨g, 4, none⟩ = some (.slice B n c) := h1.cell 4
  unfold loadSV
  unfold maxLen at h3
  by_cases hn : s.now = 2
  · rw [if_pos hn]
    have e2 : nowI s.now = -1 := by unfold nowI; rw [if_pos hn]
    rw [e2] at c2
    clear h1 h4 hn
    go_enter Try.func15, Try.ntmps15
    go_wp2
    go_ret3
    exact ⟨none, 0, 0, rfl, Ow.nil _ _ _ _, Below.refl _ _⟩
  · rw [if_neg hn]
    have e2 : nowI s.now = (s.now : Int) := by unfold nowI; rw [if_neg hn]
    rw [e2] at c2
    have hne : ((s.now : Int) == -1) = false := by rw [beq_eq_false_iff_ne]; omega
    have lg := h1.lt
    have HRB := Lib.hid (show RB w B n s.load from h4.1)
    clear h1 h4 hn e2
    go_enter Try.func15, Try.ntmps15
    go_wp2_with fail
    go_region_held3 (fun w' => w'.cell? ⟨g, 4, none⟩ = some (.slice B n c) ∧ w'.cell? ⟨g, 3, none⟩ = some (.int .i64 s.number)) (first | go_keep | (refine ⟨?_, ?_⟩ <;> assumption)) (first
      | (refine step_app rfl rfl elemU8 bv_one (A := none) (n := 0) (c := 0) (l := []) (s := .tmp 22) (x := .tmp 26) (N := n) (L := s.load) (base := w.heap.size) rfl (Ow.nil _ _ _ _) rfl (k := s.load) (HRB.out.below (B := w.heap.size) (by (repeat' (first | (with_reducible exact Below.refl _ _) | (with_reducible assumption) | (with_reducible refine Below.drew ?_) | (with_reducible refine below_drewN ?_ _) | (with_reducible refine Below.alloc ?_ ?_ _) | (with_reducible refine Below.setCell ?_ ?_ _) | omega | (simp; done) | (simp; omega)))) (Nat.le_refl _)).rd (by omega) rfl (by unfold maxLen; omega) (by omega) (by first | omega | (simp; done) | (simp; omega)) ?_; intro A5 c5 w5 hown5 hg5 hat5 hb5; have b5 := (Below.drew (Below.refl w.heap.size w)).trans hb5; have y4 : w5.cell? ⟨g, 4, none⟩ = some (.slice B n c) := (b5.cell (p := ⟨g, 4, none⟩) lg).trans c4; have y3 : w5.cell? ⟨g, 3, none⟩ = some (.int .i64 s.number) := (b5.cell (p := ⟨g, 3, none⟩) lg).trans c3)
      | fail "no arm")
    go_wp2
    go_ret3
    exact ⟨A5, n, c5, rfl, hown5, b5⟩
theorem SlotsAt.sets {B0 B : Option Addr} {n0 d0 n c oth : Nat} {o : Int} {load : List UInt8} (hb : Blk w g 111 (slotC ga gb s B0 n0 d0)) (hd : DiskS w base p D) (hg : base ≤ g) (hs : base ≤ w.heap.size) (hl : BytesAt w base ⟨B, n, c⟩ load) (hc : n ≤ c) (hcm : c ≤ maxLen) (hn : n ≤ 512) (ho : nowI oth = o) (h2 : oth ≤ 2) (num : Int) :
    DiskS (((w.setCell ⟨g, 2, none⟩ (.int .i64 o)).setCell ⟨g, 3, none⟩ (.int .i64 num)).setCell ⟨g, 4, none⟩ (.slice B n c)) base p D ∧ SlotsAt (((w.setCell ⟨g, 2, none⟩ (.int .i64 o)).setCell ⟨g, 3, none⟩ (.int .i64 num)).setCell ⟨g, 4, none⟩ (.slice B n c)) base g ga gb ⟨oth, num, load⟩ ∧ Step mutS base p w (((w.setCell ⟨g, 2, none⟩ (.int .i64 o)).setCell ⟨g, 3, none⟩ (.int .i64 num)).setCell ⟨g, 4, none⟩ (.slice B n c)) := by
  have set1 : ∀ {W : World} {cs : List Value} (i : Nat) (u : Value), Blk W g 111 cs → DiskS W base p D → BytesAt W base ⟨B, n, c⟩ load → base ≤ W.heap.size → Blk (W.setCell ⟨g, i, none⟩ u) g 111 (cs.set i u) ∧ DiskS (W.setCell ⟨g, i, none⟩ u) base p D ∧ BytesAt (W.setCell ⟨g, i, none⟩ u) base ⟨B, n, c⟩ load ∧ Step mutS base p W (W.setCell ⟨g, i, none⟩ u) := fun {W cs} i u hb hd hl hs => by
    have st : Step [111] base p W (W.setCell ⟨g, i, none⟩ u) := Step.one (grown_setCell _) hb (List.mem_cons_self ..) hg hs
    refine ⟨hb.set_ i u, ?_, hl.step hd st (by decide), Step.one (grown_setCell _) hb (List.mem_cons_self ..) hg hs⟩
    obtain ⟨A9, c9, h9⟩ := hd
    exact ⟨A9, c9, h9.keep (F := (· = g)) (Keep.one (grown_setCell _)) (fun g9 hf e => by
      subst e
      rcases h9.foot_ty hb hf with q | q | q | q | q <;> exact absurd q (by decide))⟩
  obtain ⟨b1, d1, l1, s1⟩ := set1 2 (.int .i64 o) hb hd hl hs
  obtain ⟨b2, d2, l2, s2⟩ := set1 3 (.int .i64 num) b1 d1 l1 (by have := s1.size; omega)
  obtain ⟨b3, d3, l3, s3⟩ := set1 4 (.slice B n c) b2 d2 l2 (by have := s1.size; have := s2.size; omega)
  refine ⟨d3, ⟨B, n, c, ?_, hc, hcm, l3, h2, hn⟩, (s1.trans s2).trans s3⟩
  subst ho
  exact b3
theorem fillK_few (f m : Nat) (load : List UInt8) : ∀ (k i : Nat) (D : DiskV), (fillK D f m load i k).1.many = D.many ∧ (fillK D f m load i k).1.waits.length ≤ D.waits.length + k := by
  intro k
  induction k with
  | zero => intro i D; exact ⟨rfl, Nat.le_refl _⟩
  | succ k ih =>
    intro i D
    obtain ⟨a1, a2⟩ := aWriteV_many D f m ((1 + i : Nat) : Int) (padL load i)
    by_cases he : (aWriteV D f m ((1 + i : Nat) : Int) (padL load i)).2 = 0
    · rw [fillK_go he]
      obtain ⟨h1, h2⟩ := ih (i + 1) (aWriteV D f m ((1 + i : Nat) : Int) (padL load i)).1
      exact ⟨h1.trans a1, by omega⟩
    · rw [fillK_stop he]
      exact ⟨a1, by omega⟩
theorem flushV_less (D : DiskV) : (flushV D).1.many = D.many ∧ (flushV D).1.waits.length ≤ D.waits.length := by
  unfold flushV
  split
  · exact ⟨rfl, Nat.le_refl _⟩
  · split
    · exact ⟨rfl, by simp [goesV]⟩
    · exact ⟨rfl, by simp [flushD]⟩
theorem fillV_few (D : DiskV) (f m : Nat) (load : List UInt8) : (fillV D f m load).1.many = D.many ∧ (fillV D f m load).1.waits.length ≤ D.waits.length + secsN load.length := by
  have h := fillK_few f m load (secsN load.length) 0 D
  have h2 := flushV_less (fillK D f m load 0 (secsN load.length)).1
  unfold fillV
  split
  · exact h
  · exact ⟨h2.1.trans h.1, Nat.le_trans h2.2 h.2⟩
theorem aPutV_less (D : DiskV) (f m : Nat) (n kind number : Int) (l : List UInt8) : (aPutV D f m n kind number l).1.many = D.many ∧ (aPutV D f m n kind number l).1.waits.length ≤ D.waits.length + 1 := by
  unfold aPutV
  split
  · exact ⟨rfl, by simp⟩
  · exact aWriteV_many D f m n _
set_option maxRecDepth 100000 in
set_option maxHeartbeats 20000000 in
theorem save_main (R : DiskV × SlV3 × Int) (oth gx f m : Nat) (hsel : (oth = 0 ∧ gx = ga ∧ s.now ≠ 0) ∨ (oth = 1 ∧ gx = gb ∧ s.now = 0))
    (hR : R = if (saveA D f m (s.number + 1) load).2 ≠ 0 then ((saveA D f m (s.number + 1) load).1, s, (saveA D f m (s.number + 1) load).2) else ((saveA D f m (s.number + 1) load).1, ⟨oth, s.number + 1, load⟩, 0))
    (hS : SlotsAt w base g ga gb s) (hd : DiskS w base p D) (hs : base ≤ w.heap.size) (hg : base ≤ g) (hax : AreaAt w gx p.d f m) (hm : 5 ≤ m) (hfm : f + m ≤ D.many)
    (hl : BytesAt w base ⟨A, n, c⟩ load) (hc : n ≤ c) (hcm : c ≤ maxLen) (hn : n ≤ 512) (hnum : s.number ≠ 9223372036854775807) (hnb : -9223372036854775808 ≤ s.number ∧ s.number ≤ 9223372036854775807) (hw : D.waits.length < 800000) :
    Calls Try.prog 13 #[.pointer (some ⟨g, 0, none⟩), .slice A n c] w fun e w' => e = .returned (.int .i64 R.2.2) ∧ DiskS w' base p R.1 ∧ SlotsAt w' base g ga gb R.2.1 ∧ Step mutS base p w w' := by
  have hlen : load.length = n := hl.1.1
  have c1 := fun {W : World} (h : DiskS W base p D) (hs : base ≤ W.heap.size) (ha : AreaAt W gx p.d f m) => (show Calls Try.prog 50 #[.pointer (some ⟨gx, 0, none⟩), .int .i64 0] W fun e w' => e = .returned (.int .i64 (aWriteV D f m 0 zerosL).2) ∧ DiskS w' base p (aWriteV D f m 0 zerosL).1 ∧ Step mutD base p W w' from s_awipe h hs ha hfm 0 (by omega))
  obtain ⟨a1, a2⟩ := aWriteV_many D f m 0 zerosL
  obtain ⟨b1, b2⟩ := flushV_less (aWriteV D f m 0 zerosL).1
  obtain ⟨f1, f2⟩ := fillV_few (flushV (aWriteV D f m 0 zerosL).1).1 f m load
  obtain ⟨p1, p2⟩ := aPutV_less (fillV (flushV (aWriteV D f m 0 zerosL).1).1 f m load).1 f m 0 2 (s.number + 1) (headL load)
  have hk4 : secsN load.length ≤ 4 := by rw [hlen]; unfold secsN; omega
  have c2 := fun {W : World} (h : DiskS W base p (aWriteV D f m 0 zerosL).1) (hs : base ≤ W.heap.size) (ha : AreaAt W gx p.d f m) => s_aflush h hs ha
  have c3 := fun {W : World} (h : DiskS W base p (flushV (aWriteV D f m 0 zerosL).1).1) (hs : base ≤ W.heap.size) (ha : AreaAt W gx p.d f m) (hl : BytesAt W base ⟨A, n, c⟩ load) => fill_any h hs ha hm (by omega) hl hc hcm hn (by omega)
  have c4 := fun {W : World} (h : DiskS W base p (fillV (flushV (aWriteV D f m 0 zerosL).1).1 f m load).1) (hs : base ≤ W.heap.size) (ha : AreaAt W gx p.d f m) (B : Option Addr) (d : Nat) (hb : RB W B 12 (headL load)) => (show Calls Try.prog 55 #[.pointer (some ⟨gx, 0, none⟩), .int .i64 0, .int .i64 2, .int .i64 (s.number + 1), .slice B 12 d] W fun e w' => e = .returned (.int .i64 (aPutV (fillV (flushV (aWriteV D f m 0 zerosL).1).1 f m load).1 f m 0 2 (s.number + 1) (headL load)).2) ∧ DiskS w' base p (aPutV (fillV (flushV (aWriteV D f m 0 zerosL).1).1 f m load).1 f m 0 2 (s.number + 1) (headL load)).1 ∧ Step mutD base p W w' from s_aput (d := d) h hs ha (by omega) 0 2 (s.number + 1) B 12 (headL load) hb (by decide) (by omega) (by omega))
  have c5 := fun {W : World} (h : DiskS W base p (aPutV (fillV (flushV (aWriteV D f m 0 zerosL).1).1 f m load).1 f m 0 2 (s.number + 1) (headL load)).1) (hs : base ≤ W.heap.size) (ha : AreaAt W gx p.d f m) => s_aflush h hs ha
  have HHL : Hid (headL load = putL (un n) ++ le4 (crcSum [load])) := by show _ = _; unfold headL sumL; rw [hlen]
  generalize hL0 : headL load = hL at *
  have hR2 : R = if (aWriteV D f m 0 zerosL).2 ≠ 0 then ((aWriteV D f m 0 zerosL).1, s, (aWriteV D f m 0 zerosL).2) else if (flushV (aWriteV D f m 0 zerosL).1).2 ≠ 0 then ((flushV (aWriteV D f m 0 zerosL).1).1, s, (flushV (aWriteV D f m 0 zerosL).1).2) else if (fillV (flushV (aWriteV D f m 0 zerosL).1).1 f m load).2 ≠ 0 then ((fillV (flushV (aWriteV D f m 0 zerosL).1).1 f m load).1, s, (fillV (flushV (aWriteV D f m 0 zerosL).1).1 f m load).2)
      else if (aPutV (fillV (flushV (aWriteV D f m 0 zerosL).1).1 f m load).1 f m 0 2 (s.number + 1) hL).2 ≠ 0 then ((aPutV (fillV (flushV (aWriteV D f m 0 zerosL).1).1 f m load).1 f m 0 2 (s.number + 1) hL).1, s, (aPutV (fillV (flushV (aWriteV D f m 0 zerosL).1).1 f m load).1 f m 0 2 (s.number + 1) hL).2)
      else if (flushV (aPutV (fillV (flushV (aWriteV D f m 0 zerosL).1).1 f m load).1 f m 0 2 (s.number + 1) hL).1).2 ≠ 0 then ((flushV (aPutV (fillV (flushV (aWriteV D f m 0 zerosL).1).1 f m load).1 f m 0 2 (s.number + 1) hL).1).1, s, (flushV (aPutV (fillV (flushV (aWriteV D f m 0 zerosL).1).1 f m load).1 f m 0 2 (s.number + 1) hL).1).2)
      else ((flushV (aPutV (fillV (flushV (aWriteV D f m 0 zerosL).1).1 f m load).1 f m 0 2 (s.number + 1) hL).1).1, ⟨oth, s.number + 1, load⟩, 0) := by
    rw [hR]
    unfold saveA
    rw [hL0]
    by_cases q1 : (aWriteV D f m 0 zerosL).2 ≠ 0
    · simp only [if_pos q1]
    · rw [if_neg q1, if_neg q1]
      by_cases q2 : (flushV (aWriteV D f m 0 zerosL).1).2 ≠ 0
      · simp only [if_pos q2]
      · rw [if_neg q2, if_neg q2]
        by_cases q3 : (fillV (flushV (aWriteV D f m 0 zerosL).1).1 f m load).2 ≠ 0
        · simp only [if_pos q3]
        · rw [if_neg q3, if_neg q3]
          by_cases q4 : (aPutV (fillV (flushV (aWriteV D f m 0 zerosL).1).1 f m load).1 f m 0 2 (s.number + 1) hL).2 ≠ 0
          · simp only [if_pos q4]
          · rw [if_neg q4, if_neg q4]
  clear hR hL0
  generalize aWriteV D f m 0 zerosL = P1 at *
  obtain ⟨D1, z1⟩ := P1
  generalize flushV D1 = P2 at *
  obtain ⟨D2, z2⟩ := P2
  generalize fillV D2 f m load = P3 at *
  obtain ⟨D3, z3⟩ := P3
  generalize aPutV D3 f m 0 2 (s.number + 1) hL = P4 at *
  obtain ⟨D4, z4⟩ := P4
  generalize flushV D4 = P5 at *
  obtain ⟨D5, z5⟩ := P5
  simp only at hR2 c1 c2 c3 c4 c5
  have HR := Lib.hid hR2
  have hsum := crcSum_lt [load]
  have hsumc := fun a n c w => sum_any a n c [load] w
  generalize crcSum [load] = sm at *
  have HSA := Lib.hid hS
  obtain ⟨B0, n0, d0, h1, h2, h3, h4, h5, h6⟩ := hS
  have x0 : w.cell? ⟨g, 0, none⟩ = some (.pointer (some ⟨ga, 0, none⟩)) := h1.cell 0
  have x1 : w.cell? ⟨g, 1, none⟩ = some (.pointer (some ⟨gb, 0, none⟩)) := h1.cell 1
  have x2 : w.cell? ⟨g, 2, none⟩ = some (.int .i64 (nowI s.now)) := h1.cell 2
  have x3 : w.cell? ⟨g, 3, none⟩ = some (.int .i64 s.number) := h1.cell 3
  have HX := Lib.hid h1
  have HD := Lib.hid hd
  have HAX := Lib.hid hax
  have HL := Lib.hid hl
  have hnn : (s.number == 9223372036854775807) = false := by rw [beq_eq_false_iff_ne]; exact hnum
  have hnw : IntKind.i64.wrap (s.number + 1) = s.number + 1 := by rw [IntKind.wrap_i64]; omega
  have HNB := Lib.hid hnb
  unfold maxLen at hcm
  clear hR2 h1 h2 h3 h4 h5 h6 hd hax hl a1 a2 b1 b2 f1 f2 p1 p2 hk4 hlen hnb hnum
  rcases hsel with ⟨rfl, rfl, hnow⟩ | ⟨rfl, rfl, hnow⟩
  · have hn0 : (nowI s.now != 0) = true := by rw [bne_iff_ne]; unfold nowI; split <;> omega
    clear hnow
    go_enter Try.func13, Try.ntmps13
    go_wp2_with fail
    go_loopw [36] (fun i wr => i = .int .i64 0 ∧ w = wr) (fun i _ => 2 - (intOf i).toNat)
    case atStart => exact ⟨rfl, rfl⟩
    case round =>
      obtain ⟨rfl, rfl⟩ := hrel
      go_upto_region 14 with (first
        | ((go_at_call 50; (with_reducible refine (c1 HD.out hs HAX.out).mono ?_); rintro e w1 ⟨rfl, d1, st1⟩); have D1' := Lib.hid d1; have S1 := Lib.hid st1; have A1 := Lib.hid (HD.out.area HAX.out st1.tch (by decide)); have s1 := st1.size; clear d1 st1)
        | fail "no arm")
      by_cases hz1 : z1 = 0
      rotate_left 1
      · have hne : (z1 != 0) = true := by rw [bne_iff_ne]; exact hz1
        have HZ := Lib.hid hz1
        clear hz1
        go_wp2
        try rw [Exit.noGoto_ret]
        go_ret
        have e9 := HR.out
        rw [if_pos HZ.out] at e9
        rw [e9]
        exact ⟨rfl, D1'.out, (HSA.out.step HD.out S1.out), S1.out.mono (fun _ e => List.mem_cons_of_mem _ e)⟩
      subst hz1
      go_upto_region 17 with (first
        | ((go_at_call 51; (with_reducible refine (c2 D1'.out (by omega) A1.out).mono ?_); rintro e w2 ⟨rfl, d2, st2⟩); have D2' := Lib.hid d2; have S2 := Lib.hid (S1.out.trans st2); have A2 := Lib.hid (HD.out.area HAX.out S2.out.tch (by decide)); have L2 := Lib.hid (HL.out.step HD.out S2.out (by decide)); have s2 := S2.out.size; clear d2 st2)
        | fail "no arm")
      by_cases hz2 : z2 = 0
      rotate_left 1
      · have hne : (z2 != 0) = true := by rw [bne_iff_ne]; exact hz2
        have HZ := Lib.hid hz2
        clear hz2
        go_wp2
        try rw [Exit.noGoto_ret]
        go_ret
        have e9 := HR.out
        rw [if_neg (by simp), if_pos HZ.out] at e9
        rw [e9]
        exact ⟨rfl, D2'.out, (HSA.out.step HD.out S2.out), S2.out.mono (fun _ e => List.mem_cons_of_mem _ e)⟩
      subst hz2
      go_upto_region 20 with (first
        | ((go_at_call 52; (with_reducible refine (c3 D2'.out (by omega) A2.out L2.out).mono ?_); rintro e w3 ⟨rfl, d3, st3⟩); have D3' := Lib.hid d3; have S3 := Lib.hid (S2.out.trans st3); have A3 := Lib.hid (HD.out.area HAX.out S3.out.tch (by decide)); have L3 := Lib.hid (HL.out.step HD.out S3.out (by decide)); have X3 := Lib.hid (HD.out.blk HX.out S3.out.tch (by decide)); have s3 := S3.out.size; clear d3 st3)
        | fail "no arm")
      by_cases hz3 : z3 = 0
      rotate_left 1
      · have hne : (z3 != 0) = true := by rw [bne_iff_ne]; exact hz3
        have HZ := Lib.hid hz3
        clear hz3
        go_wp2
        try rw [Exit.noGoto_ret]
        go_ret
        have e9 := HR.out
        rw [if_neg (by simp), if_neg (by simp), if_pos HZ.out] at e9
        rw [e9]
        exact ⟨rfl, D3'.out, (HSA.out.step HD.out S3.out), S3.out.mono (fun _ e => List.mem_cons_of_mem _ e)⟩
      subst hz3
      have hrl : RB w3 A n load := L3.out.1
      have hhl : hL = putL (un n) ++ le4 sm := HHL.out
      have HRL := Lib.hid hrl
      have HHL2 := Lib.hid hhl
      clear hrl hhl
      go_upto_region 23 with (first
        | (go_at_call 54; (with_reducible refine (hsumc _ _ _ _ (RBs.one (heap_top _ _ (by simp)) (HRL.out.below (B := w3.heap.size) (by (repeat' (first | (with_reducible exact Below.refl _ _) | (with_reducible assumption) | (with_reducible refine Below.drew ?_) | (with_reducible refine below_drewN ?_ _) | (with_reducible refine Below.alloc ?_ ?_ _) | (with_reducible refine Below.setCell ?_ ?_ _) | omega | (simp; done) | (simp; omega)))) (Nat.le_refl _)) (by unfold maxLen; omega)) (by decide)).mono ?_); rintro e w4 ⟨rfl, rfl⟩)
        | ((go_at_call 53; (with_reducible refine (bytes_le sm _ hsum).mono ?_); rintro e w4 ⟨rfl, hb4⟩); have B4' := below_then' (a := w3) (B := w3.heap.size) (by (repeat' (first | (with_reducible exact Below.refl _ _) | (with_reducible assumption) | (with_reducible refine Below.drew ?_) | (with_reducible refine below_drewN ?_ _) | (with_reducible refine Below.alloc ?_ ?_ _) | (with_reducible refine Below.setCell ?_ ?_ _) | omega | (simp; done) | (simp; omega)))) hb4 (by first | omega | (simp; done) | (simp; omega)); have s4 := B4'.size; clear hb4)
        | (refine wpList_store_arr rfl (x := .tmp 11) (y := .tmp 72) rfl rfl rfl (t := 122) (cs := [.int .u8 0, .int .u8 0, .int .u8 0, .int .u8 0]) (xs := (le4 sm).map bv) (Blk.top _ rfl rfl) size4 (by simp [le4_len]) (by simp) mem_bv ?_; intro w5 hb5 hg5 hs5; rw [splice_all _ _ (by simp [le4_len])] at hb5; have b5 : Below w3.heap.size w3 w5 := below_of_only (B4'.alloc s4 _) hg5 (by simp; omega) s4; have X5 := Lib.hid (X3.out.below b5 X3.out.lt); have r5 := Lib.hid (show RB w5 (some ⟨w4.heap.size, 0, none⟩) 4 (le4 sm) from (by have := RB.of_block (l := le4 sm) hb5 rfl; rw [le4_len] at this; exact this)); have D5' := Lib.hid (D3'.out.below b5); have A5' := Lib.hid (show AreaAt w5 gx p.d f m from Blk.below A3.out b5 (Blk.lt A3.out)); have S5 := Lib.hid (S3.out.trans (Step.of_below b5 (by omega))); have s5 := b5.size; have y3 : w5.cell? ⟨g, 3, none⟩ = some (.int .i64 s.number) := X5.out.cell 3; have lg5 := X5.out.lt; clear hb5 hg5 hs5 b5)
        | fail "no arm")
      go_region_held3 (fun w' => w'.cell? ⟨g, 3, none⟩ = some (.int .i64 s.number)) (first | go_keep | assumption) (first
        | ((go_at_call 56; (with_reducible refine (put_any _ _).mono ?_); rintro e w6 ⟨B6, c6, rfl, o6, b6⟩); have b6q := below_then' (a := w5) (B := w5.heap.size) (by (repeat' (first | (with_reducible exact Below.refl _ _) | (with_reducible assumption) | (with_reducible refine Below.drew ?_) | (with_reducible refine below_drewN ?_ _) | (with_reducible refine Below.alloc ?_ ?_ _) | (with_reducible refine Below.setCell ?_ ?_ _) | omega | (simp; done) | (simp; omega)))) b6 (by first | omega | (simp; done) | (simp; omega)); have s6 := b6q.size; have y6 : w6.cell? ⟨g, 3, none⟩ = some (.int .i64 s.number) := (b6q.cell (p := ⟨g, 3, none⟩) lg5).trans y3; have r6 := r5.out.below b6q (Nat.le_refl _))
        | (refine step_app rfl rfl elemU8 bv_one (s := .tmp 81) (x := .tmp 82) (N := 12) (L := hL) rfl o6 rfl (k := le4 sm) r6.rd (by rfl) HHL2.out.symm (by unfold maxLen; omega) (by omega) (by have := b6.size; omega) ?_; intro A7 c7 w7 hown7 hg7 hat7 hb7; have b7q : Below w5.heap.size w5 w7 := b6q.trans (hb7.mono (by first | omega | (simp; done) | (simp; omega))); have s7 := b7q.size; have y7 : w7.cell? ⟨g, 3, none⟩ = some (.int .i64 s.number) := (b7q.cell (p := ⟨g, 3, none⟩) lg5).trans y3; have D7 := D5'.out.below b7q; have A7' : AreaAt w7 gx p.d f m := Blk.below A5'.out b7q (Blk.lt A5'.out); have S7 := Lib.hid (S5.out.trans (Step.of_below b7q (by omega))))
        | ((go_at_call 55; (with_reducible refine (c4 D7 (by omega) A7' A7 c7 hown7.rd.rb).mono ?_); rintro e w8 ⟨rfl, d8, st8⟩); have D8 := Lib.hid d8; have S8 := Lib.hid (S7.out.trans st8); have A8 := Lib.hid (HD.out.area HAX.out S8.out.tch (by decide)); have L8 := Lib.hid (HL.out.step HD.out S8.out (by decide)); have X8 := Lib.hid (HD.out.blk HX.out S8.out.tch (by decide)); have s8 := S8.out.size; have y8 : w8.cell? ⟨g, 3, none⟩ = some (.int .i64 s.number) := X8.out.cell 3; clear d8 st8 D7 A7' hown7 hg7 hat7 hb7)
        | fail "no arm")
      go_upto_region 24 with fail
      by_cases hz4 : z4 = 0
      rotate_left 1
      · have hne : (z4 != 0) = true := by rw [bne_iff_ne]; exact hz4
        have HZ := Lib.hid hz4
        clear hz4
        go_wp2
        try rw [Exit.noGoto_ret]
        go_ret
        have e9 := HR.out
        rw [if_neg (by simp), if_neg (by simp), if_neg (by simp), if_pos HZ.out] at e9
        rw [e9]
        exact ⟨rfl, D8.out, (HSA.out.step HD.out S8.out), S8.out.mono (fun _ e => List.mem_cons_of_mem _ e)⟩
      subst hz4
      go_upto_region 27 with (first
        | ((go_at_call 51; (with_reducible refine (c5 D8.out (by omega) A8.out).mono ?_); rintro e w9 ⟨rfl, d9, st9⟩); have D9 := Lib.hid d9; have S9 := Lib.hid (S8.out.trans st9); have L9 := Lib.hid (HL.out.step HD.out S9.out (by decide)); have X9 := Lib.hid (HD.out.blk HX.out S9.out.tch (by decide)); have s9 := S9.out.size; clear d9 st9)
        | fail "no arm")
      by_cases hz5 : z5 = 0
      rotate_left 1
      · have hne : (z5 != 0) = true := by rw [bne_iff_ne]; exact hz5
        have HZ := Lib.hid hz5
        clear hz5
        go_wp2
        try rw [Exit.noGoto_ret]
        go_ret
        have e9 := HR.out
        rw [if_neg (by simp), if_neg (by simp), if_neg (by simp), if_neg (by simp), if_pos HZ.out] at e9
        rw [e9]
        exact ⟨rfl, D9.out, (HSA.out.step HD.out S9.out), S9.out.mono (fun _ e => List.mem_cons_of_mem _ e)⟩
      subst hz5
      have u2 : w9.cell? ⟨g, 2, none⟩ = some (.int .i64 (nowI s.now)) := X9.out.cell 2
      have u3 : w9.cell? ⟨g, 3, none⟩ = some (.int .i64 s.number) := X9.out.cell 3
      have u4 : w9.cell? ⟨g, 4, none⟩ = some (.slice B0 n0 d0) := X9.out.cell 4
      have v2 := X9.out.frozen 2
      have v3 := X9.out.frozen 3
      have v4 := X9.out.frozen 4
      have lg9 := X9.out.lt
      have RL9 := Lib.hid (show RB w9 A n load from L9.out.1)
      go_wp2_with fail
      go_region_law (first
        | (refine step_app rfl rfl elemU8 bv_one (s := .tmp 102) (x := .tmp 103) (N := n) (L := load) rfl (Ow.new _ _ #[] [] rfl (by decide)) rfl (k := load) (RL9.out.below (B := w9.heap.size) (by (repeat' (first | (with_reducible exact Below.refl _ _) | (with_reducible assumption) | (with_reducible refine Below.drew ?_) | (with_reducible refine below_drewN ?_ _) | (with_reducible refine Below.alloc ?_ ?_ _) | (with_reducible refine Below.setCell ?_ ?_ _) | omega | (simp; done) | (simp; omega)))) (Nat.le_refl _)).rd (by simp) (by simp) (by unfold maxLen; omega) (by omega) (by simp; done) ?_; intro A10 c10 w10 hown10 hg10 hat10 hb10; have b10 : Below w9.heap.size w9 w10 := ((Below.drew (Below.refl w9.heap.size w9)).alloc (Nat.le_refl _) _).trans hb10; have X10 := X9.out.below b10 lg9; have r2 : w10.cell? ⟨g, 2, none⟩ = some (.int .i64 (nowI s.now)) := X10.cell 2; have r3 : w10.cell? ⟨g, 3, none⟩ = some (.int .i64 s.number) := X10.cell 3; have r4 : w10.cell? ⟨g, 4, none⟩ = some (.slice B0 n0 d0) := X10.cell 4; have q2 := X10.frozen 2; have q3 := X10.frozen 3; have q4 := X10.frozen 4; have lg10 := X10.lt)
        | fail "no arm")
      all_goals
        have BL := BytesAt.of_ob (base := base) (h := ⟨A10, n, c10⟩) hown10
        have hsz9 : base ≤ w9.heap.size := by omega
        have hcap := hown10.cap
        have FIN := Lib.hid (SlotsAt.sets X10 (D9.out.below b10) hg (by have := b10.size; omega) BL (by omega) (by omega) hn (oth := 0) (o := 0) rfl (by omega) (s.number + 1))
        have S10 := Lib.hid (S9.out.trans (Step.of_below b10 hsz9))
        clear r2 r3 r4 q2 q3 q4 BL hown10 hg10 hat10 hb10 b10 u2 u3 u4 v2 v3 v4
        go_wp2
        try rw [Exit.noGoto_ret]
        go_ret
        have e9 := HR.out
        rw [if_neg (by simp), if_neg (by simp), if_neg (by simp), if_neg (by simp), if_neg (by simp)] at e9
        rw [e9]
        exact ⟨rfl, FIN.out.1, FIN.out.2.1, (S10.out.mono (fun _ e => List.mem_cons_of_mem _ e)).trans FIN.out.2.2⟩
  · have hn0 : nowI s.now = 0 := by rw [hnow]; rfl
    rw [hn0] at x2
    clear hnow hn0
    go_enter Try.func13, Try.ntmps13
    go_wp2_with fail
    go_loopw [36] (fun i wr => (i = .int .i64 0 ∨ i = .int .i64 1) ∧ w = wr) (fun i _ => 2 - (intOf i).toNat)
    case atStart => exact ⟨.inl rfl, rfl⟩
    case round =>
      obtain ⟨hi, rfl⟩ := hrel
      rcases hi with rfl | rfl
      · go_wp2_with fail
        go_roundw
        case rel => exact ⟨.inr rfl, trivial⟩
        case measure => simp [intOf]
      · skip
        go_upto_region 14 with (first
          | ((go_at_call 50; (with_reducible refine (c1 HD.out hs HAX.out).mono ?_); rintro e w1 ⟨rfl, d1, st1⟩); have D1' := Lib.hid d1; have S1 := Lib.hid st1; have A1 := Lib.hid (HD.out.area HAX.out st1.tch (by decide)); have s1 := st1.size; clear d1 st1)
          | fail "no arm")
        by_cases hz1 : z1 = 0
        rotate_left 1
        · have hne : (z1 != 0) = true := by rw [bne_iff_ne]; exact hz1
          have HZ := Lib.hid hz1
          clear hz1
          go_wp2
          try rw [Exit.noGoto_ret]
          go_ret
          have e9 := HR.out
          rw [if_pos HZ.out] at e9
          rw [e9]
          exact ⟨rfl, D1'.out, (HSA.out.step HD.out S1.out), S1.out.mono (fun _ e => List.mem_cons_of_mem _ e)⟩
        subst hz1
        go_upto_region 17 with (first
          | ((go_at_call 51; (with_reducible refine (c2 D1'.out (by omega) A1.out).mono ?_); rintro e w2 ⟨rfl, d2, st2⟩); have D2' := Lib.hid d2; have S2 := Lib.hid (S1.out.trans st2); have A2 := Lib.hid (HD.out.area HAX.out S2.out.tch (by decide)); have L2 := Lib.hid (HL.out.step HD.out S2.out (by decide)); have s2 := S2.out.size; clear d2 st2)
          | fail "no arm")
        by_cases hz2 : z2 = 0
        rotate_left 1
        · have hne : (z2 != 0) = true := by rw [bne_iff_ne]; exact hz2
          have HZ := Lib.hid hz2
          clear hz2
          go_wp2
          try rw [Exit.noGoto_ret]
          go_ret
          have e9 := HR.out
          rw [if_neg (by simp), if_pos HZ.out] at e9
          rw [e9]
          exact ⟨rfl, D2'.out, (HSA.out.step HD.out S2.out), S2.out.mono (fun _ e => List.mem_cons_of_mem _ e)⟩
        subst hz2
        go_upto_region 20 with (first
          | ((go_at_call 52; (with_reducible refine (c3 D2'.out (by omega) A2.out L2.out).mono ?_); rintro e w3 ⟨rfl, d3, st3⟩); have D3' := Lib.hid d3; have S3 := Lib.hid (S2.out.trans st3); have A3 := Lib.hid (HD.out.area HAX.out S3.out.tch (by decide)); have L3 := Lib.hid (HL.out.step HD.out S3.out (by decide)); have X3 := Lib.hid (HD.out.blk HX.out S3.out.tch (by decide)); have s3 := S3.out.size; clear d3 st3)
          | fail "no arm")
        by_cases hz3 : z3 = 0
        rotate_left 1
        · have hne : (z3 != 0) = true := by rw [bne_iff_ne]; exact hz3
          have HZ := Lib.hid hz3
          clear hz3
          go_wp2
          try rw [Exit.noGoto_ret]
          go_ret
          have e9 := HR.out
          rw [if_neg (by simp), if_neg (by simp), if_pos HZ.out] at e9
          rw [e9]
          exact ⟨rfl, D3'.out, (HSA.out.step HD.out S3.out), S3.out.mono (fun _ e => List.mem_cons_of_mem _ e)⟩
        subst hz3
        have hrl : RB w3 A n load := L3.out.1
        have hhl : hL = putL (un n) ++ le4 sm := HHL.out
        have HRL := Lib.hid hrl
        have HHL2 := Lib.hid hhl
        clear hrl hhl
        go_upto_region 23 with (first
          | (go_at_call 54; (with_reducible refine (hsumc _ _ _ _ (RBs.one (heap_top _ _ (by simp)) (HRL.out.below (B := w3.heap.size) (by (repeat' (first | (with_reducible exact Below.refl _ _) | (with_reducible assumption) | (with_reducible refine Below.drew ?_) | (with_reducible refine below_drewN ?_ _) | (with_reducible refine Below.alloc ?_ ?_ _) | (with_reducible refine Below.setCell ?_ ?_ _) | omega | (simp; done) | (simp; omega)))) (Nat.le_refl _)) (by unfold maxLen; omega)) (by decide)).mono ?_); rintro e w4 ⟨rfl, rfl⟩)
          | ((go_at_call 53; (with_reducible refine (bytes_le sm _ hsum).mono ?_); rintro e w4 ⟨rfl, hb4⟩); have B4' := below_then' (a := w3) (B := w3.heap.size) (by (repeat' (first | (with_reducible exact Below.refl _ _) | (with_reducible assumption) | (with_reducible refine Below.drew ?_) | (with_reducible refine below_drewN ?_ _) | (with_reducible refine Below.alloc ?_ ?_ _) | (with_reducible refine Below.setCell ?_ ?_ _) | omega | (simp; done) | (simp; omega)))) hb4 (by first | omega | (simp; done) | (simp; omega)); have s4 := B4'.size; clear hb4)
          | (refine wpList_store_arr rfl (x := .tmp 11) (y := .tmp 72) rfl rfl rfl (t := 122) (cs := [.int .u8 0, .int .u8 0, .int .u8 0, .int .u8 0]) (xs := (le4 sm).map bv) (Blk.top _ rfl rfl) size4 (by simp [le4_len]) (by simp) mem_bv ?_; intro w5 hb5 hg5 hs5; rw [splice_all _ _ (by simp [le4_len])] at hb5; have b5 : Below w3.heap.size w3 w5 := below_of_only (B4'.alloc s4 _) hg5 (by simp; omega) s4; have X5 := Lib.hid (X3.out.below b5 X3.out.lt); have r5 := Lib.hid (show RB w5 (some ⟨w4.heap.size, 0, none⟩) 4 (le4 sm) from (by have := RB.of_block (l := le4 sm) hb5 rfl; rw [le4_len] at this; exact this)); have D5' := Lib.hid (D3'.out.below b5); have A5' := Lib.hid (show AreaAt w5 gx p.d f m from Blk.below A3.out b5 (Blk.lt A3.out)); have S5 := Lib.hid (S3.out.trans (Step.of_below b5 (by omega))); have s5 := b5.size; have y3 : w5.cell? ⟨g, 3, none⟩ = some (.int .i64 s.number) := X5.out.cell 3; have lg5 := X5.out.lt; clear hb5 hg5 hs5 b5)
          | fail "no arm")
        go_region_held3 (fun w' => w'.cell? ⟨g, 3, none⟩ = some (.int .i64 s.number)) (first | go_keep | assumption) (first
          | ((go_at_call 56; (with_reducible refine (put_any _ _).mono ?_); rintro e w6 ⟨B6, c6, rfl, o6, b6⟩); have b6q := below_then' (a := w5) (B := w5.heap.size) (by (repeat' (first | (with_reducible exact Below.refl _ _) | (with_reducible assumption) | (with_reducible refine Below.drew ?_) | (with_reducible refine below_drewN ?_ _) | (with_reducible refine Below.alloc ?_ ?_ _) | (with_reducible refine Below.setCell ?_ ?_ _) | omega | (simp; done) | (simp; omega)))) b6 (by first | omega | (simp; done) | (simp; omega)); have s6 := b6q.size; have y6 : w6.cell? ⟨g, 3, none⟩ = some (.int .i64 s.number) := (b6q.cell (p := ⟨g, 3, none⟩) lg5).trans y3; have r6 := r5.out.below b6q (Nat.le_refl _))
          | (refine step_app rfl rfl elemU8 bv_one (s := .tmp 81) (x := .tmp 82) (N := 12) (L := hL) rfl o6 rfl (k := le4 sm) r6.rd (by rfl) HHL2.out.symm (by unfold maxLen; omega) (by omega) (by have := b6.size; omega) ?_; intro A7 c7 w7 hown7 hg7 hat7 hb7; have b7q : Below w5.heap.size w5 w7 := b6q.trans (hb7.mono (by first | omega | (simp; done) | (simp; omega))); have s7 := b7q.size; have y7 : w7.cell? ⟨g, 3, none⟩ = some (.int .i64 s.number) := (b7q.cell (p := ⟨g, 3, none⟩) lg5).trans y3; have D7 := D5'.out.below b7q; have A7' : AreaAt w7 gx p.d f m := Blk.below A5'.out b7q (Blk.lt A5'.out); have S7 := Lib.hid (S5.out.trans (Step.of_below b7q (by omega))))
          | ((go_at_call 55; (with_reducible refine (c4 D7 (by omega) A7' A7 c7 hown7.rd.rb).mono ?_); rintro e w8 ⟨rfl, d8, st8⟩); have D8 := Lib.hid d8; have S8 := Lib.hid (S7.out.trans st8); have A8 := Lib.hid (HD.out.area HAX.out S8.out.tch (by decide)); have L8 := Lib.hid (HL.out.step HD.out S8.out (by decide)); have X8 := Lib.hid (HD.out.blk HX.out S8.out.tch (by decide)); have s8 := S8.out.size; have y8 : w8.cell? ⟨g, 3, none⟩ = some (.int .i64 s.number) := X8.out.cell 3; clear d8 st8 D7 A7' hown7 hg7 hat7 hb7)
          | fail "no arm")
        go_upto_region 24 with fail
        by_cases hz4 : z4 = 0
        rotate_left 1
        · have hne : (z4 != 0) = true := by rw [bne_iff_ne]; exact hz4
          have HZ := Lib.hid hz4
          clear hz4
          go_wp2
          try rw [Exit.noGoto_ret]
          go_ret
          have e9 := HR.out
          rw [if_neg (by simp), if_neg (by simp), if_neg (by simp), if_pos HZ.out] at e9
          rw [e9]
          exact ⟨rfl, D8.out, (HSA.out.step HD.out S8.out), S8.out.mono (fun _ e => List.mem_cons_of_mem _ e)⟩
        subst hz4
        go_upto_region 27 with (first
          | ((go_at_call 51; (with_reducible refine (c5 D8.out (by omega) A8.out).mono ?_); rintro e w9 ⟨rfl, d9, st9⟩); have D9 := Lib.hid d9; have S9 := Lib.hid (S8.out.trans st9); have L9 := Lib.hid (HL.out.step HD.out S9.out (by decide)); have X9 := Lib.hid (HD.out.blk HX.out S9.out.tch (by decide)); have s9 := S9.out.size; clear d9 st9)
          | fail "no arm")
        by_cases hz5 : z5 = 0
        rotate_left 1
        · have hne : (z5 != 0) = true := by rw [bne_iff_ne]; exact hz5
          have HZ := Lib.hid hz5
          clear hz5
          go_wp2
          try rw [Exit.noGoto_ret]
          go_ret
          have e9 := HR.out
          rw [if_neg (by simp), if_neg (by simp), if_neg (by simp), if_neg (by simp), if_pos HZ.out] at e9
          rw [e9]
          exact ⟨rfl, D9.out, (HSA.out.step HD.out S9.out), S9.out.mono (fun _ e => List.mem_cons_of_mem _ e)⟩
        subst hz5
        have u2 : w9.cell? ⟨g, 2, none⟩ = some (.int .i64 (nowI s.now)) := X9.out.cell 2
        have u3 : w9.cell? ⟨g, 3, none⟩ = some (.int .i64 s.number) := X9.out.cell 3
        have u4 : w9.cell? ⟨g, 4, none⟩ = some (.slice B0 n0 d0) := X9.out.cell 4
        have v2 := X9.out.frozen 2
        have v3 := X9.out.frozen 3
        have v4 := X9.out.frozen 4
        have lg9 := X9.out.lt
        have RL9 := Lib.hid (show RB w9 A n load from L9.out.1)
        go_wp2_with fail
        go_region_law (first
          | (refine step_app rfl rfl elemU8 bv_one (s := .tmp 102) (x := .tmp 103) (N := n) (L := load) rfl (Ow.new _ _ #[] [] rfl (by decide)) rfl (k := load) (RL9.out.below (B := w9.heap.size) (by (repeat' (first | (with_reducible exact Below.refl _ _) | (with_reducible assumption) | (with_reducible refine Below.drew ?_) | (with_reducible refine below_drewN ?_ _) | (with_reducible refine Below.alloc ?_ ?_ _) | (with_reducible refine Below.setCell ?_ ?_ _) | omega | (simp; done) | (simp; omega)))) (Nat.le_refl _)).rd (by simp) (by simp) (by unfold maxLen; omega) (by omega) (by simp; done) ?_; intro A10 c10 w10 hown10 hg10 hat10 hb10; have b10 : Below w9.heap.size w9 w10 := ((Below.drew (Below.refl w9.heap.size w9)).alloc (Nat.le_refl _) _).trans hb10; have X10 := X9.out.below b10 lg9; have r2 : w10.cell? ⟨g, 2, none⟩ = some (.int .i64 (nowI s.now)) := X10.cell 2; have r3 : w10.cell? ⟨g, 3, none⟩ = some (.int .i64 s.number) := X10.cell 3; have r4 : w10.cell? ⟨g, 4, none⟩ = some (.slice B0 n0 d0) := X10.cell 4; have q2 := X10.frozen 2; have q3 := X10.frozen 3; have q4 := X10.frozen 4; have lg10 := X10.lt)
          | fail "no arm")
        all_goals
          have BL := BytesAt.of_ob (base := base) (h := ⟨A10, n, c10⟩) hown10
          have hsz9 : base ≤ w9.heap.size := by omega
          have hcap := hown10.cap
          have FIN := Lib.hid (SlotsAt.sets X10 (D9.out.below b10) hg (by have := b10.size; omega) BL (by omega) (by omega) hn (oth := 1) (o := 1) rfl (by omega) (s.number + 1))
          have S10 := Lib.hid (S9.out.trans (Step.of_below b10 hsz9))
          clear r2 r3 r4 q2 q3 q4 BL hown10 hg10 hat10 hb10 b10 u2 u3 u4 v2 v3 v4
          go_wp2
          try rw [Exit.noGoto_ret]
          go_ret
          have e9 := HR.out
          rw [if_neg (by simp), if_neg (by simp), if_neg (by simp), if_neg (by simp), if_neg (by simp)] at e9
          rw [e9]
          exact ⟨rfl, FIN.out.1, FIN.out.2.1, (S10.out.mono (fun _ e => List.mem_cons_of_mem _ e)).trans FIN.out.2.2⟩
set_option maxRecDepth 100000 in
theorem save_any {fl ml fr mr : Nat} (hS : SlotsAt w base g ga gb s) (hd : DiskS w base p D) (hs : base ≤ w.heap.size) (hg : base ≤ g) (hal : AreaAt w ga p.d fl ml) (har : AreaAt w gb p.d fr mr) (hml : 5 ≤ ml) (hmr : 5 ≤ mr) (hfl : fl + ml ≤ D.many) (hfr : fr + mr ≤ D.many)
    (hl : BytesAt w base ⟨A, n, c⟩ load) (hc : n ≤ c) (hcm : c ≤ maxLen) (hnb : -9223372036854775808 ≤ s.number ∧ s.number ≤ 9223372036854775807) (hw : D.waits.length < 800000) :
    Calls Try.prog 13 #[.pointer (some ⟨g, 0, none⟩), .slice A n c] w fun e w' => e = .returned (.int .i64 (saveSV D fl ml fr mr s load).2.2) ∧ DiskS w' base p (saveSV D fl ml fr mr s load).1 ∧ SlotsAt w' base g ga gb (saveSV D fl ml fr mr s load).2.1 ∧ Step mutS base p w w' := by
  have hlen : load.length = n := hl.1.1
  by_cases h3 : 512 < load.length ∨ s.number = 9223372036854775807
  · have hR : saveSV D fl ml fr mr s load = (D, s, 3) := by unfold saveSV; rw [if_pos h3]
    rw [hR]
    have HS := Lib.hid hS
    have HD := Lib.hid hd
    obtain ⟨B0, n0, d0, h1, _⟩ := hS
    have x0 : w.cell? ⟨g, 0, none⟩ = some (.pointer (some ⟨ga, 0, none⟩)) := h1.cell 0
    have x3 : w.cell? ⟨g, 3, none⟩ = some (.int .i64 s.number) := h1.cell 3
    have hcs : 512 < n ∨ (n ≤ 512 ∧ s.number = 9223372036854775807) := by rw [hlen] at h3; omega
    clear h1 h3 hd hl hal har hR hlen
    rcases hcs with q1 | ⟨q1, q2⟩
    · go_enter Try.func13, Try.ntmps13
      go_wp2
      go_ret
      exact ⟨rfl, HD.out, HS.out, Step.refl _ _ _ _⟩
    · have q3 : (s.number == 9223372036854775807) = true := by rw [q2]; rfl
      clear q2
      go_enter Try.func13, Try.ntmps13
      go_wp2
      go_ret
      exact ⟨rfl, HD.out, HS.out, Step.refl _ _ _ _⟩
  · have hR : saveSV D fl ml fr mr s load = if (saveA D (if s.now = 0 then fr else fl) (if s.now = 0 then mr else ml) (s.number + 1) load).2 ≠ 0 then ((saveA D (if s.now = 0 then fr else fl) (if s.now = 0 then mr else ml) (s.number + 1) load).1, s, (saveA D (if s.now = 0 then fr else fl) (if s.now = 0 then mr else ml) (s.number + 1) load).2)
      else ((saveA D (if s.now = 0 then fr else fl) (if s.now = 0 then mr else ml) (s.number + 1) load).1, ⟨if s.now = 0 then 1 else 0, s.number + 1, load⟩, 0) := by unfold saveSV; rw [if_neg h3]
    by_cases hn : s.now = 0
    · simp only [if_pos hn] at hR
      exact save_main _ 1 gb fr mr (.inr ⟨rfl, rfl, hn⟩) hR hS hd hs hg har hmr hfr hl hc hcm (by omega) (by omega) hnb hw
    · simp only [if_neg hn] at hR
      exact save_main _ 0 ga fl ml (.inl ⟨rfl, rfl, hn⟩) hR hS hd hs hg hal hml hfl hl hc hcm (by omega) (by omega) hnb hw
end
end Go.Proofs.Ytalmdccgpigppaa
namespace Go.Proofs.Ytalmdccgpigppaa
open Go.RowKit
set_option linter.unusedVariables false
set_option linter.unusedSimpArgs false
/-- One slot is looked at: what is known behind it; the error. -/
def stepO (S : DiskV × SlV3) (i f m : Nat) : (DiskV × SlV3) × Int :=
  if (wholeV S.1 f m).2.2.2 = 53 then (((wholeV S.1 f m).1, S.2), 0) else if (wholeV S.1 f m).2.2.2 ≠ 0 then (((wholeV S.1 f m).1, S.2), (wholeV S.1 f m).2.2.2)
  else if S.2.now = 2 ∨ S.2.number < (wholeV S.1 f m).2.2.1 then (((wholeV S.1 f m).1, ⟨i, (wholeV S.1 f m).2.2.1, (wholeV S.1 f m).2.1⟩), 0) else (((wholeV S.1 f m).1, S.2), 0)
/-- What is known behind none, one, both of them. -/
def stO (D : DiskV) (fl ml fr mr : Nat) : Nat → (DiskV × SlV3) × Int
  | 0 => ((D, ⟨2, 0, []⟩), 0)
  | 1 => stepO (D, ⟨2, 0, []⟩) 0 fl ml
  | _ => stepO (stepO (D, ⟨2, 0, []⟩) 0 fl ml).1 1 fr mr
theorem stO_next0 {D : DiskV} {fl ml fr mr : Nat} {S : DiskV × SlV3} (h : stO D fl ml fr mr 0 = (S, 0)) : stO D fl ml fr mr (0 + 1) = stepO S 0 fl ml := by
  show stepO (stO D fl ml fr mr 0).1 0 fl ml = _
  rw [h]
theorem stO_next1 {D : DiskV} {fl ml fr mr : Nat} {S : DiskV × SlV3} (h : stO D fl ml fr mr 1 = (S, 0)) : stO D fl ml fr mr (1 + 1) = stepO S 1 fr mr := by
  show stepO (stO D fl ml fr mr 1).1 1 fr mr = _
  rw [h]
theorem step_first (D : DiskV) (f m : Nat) : stepO (D, ⟨2, 0, []⟩) 0 f m = (((wholeV D f m).1, if (wholeV D f m).2.2.2 = 0 then ⟨0, (wholeV D f m).2.2.1, (wholeV D f m).2.1⟩ else ⟨2, 0, []⟩), if (wholeV D f m).2.2.2 = 53 then 0 else (wholeV D f m).2.2.2) := by
  unfold stepO
  simp only
  generalize wholeV D f m = W
  obtain ⟨D1, L, N, e⟩ := W
  simp only
  by_cases a : e = 53
  · subst a; simp
  · by_cases b : e = 0
    · subst b; simp
    · simp [a, b]
theorem openSV_bad {D : DiskV} {fl ml fr mr : Nat} (h : (stO D fl ml fr mr 1).2 ≠ 0) : openSV D fl ml fr mr = ((stO D fl ml fr mr 1).1.1, ⟨2, 0, []⟩, (stO D fl ml fr mr 1).2) := by
  have e1 : stO D fl ml fr mr 1 = stepO (D, ⟨2, 0, []⟩) 0 fl ml := rfl
  rw [e1, step_first] at h ⊢
  unfold openSV
  generalize wholeV D fl ml = W at *
  obtain ⟨D1, L, N, e⟩ := W
  simp only at *
  by_cases a : e = 53
  · subst a; simp at h
  · rw [if_neg a] at h ⊢
    rw [if_pos ⟨h, a⟩]
theorem openSV_two {D : DiskV} {fl ml fr mr : Nat} (h1 : (stO D fl ml fr mr 1).2 = 0) : ((stO D fl ml fr mr 2).2 ≠ 0 → openSV D fl ml fr mr = ((stO D fl ml fr mr 2).1.1, ⟨2, 0, []⟩, (stO D fl ml fr mr 2).2)) ∧ ((stO D fl ml fr mr 2).2 = 0 → openSV D fl ml fr mr = ((stO D fl ml fr mr 2).1.1, (stO D fl ml fr mr 2).1.2, 0)) := by
  have e1 : stO D fl ml fr mr 1 = stepO (D, ⟨2, 0, []⟩) 0 fl ml := rfl
  have e2 : stO D fl ml fr mr 2 = stepO (stepO (D, ⟨2, 0, []⟩) 0 fl ml).1 1 fr mr := rfl
  rw [e1, step_first] at h1
  rw [e2, step_first]
  unfold openSV stepO
  generalize wholeV D fl ml = W at *
  obtain ⟨D1, L, N, e⟩ := W
  simp only at *
  generalize wholeV D1 fr mr = W2 at *
  obtain ⟨D2, L2, N2, e2⟩ := W2
  simp only
  have he : e = 53 ∨ e = 0 := by
    by_cases a : e = 53
    · exact .inl a
    · rw [if_neg a] at h1; exact .inr h1
  by_cases b53 : e2 = 53
  · subst b53
    rcases he with rfl | rfl <;> simp
  · by_cases b0 : e2 = 0
    · subst b0
      rcases he with rfl | rfl
      · simp
      · by_cases hc : N < N2
        · have : ¬ N2 ≤ N := by omega
          simp [hc, this]
        · have : N2 ≤ N := by omega
          simp [hc, this]
    · rcases he with rfl | rfl <;> simp [b53, b0]
theorem openSV_bad2 {D : DiskV} {fl ml fr mr : Nat} (h1 : (stO D fl ml fr mr 1).2 = 0) (h : (stO D fl ml fr mr 2).2 ≠ 0) : openSV D fl ml fr mr = ((stO D fl ml fr mr 2).1.1, ⟨2, 0, []⟩, (stO D fl ml fr mr 2).2) := (openSV_two h1).1 h
theorem openSV_good {D : DiskV} {fl ml fr mr : Nat} (h1 : (stO D fl ml fr mr 1).2 = 0) (h : (stO D fl ml fr mr 2).2 = 0) : openSV D fl ml fr mr = ((stO D fl ml fr mr 2).1.1, (stO D fl ml fr mr 2).1.2, 0) := (openSV_two h1).2 h
theorem wholeV_many (D : DiskV) (f m : Nat) : (wholeV D f m).1.many = D.many ∧ (wholeV D f m).1.waits = D.waits := by
  have h : (aReadV D f m 0).1.many = D.many ∧ (aReadV D f m 0).1.waits = D.waits := by
    unfold aReadV readV
    split
    · exact ⟨rfl, rfl⟩
    · split
      · exact ⟨rfl, rfl⟩
      · exact ⟨rfl, rfl⟩
  have h2 : ∀ k, (rdK (aReadV D f m 0).1 k).many = D.many ∧ (rdK (aReadV D f m 0).1 k).waits = D.waits := fun k => by
    obtain ⟨o, e⟩ := rdK_ops (aReadV D f m 0).1 k
    rw [e]; exact h
  unfold wholeV
  split
  · exact h
  split
  · exact h
  split
  · exact h
  split
  · exact h2 _
  · exact h2 _
/-- What opening both leaves. -/
def SOPost (w : World) (base : Nat) (p : DiskP) (ga gb : Nat) (R : DiskV × SlV3 × Int) (e : Ending) (w' : World) : Prop :=
  ∃ P, e = .returned (.tuple #[.pointer P, .int .i64 R.2.2]) ∧ (R.2.2 ≠ 0 → P = none) ∧ (R.2.2 = 0 → ∃ g, P = some ⟨g, 0, none⟩ ∧ w.heap.size ≤ g ∧ SlotsAt w' base g ga gb R.2.1) ∧ DiskS w' base p R.1 ∧ Step mutD base p w w'
section
variable {w w' : World} {base ga gb fl ml fr mr : Nat} {p : DiskP} {D : DiskV}
theorem SOPost.no {z : Int} {s : SlV3} (hz : z ≠ 0) (hd : DiskS w' base p D) (hs : Step mutD base p w w') : SOPost w base p ga gb (D, s, z) (.returned (.tuple #[.pointer none, .int .i64 z])) w' :=
  ⟨none, rfl, fun _ => rfl, fun e => absurd e hz, hd, hs⟩
set_option maxRecDepth 100000 in
set_option maxHeartbeats 20000000 in
theorem sopen_any (hd : DiskS w base p D) (hs : base ≤ w.heap.size) (hal : AreaAt w ga p.d fl ml) (har : AreaAt w gb p.d fr mr) (hml : 5 ≤ ml) (hmr : 5 ≤ mr) (hfl : fl + ml ≤ D.many) (hfr : fr + mr ≤ D.many) :
    Calls Try.prog 11 #[.pointer (some ⟨ga, 0, none⟩), .pointer (some ⟨gb, 0, none⟩)] w (SOPost w base p ga gb (openSV D fl ml fr mr)) := by
  have bA : Below w.heap.size w (w.alloc (.cells #[.pointer (some ⟨ga, 0, none⟩), .pointer (some ⟨gb, 0, none⟩), .int .i64 (-1), .int .i64 0, .slice none 0 0] 111)) := (Below.refl _ _).alloc (Nat.le_refl _) _
  have c1 := many_any (Blk.below hal bA (Blk.lt hal))
  have c2 := many_any (Blk.below har bA (Blk.lt har))
  have n1 : ((ml : Int) == 0) = false := by rw [beq_eq_false_iff_ne]; omega
  have n2 : ((mr : Int) == 0) = false := by rw [beq_eq_false_iff_ne]; omega
  have BA := Lib.hid bA
  have HD0 := Lib.hid hd
  have HAL := Lib.hid hal
  have HAR := Lib.hid har
  have SA0 := Lib.hid (show SlotsAt (w.alloc (.cells #[.pointer (some ⟨ga, 0, none⟩), .pointer (some ⟨gb, 0, none⟩), .int .i64 (-1), .int .i64 0, .slice none 0 0] 111)) base w.heap.size ga gb ⟨2, 0, []⟩ from ⟨none, 0, 0, Blk.top _ rfl rfl, Nat.le_refl _, by decide, ⟨⟨rfl, Row.nil _ _ _⟩, by decide, fun h => absurd h (by simp)⟩, by decide, by omega⟩)
  have hbad := Lib.hid (fun h => openSV_bad (D := D) (fl := fl) (ml := ml) (fr := fr) (mr := mr) h)
  have hbad2 := Lib.hid (fun h1 h => openSV_bad2 (D := D) (fl := fl) (ml := ml) (fr := fr) (mr := mr) h1 h)
  have hgood := Lib.hid (fun h1 h => openSV_good (D := D) (fl := fl) (ml := ml) (fr := fr) (mr := mr) h1 h)
  generalize openSV D fl ml fr mr = R at *
  clear hal har bA hd
  go_enter Try.func11, Try.ntmps11
  go_wp2_with fail
  go_loopw [17] (fun i wr => (i = .int .i64 0 ∨ i = .int .i64 1 ∨ i = .int .i64 2) ∧ (w.alloc (.cells #[.pointer (some ⟨ga, 0, none⟩), .pointer (some ⟨gb, 0, none⟩), .int .i64 (-1), .int .i64 0, .slice none 0 0] 111)) = wr) (fun i _ => 2 - (intOf i).toNat)
  case atStart => exact ⟨.inl rfl, rfl⟩
  case round =>
    obtain ⟨hi, rfl⟩ := hrel
    rcases hi with rfl | rfl | rfl
    · go_wp2_with (first
        | (go_at_call 47; (with_reducible refine (c1).mono ?_); rintro e w1 ⟨rfl, rfl⟩)
        | fail "no arm")
      go_roundw
      case rel => exact ⟨.inr (.inl rfl), trivial⟩
      case measure => simp [intOf]
    · go_wp2_with (first
        | (go_at_call 47; (with_reducible refine (c2).mono ?_); rintro e w1 ⟨rfl, rfl⟩)
        | fail "no arm")
      go_roundw
      case rel => exact ⟨.inr (.inr rfl), trivial⟩
      case measure => simp [intOf]
    · go_wp2_with (first
        | (go_at_call 47; (with_reducible refine (c1).mono ?_); rintro e w1 ⟨rfl, rfl⟩)
        | (go_at_call 47; (with_reducible refine (c2).mono ?_); rintro e w1 ⟨rfl, rfl⟩)
        | fail "no arm")
      clear c1 c2 n1 n2
      go_loopw [37] (fun i wr => ∃ (k : Nat) (Dk : DiskV) (s' : SlV3), k ≤ 2 ∧ i = .int .i64 (k : Nat) ∧ Hid (stO D fl ml fr mr k = ((Dk, s'), 0)) ∧ (k = 2 → Hid ((stO D fl ml fr mr 1).2 = 0)) ∧ Dk.many = D.many ∧ Dk.waits = D.waits ∧ DiskS wr base p Dk ∧ SlotsAt wr base w.heap.size ga gb s' ∧ Step mutD base p w wr) (fun i _ => 2 - (intOf i).toNat)
      case atStart => exact ⟨0, D, ⟨2, 0, []⟩, by omega, rfl, Lib.hid rfl, fun e => absurd e (by omega), rfl, rfl, HD0.out.below BA.out, SA0.out, Step.of_below BA.out hs⟩
      case round =>
        obtain ⟨k, Dk, s', hk2, rfl, hk, hk1, hmk, hwk, hdk, hsa, hst⟩ := hrel
        have hsz := hst.size
        have hal : AreaAt wr ga p.d fl ml := HD0.out.area HAL.out hst.tch (by decide)
        have har : AreaAt wr gb p.d fr mr := HD0.out.area HAR.out hst.tch (by decide)
        have hsa2 := hsa
        obtain ⟨B0, n0, d0, hblk, _⟩ := hsa2
        have hkc : k = 0 ∨ k = 1 ∨ k = 2 := by omega
        rcases hkc with rfl | rfl | rfl
        · skip
          have hwh := whole_any hdk (by omega) hal hml (by rw [hmk]; exact hfl)
          have x2 : wr.cell? ⟨w.heap.size, 2, none⟩ = some (.int .i64 (nowI s'.now)) := hblk.cell 2
          have x3 : wr.cell? ⟨w.heap.size, 3, none⟩ = some (.int .i64 s'.number) := hblk.cell 3
          have x4 : wr.cell? ⟨w.heap.size, 4, none⟩ = some (.slice B0 n0 d0) := hblk.cell 4
          have xi : wr.cell? ⟨w.heap.size, 0, none⟩ = some (.pointer (some ⟨ga, 0, none⟩)) := hblk.cell 0
          have HMW := Lib.hid (wholeV_many Dk fl ml)
          have HST8 := Lib.hid (show stO D fl ml fr mr (0 + 1) = stepO (Dk, s') 0 fl ml from stO_next0 hk.out)
          unfold stepO at HST8
          simp only at HST8
          generalize wholeV Dk fl ml = RW at *
          obtain ⟨D1, L1, N1, er⟩ := RW
          have HDK := Lib.hid hdk
          have HBLK := Lib.hid hblk
          have HSA := Lib.hid hsa
          have HST := Lib.hid hst
          clear hdk hblk hsa hst hk hk1
          simp only at hwh HST8 HMW
          by_cases he53 : er = 53
          · subst he53
            have HE5 := Lib.hid (show stO D fl ml fr mr (0 + 1) = ((D1, s'), 0) from by have e9 := HST8.out; rwa [if_pos rfl] at e9)
            go_wp2_with (first
              | ((go_at_call 48; (with_reducible refine (hwh).mono ?_); rintro e w1 ⟨B, n, d, rfl, hnd, hdm, hn5, hba, hd1, st1⟩); have D1' := Lib.hid hd1; have S1 := Lib.hid (HST.out.trans st1); have SA1 := Lib.hid (HSA.out.step HDK.out st1); clear hd1 st1 hba)
              | fail "no arm")
            go_roundw
            case rel =>
              first
                | exact ⟨0 + 1, D1, s', by omega, by go_num, HE5, fun _ => absurd (by assumption) (by omega), HMW.out.1.trans hmk, HMW.out.2.trans hwk, D1'.out, SA1.out, S1.out⟩
                | ((repeat apply Exists.intro); exact ⟨⟨0 + 1, D1, s', by omega, by go_num, HE5, fun _ => absurd (by assumption) (by omega), HMW.out.1.trans hmk, HMW.out.2.trans hwk, D1'.out, SA1.out, S1.out⟩, rfl⟩)
            case measure => simp [intOf]
          · by_cases he0 : er = 0
            · subst he0
              have HE9 := Lib.hid HST8.out
              by_cases h2 : s'.now = 2
              · rw [show nowI s'.now = -1 from by rw [h2]; rfl] at x2
                have H22 := Lib.hid h2
                clear he53 h2
                go_wp2_with (first
                  | ((go_at_call 48; (with_reducible refine (hwh).mono ?_); rintro e w1 ⟨B, n, d, rfl, hnd, hdm, hn5, hba, hd1, st1⟩); have D1' := Lib.hid hd1; have S1 := Lib.hid (HST.out.trans st1); have X1 := Lib.hid (HDK.out.blk HBLK.out st1.tch (by decide)); have y2 : w1.cell? ⟨w.heap.size, 2, none⟩ = some (.int .i64 (-1)) := (by have q := X1.out.cell 2; rw [show slotC ga gb s' B0 n0 d0 = [.pointer (some ⟨ga, 0, none⟩), .pointer (some ⟨gb, 0, none⟩), .int .i64 (nowI s'.now), .int .i64 s'.number, .slice B0 n0 d0] from rfl, H22.out] at q; exact q); have y3 : w1.cell? ⟨w.heap.size, 3, none⟩ = some (.int .i64 s'.number) := X1.out.cell 3; have y4 : w1.cell? ⟨w.heap.size, 4, none⟩ = some (.slice B0 n0 d0) := X1.out.cell 4; have v2 := X1.out.frozen 2; have v3 := X1.out.frozen 3; have v4 := X1.out.frozen 4; have l1 := X1.out.lt; have BA := Lib.hid hba; clear hd1 st1 hba)
                  | fail "no arm")
                have sz1 := S1.out.size
                have FIN := Lib.hid (SlotsAt.sets (o := 0) (oth := 0) X1.out D1'.out hs (by omega) BA.out hnd hdm hn5 rfl (by omega) N1)
                have bF := Lib.hid ((((Below.refl w.heap.size w1).setCell (p := ⟨w.heap.size, 2, none⟩) (Nat.le_refl _) (.int .i64 0)).setCell (p := ⟨w.heap.size, 3, none⟩) (Nat.le_refl _) (.int .i64 N1)).setCell (p := ⟨w.heap.size, 4, none⟩) (Nat.le_refl _) (.slice B n d))
                go_roundw
                case rel =>
                  have e9 := HE9.out
                  rw [if_neg (by simp), if_neg (by simp), if_pos (.inl H22.out)] at e9
                  first
                    | exact ⟨0 + 1, D1, ⟨0, N1, L1⟩, by omega, by go_num, Lib.hid e9, fun _ => absurd (by assumption) (by omega), HMW.out.1.trans hmk, HMW.out.2.trans hwk, FIN.out.1, FIN.out.2.1, S1.out.then_below bF.out hs⟩
                    | ((repeat apply Exists.intro); exact ⟨⟨0 + 1, D1, ⟨0, N1, L1⟩, by omega, by go_num, Lib.hid e9, fun _ => absurd (by assumption) (by omega), HMW.out.1.trans hmk, HMW.out.2.trans hwk, FIN.out.1, FIN.out.2.1, S1.out.then_below bF.out hs⟩, rfl⟩)
                case measure => simp [intOf]
              · have hni : (nowI s'.now == -1) = false := by rw [beq_eq_false_iff_ne]; unfold nowI; rw [if_neg h2]; omega
                by_cases hgt : s'.number < N1
                · have H22 := Lib.hid h2
                  clear he53 h2
                  go_wp2_with (first
                    | ((go_at_call 48; (with_reducible refine (hwh).mono ?_); rintro e w1 ⟨B, n, d, rfl, hnd, hdm, hn5, hba, hd1, st1⟩); have D1' := Lib.hid hd1; have S1 := Lib.hid (HST.out.trans st1); have X1 := Lib.hid (HDK.out.blk HBLK.out st1.tch (by decide)); have y2 : w1.cell? ⟨w.heap.size, 2, none⟩ = some (.int .i64 (nowI s'.now)) := X1.out.cell 2; have y3 : w1.cell? ⟨w.heap.size, 3, none⟩ = some (.int .i64 s'.number) := X1.out.cell 3; have y4 : w1.cell? ⟨w.heap.size, 4, none⟩ = some (.slice B0 n0 d0) := X1.out.cell 4; have v2 := X1.out.frozen 2; have v3 := X1.out.frozen 3; have v4 := X1.out.frozen 4; have l1 := X1.out.lt; have BA := Lib.hid hba; clear hd1 st1 hba)
                    | fail "no arm")
                  have sz1 := S1.out.size
                  have FIN := Lib.hid (SlotsAt.sets (o := 0) (oth := 0) X1.out D1'.out hs (by omega) BA.out hnd hdm hn5 rfl (by omega) N1)
                  have bF := Lib.hid ((((Below.refl w.heap.size w1).setCell (p := ⟨w.heap.size, 2, none⟩) (Nat.le_refl _) (.int .i64 0)).setCell (p := ⟨w.heap.size, 3, none⟩) (Nat.le_refl _) (.int .i64 N1)).setCell (p := ⟨w.heap.size, 4, none⟩) (Nat.le_refl _) (.slice B n d))
                  go_roundw
                  case rel =>
                    have e9 := HE9.out
                    rw [if_neg (by simp), if_neg (by simp), if_pos (.inr hgt)] at e9
                    first
                      | exact ⟨0 + 1, D1, ⟨0, N1, L1⟩, by omega, by go_num, Lib.hid e9, fun _ => absurd (by assumption) (by omega), HMW.out.1.trans hmk, HMW.out.2.trans hwk, FIN.out.1, FIN.out.2.1, S1.out.then_below bF.out hs⟩
                      | ((repeat apply Exists.intro); exact ⟨⟨0 + 1, D1, ⟨0, N1, L1⟩, by omega, by go_num, Lib.hid e9, fun _ => absurd (by assumption) (by omega), HMW.out.1.trans hmk, HMW.out.2.trans hwk, FIN.out.1, FIN.out.2.1, S1.out.then_below bF.out hs⟩, rfl⟩)
                  case measure => simp [intOf]
                · have H22 := Lib.hid h2
                  have HGT := Lib.hid hgt
                  clear he53 h2
                  go_wp2_with (first
                    | ((go_at_call 48; (with_reducible refine (hwh).mono ?_); rintro e w1 ⟨B, n, d, rfl, hnd, hdm, hn5, hba, hd1, st1⟩); have D1' := Lib.hid hd1; have S1 := Lib.hid (HST.out.trans st1); have SA1 := Lib.hid (HSA.out.step HDK.out st1); have X1 := Lib.hid (HDK.out.blk HBLK.out st1.tch (by decide)); have y2 : w1.cell? ⟨w.heap.size, 2, none⟩ = some (.int .i64 (nowI s'.now)) := X1.out.cell 2; have y3 : w1.cell? ⟨w.heap.size, 3, none⟩ = some (.int .i64 s'.number) := X1.out.cell 3; clear hd1 st1 hba)
                    | fail "no arm")
                  go_roundw
                  case rel =>
                    have e9 := HE9.out
                    rw [if_neg (by simp), if_neg (by simp), if_neg (fun e => by rcases e with e | e; exact H22.out e; (have := HGT.out; omega))] at e9
                    first
                      | exact ⟨0 + 1, D1, s', by omega, by go_num, Lib.hid e9, fun _ => absurd (by assumption) (by omega), HMW.out.1.trans hmk, HMW.out.2.trans hwk, D1'.out, SA1.out, S1.out⟩
                      | ((repeat apply Exists.intro); exact ⟨⟨0 + 1, D1, s', by omega, by go_num, Lib.hid e9, fun _ => absurd (by assumption) (by omega), HMW.out.1.trans hmk, HMW.out.2.trans hwk, D1'.out, SA1.out, S1.out⟩, rfl⟩)
                  case measure => simp [intOf]
            · have hb53 : (er == 53) = false := by rw [beq_eq_false_iff_ne]; exact he53
              have hb0 : (er != 0) = true := by rw [bne_iff_ne]; exact he0
              have HE53 := Lib.hid he53
              have HE0 := Lib.hid he0
              clear he53 he0
              go_wp2_with (first
                | ((go_at_call 48; (with_reducible refine (hwh).mono ?_); rintro e w1 ⟨B, n, d, rfl, hnd, hdm, hn5, hba, hd1, st1⟩); have D1' := Lib.hid hd1; have S1 := Lib.hid (HST.out.trans st1); clear hd1 st1 hba)
                | fail "no arm")
              try rw [Exit.noGoto_ret]
              go_ret2
              have e9 := HST8.out
              rw [if_neg HE53.out, if_pos HE0.out] at e9
              (have e8 := hbad.out (by rw [show stO D fl ml fr mr 1 = _ from e9]; exact HE0.out); rw [e8, show stO D fl ml fr mr 1 = _ from e9]; exact SOPost.no HE0.out D1'.out S1.out)
        · have HK1 := Lib.hid (show (stO D fl ml fr mr 1).2 = 0 from by rw [hk.out])
          have hwh := whole_any hdk (by omega) har hmr (by rw [hmk]; exact hfr)
          have x2 : wr.cell? ⟨w.heap.size, 2, none⟩ = some (.int .i64 (nowI s'.now)) := hblk.cell 2
          have x3 : wr.cell? ⟨w.heap.size, 3, none⟩ = some (.int .i64 s'.number) := hblk.cell 3
          have x4 : wr.cell? ⟨w.heap.size, 4, none⟩ = some (.slice B0 n0 d0) := hblk.cell 4
          have xi : wr.cell? ⟨w.heap.size, 1, none⟩ = some (.pointer (some ⟨gb, 0, none⟩)) := hblk.cell 1
          have HMW := Lib.hid (wholeV_many Dk fr mr)
          have HST8 := Lib.hid (show stO D fl ml fr mr (1 + 1) = stepO (Dk, s') 1 fr mr from stO_next1 hk.out)
          unfold stepO at HST8
          simp only at HST8
          generalize wholeV Dk fr mr = RW at *
          obtain ⟨D1, L1, N1, er⟩ := RW
          have HDK := Lib.hid hdk
          have HBLK := Lib.hid hblk
          have HSA := Lib.hid hsa
          have HST := Lib.hid hst
          clear hdk hblk hsa hst hk hk1
          simp only at hwh HST8 HMW
          by_cases he53 : er = 53
          · subst he53
            have HE5 := Lib.hid (show stO D fl ml fr mr (1 + 1) = ((D1, s'), 0) from by have e9 := HST8.out; rwa [if_pos rfl] at e9)
            go_wp2_with (first
              | ((go_at_call 48; (with_reducible refine (hwh).mono ?_); rintro e w1 ⟨B, n, d, rfl, hnd, hdm, hn5, hba, hd1, st1⟩); have D1' := Lib.hid hd1; have S1 := Lib.hid (HST.out.trans st1); have SA1 := Lib.hid (HSA.out.step HDK.out st1); clear hd1 st1 hba)
              | fail "no arm")
            go_roundw
            case rel =>
              first
                | exact ⟨1 + 1, D1, s', by omega, by go_num, HE5, fun _ => HK1, HMW.out.1.trans hmk, HMW.out.2.trans hwk, D1'.out, SA1.out, S1.out⟩
                | ((repeat apply Exists.intro); exact ⟨⟨1 + 1, D1, s', by omega, by go_num, HE5, fun _ => HK1, HMW.out.1.trans hmk, HMW.out.2.trans hwk, D1'.out, SA1.out, S1.out⟩, rfl⟩)
            case measure => simp [intOf]
          · by_cases he0 : er = 0
            · subst he0
              have HE9 := Lib.hid HST8.out
              by_cases h2 : s'.now = 2
              · rw [show nowI s'.now = -1 from by rw [h2]; rfl] at x2
                have H22 := Lib.hid h2
                clear he53 h2
                go_wp2_with (first
                  | ((go_at_call 48; (with_reducible refine (hwh).mono ?_); rintro e w1 ⟨B, n, d, rfl, hnd, hdm, hn5, hba, hd1, st1⟩); have D1' := Lib.hid hd1; have S1 := Lib.hid (HST.out.trans st1); have X1 := Lib.hid (HDK.out.blk HBLK.out st1.tch (by decide)); have y2 : w1.cell? ⟨w.heap.size, 2, none⟩ = some (.int .i64 (-1)) := (by have q := X1.out.cell 2; rw [show slotC ga gb s' B0 n0 d0 = [.pointer (some ⟨ga, 0, none⟩), .pointer (some ⟨gb, 0, none⟩), .int .i64 (nowI s'.now), .int .i64 s'.number, .slice B0 n0 d0] from rfl, H22.out] at q; exact q); have y3 : w1.cell? ⟨w.heap.size, 3, none⟩ = some (.int .i64 s'.number) := X1.out.cell 3; have y4 : w1.cell? ⟨w.heap.size, 4, none⟩ = some (.slice B0 n0 d0) := X1.out.cell 4; have v2 := X1.out.frozen 2; have v3 := X1.out.frozen 3; have v4 := X1.out.frozen 4; have l1 := X1.out.lt; have BA := Lib.hid hba; clear hd1 st1 hba)
                  | fail "no arm")
                have sz1 := S1.out.size
                have FIN := Lib.hid (SlotsAt.sets (o := 1) (oth := 1) X1.out D1'.out hs (by omega) BA.out hnd hdm hn5 rfl (by omega) N1)
                have bF := Lib.hid ((((Below.refl w.heap.size w1).setCell (p := ⟨w.heap.size, 2, none⟩) (Nat.le_refl _) (.int .i64 1)).setCell (p := ⟨w.heap.size, 3, none⟩) (Nat.le_refl _) (.int .i64 N1)).setCell (p := ⟨w.heap.size, 4, none⟩) (Nat.le_refl _) (.slice B n d))
                go_roundw
                case rel =>
                  have e9 := HE9.out
                  rw [if_neg (by simp), if_neg (by simp), if_pos (.inl H22.out)] at e9
                  first
                    | exact ⟨1 + 1, D1, ⟨1, N1, L1⟩, by omega, by go_num, Lib.hid e9, fun _ => HK1, HMW.out.1.trans hmk, HMW.out.2.trans hwk, FIN.out.1, FIN.out.2.1, S1.out.then_below bF.out hs⟩
                    | ((repeat apply Exists.intro); exact ⟨⟨1 + 1, D1, ⟨1, N1, L1⟩, by omega, by go_num, Lib.hid e9, fun _ => HK1, HMW.out.1.trans hmk, HMW.out.2.trans hwk, FIN.out.1, FIN.out.2.1, S1.out.then_below bF.out hs⟩, rfl⟩)
                case measure => simp [intOf]
              · have hni : (nowI s'.now == -1) = false := by rw [beq_eq_false_iff_ne]; unfold nowI; rw [if_neg h2]; omega
                by_cases hgt : s'.number < N1
                · have H22 := Lib.hid h2
                  clear he53 h2
                  go_wp2_with (first
                    | ((go_at_call 48; (with_reducible refine (hwh).mono ?_); rintro e w1 ⟨B, n, d, rfl, hnd, hdm, hn5, hba, hd1, st1⟩); have D1' := Lib.hid hd1; have S1 := Lib.hid (HST.out.trans st1); have X1 := Lib.hid (HDK.out.blk HBLK.out st1.tch (by decide)); have y2 : w1.cell? ⟨w.heap.size, 2, none⟩ = some (.int .i64 (nowI s'.now)) := X1.out.cell 2; have y3 : w1.cell? ⟨w.heap.size, 3, none⟩ = some (.int .i64 s'.number) := X1.out.cell 3; have y4 : w1.cell? ⟨w.heap.size, 4, none⟩ = some (.slice B0 n0 d0) := X1.out.cell 4; have v2 := X1.out.frozen 2; have v3 := X1.out.frozen 3; have v4 := X1.out.frozen 4; have l1 := X1.out.lt; have BA := Lib.hid hba; clear hd1 st1 hba)
                    | fail "no arm")
                  have sz1 := S1.out.size
                  have FIN := Lib.hid (SlotsAt.sets (o := 1) (oth := 1) X1.out D1'.out hs (by omega) BA.out hnd hdm hn5 rfl (by omega) N1)
                  have bF := Lib.hid ((((Below.refl w.heap.size w1).setCell (p := ⟨w.heap.size, 2, none⟩) (Nat.le_refl _) (.int .i64 1)).setCell (p := ⟨w.heap.size, 3, none⟩) (Nat.le_refl _) (.int .i64 N1)).setCell (p := ⟨w.heap.size, 4, none⟩) (Nat.le_refl _) (.slice B n d))
                  go_roundw
                  case rel =>
                    have e9 := HE9.out
                    rw [if_neg (by simp), if_neg (by simp), if_pos (.inr hgt)] at e9
                    first
                      | exact ⟨1 + 1, D1, ⟨1, N1, L1⟩, by omega, by go_num, Lib.hid e9, fun _ => HK1, HMW.out.1.trans hmk, HMW.out.2.trans hwk, FIN.out.1, FIN.out.2.1, S1.out.then_below bF.out hs⟩
                      | ((repeat apply Exists.intro); exact ⟨⟨1 + 1, D1, ⟨1, N1, L1⟩, by omega, by go_num, Lib.hid e9, fun _ => HK1, HMW.out.1.trans hmk, HMW.out.2.trans hwk, FIN.out.1, FIN.out.2.1, S1.out.then_below bF.out hs⟩, rfl⟩)
                  case measure => simp [intOf]
                · have H22 := Lib.hid h2
                  have HGT := Lib.hid hgt
                  clear he53 h2
                  go_wp2_with (first
                    | ((go_at_call 48; (with_reducible refine (hwh).mono ?_); rintro e w1 ⟨B, n, d, rfl, hnd, hdm, hn5, hba, hd1, st1⟩); have D1' := Lib.hid hd1; have S1 := Lib.hid (HST.out.trans st1); have SA1 := Lib.hid (HSA.out.step HDK.out st1); have X1 := Lib.hid (HDK.out.blk HBLK.out st1.tch (by decide)); have y2 : w1.cell? ⟨w.heap.size, 2, none⟩ = some (.int .i64 (nowI s'.now)) := X1.out.cell 2; have y3 : w1.cell? ⟨w.heap.size, 3, none⟩ = some (.int .i64 s'.number) := X1.out.cell 3; clear hd1 st1 hba)
                    | fail "no arm")
                  go_roundw
                  case rel =>
                    have e9 := HE9.out
                    rw [if_neg (by simp), if_neg (by simp), if_neg (fun e => by rcases e with e | e; exact H22.out e; (have := HGT.out; omega))] at e9
                    first
                      | exact ⟨1 + 1, D1, s', by omega, by go_num, Lib.hid e9, fun _ => HK1, HMW.out.1.trans hmk, HMW.out.2.trans hwk, D1'.out, SA1.out, S1.out⟩
                      | ((repeat apply Exists.intro); exact ⟨⟨1 + 1, D1, s', by omega, by go_num, Lib.hid e9, fun _ => HK1, HMW.out.1.trans hmk, HMW.out.2.trans hwk, D1'.out, SA1.out, S1.out⟩, rfl⟩)
                  case measure => simp [intOf]
            · have hb53 : (er == 53) = false := by rw [beq_eq_false_iff_ne]; exact he53
              have hb0 : (er != 0) = true := by rw [bne_iff_ne]; exact he0
              have HE53 := Lib.hid he53
              have HE0 := Lib.hid he0
              clear he53 he0
              go_wp2_with (first
                | ((go_at_call 48; (with_reducible refine (hwh).mono ?_); rintro e w1 ⟨B, n, d, rfl, hnd, hdm, hn5, hba, hd1, st1⟩); have D1' := Lib.hid hd1; have S1 := Lib.hid (HST.out.trans st1); clear hd1 st1 hba)
                | fail "no arm")
              try rw [Exit.noGoto_ret]
              go_ret2
              have e9 := HST8.out
              rw [if_neg HE53.out, if_pos HE0.out] at e9
              (have e8 := hbad2.out HK1.out (by rw [show stO D fl ml fr mr 2 = _ from e9]; exact HE0.out); rw [e8, show stO D fl ml fr mr 2 = _ from e9]; exact SOPost.no HE0.out D1'.out S1.out)
        · have e9 := hgood.out (hk1 rfl).out (by rw [hk.out])
          rw [hk.out] at e9
          have HE := Lib.hid e9
          have HDK := Lib.hid hdk
          have HSA := Lib.hid hsa
          have HST := Lib.hid hst
          clear e9 hdk hsa hst hblk hal har hk
          go_wp2
          try rw [Exit.noGoto_ret]
          go_ret2
          rw [HE.out]
          exact ⟨_, rfl, fun e => absurd rfl e, fun _ => ⟨_, rfl, Nat.le_refl _, HSA.out⟩, HDK.out, HST.out⟩
end
end Go.Proofs.Ytalmdccgpigppaa
namespace Go.Proofs.Ytalmdccgpigppaa
open Go.RowKit
set_option linter.unusedVariables false
set_option linter.unusedSimpArgs false
/-- A disk and two areas of it. -/
structure A10 (w0 w : World) (base : Nat) (p : DiskP) (ga gb : Nat) (D : DiskV) : Prop where
  sd : DiskS w base p D
  a : AreaAt w ga p.d 0 6
  b : AreaAt w gb p.d 6 6
  bel : Below base w0 w
  bs : base ≤ w0.heap.size
section
variable {w w' w0 : World} {base ga gb : Nat} {p : DiskP} {D D' : DiskV}
theorem A10.size (h : A10 w0 w base p ga gb D) : base ≤ w.heap.size := Nat.le_trans h.bs h.bel.size
theorem A10.below (h : A10 w0 w base p ga gb D) (hb : Below w.heap.size w w') : A10 w0 w' base p ga gb D := ⟨h.sd.below hb, Blk.below h.a hb (Blk.lt h.a), Blk.below h.b hb (Blk.lt h.b), h.bel.trans (hb.mono h.size), h.bs⟩
theorem A10.step (h : A10 w0 w base p ga gb D) (st : Step mutD base p w w') (hd : DiskS w' base p D') : A10 w0 w' base p ga gb D' := ⟨hd, h.sd.area h.a st.tch (by decide), h.sd.area h.b st.tch (by decide), h.bel.trans st.bel, h.bs⟩
def Made10 (w : World) (D : DiskV) (e : Ending) (w' : World) : Prop := ∃ p ga gb, e = .returned (.tuple #[.pointer (some ⟨p.d, 0, none⟩), .pointer (some ⟨ga, 0, none⟩), .pointer (some ⟨gb, 0, none⟩)]) ∧ A10 w w' w.heap.size p ga gb D
end
def D10a : DiskV := loadD 12 12 [] 0
end Go.Proofs.Ytalmdccgpigppaa
