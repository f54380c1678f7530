/- SlotsDoes: what is done to both slots. -/
import Derived.Test.YtninidpbchcliaaRSlotA
import Derived.Test.YtninidpbchcliaaSlotC
import Derived.Test.YtninidpbchcliaaDo10
namespace Go.Proofs.Ytninidpbchcliaa
open Go.RowKit
set_option linter.unusedVariables false
set_option linter.unusedSimpArgs false
def bothSC (p : DiskP) (q : RDiskP) (ga gb : Nat) (P1 P2 : Option Addr) : List Value := [.pointer (some ⟨p.d, 0, none⟩), .pointer (some ⟨ga, 0, none⟩), .pointer (some ⟨gb, 0, none⟩), .pointer P1, .pointer (some ⟨q.d, 0, none⟩), .pointer P2]
/-- What is carried along in a play. -/
structure SB (w0 w : World) (base : Nat) (p : DiskP) (q : RDiskP) (ga gb gk : Nat) (P1 P2 : Option Addr) (E D : DiskV) : Prop where
  sd : DiskS w base p E
  sr : RDiskS w base q D
  n1 : q.gi ≠ p.gi
  n2 : q.gi ≠ p.gm
  a : AreaAt w ga p.d 0 6
  b : AreaAt w gb p.d 6 6
  bo : Blk w gk 127 (bothSC p q ga gb P1 P2)
  bel : Below base w0 w
  bs : base ≤ w0.heap.size
section
variable {w w' w0 : World} {base ga gb gk g1 g2 : Nat} {p : DiskP} {q : RDiskP} {D E D' E' : DiskV} {P1 P2 : Option Addr} {s : SlV3}
theorem SB.size (h : SB w0 w base p q ga gb gk P1 P2 E D) : base ≤ w.heap.size := Nat.le_trans h.bs h.bel.size
theorem SB.below (h : SB w0 w base p q ga gb gk P1 P2 E D) (hb : Below w.heap.size w w') : SB w0 w' base p q ga gb gk P1 P2 E D :=
  ⟨h.sd.below hb, h.sr.below hb, h.n1, h.n2, Blk.below h.a hb (Blk.lt h.a), Blk.below h.b hb (Blk.lt h.b), h.bo.below hb h.bo.lt, h.bel.trans (hb.mono h.size), h.bs⟩
theorem SB.step (h : SB w0 w base p q ga gb gk P1 P2 E D) (st : Step mutD base p w w') (hd : DiskS w' base p E') : SB w0 w' base p q ga gb gk P1 P2 E' D :=
  ⟨hd, h.sr.step h.sd st h.n1 h.n2 (by decide) (by decide), h.n1, h.n2, h.sd.area h.a st.tch (by decide), h.sd.area h.b st.tch (by decide), h.sd.blk h.bo st.tch (by decide), h.bel.trans st.bel, h.bs⟩
theorem SB.stepS (h : SB w0 w base p q ga gb gk P1 P2 E D) (st : Step mutS base p w w') (hd : DiskS w' base p E') : SB w0 w' base p q ga gb gk P1 P2 E' D :=
  ⟨hd, h.sr.step h.sd st h.n1 h.n2 (by decide) (by decide), h.n1, h.n2, h.sd.area h.a st.tch (by decide), h.sd.area h.b st.tch (by decide), h.sd.blk h.bo st.tch (by decide), h.bel.trans st.bel, h.bs⟩
theorem SB.rstep (h : SB w0 w base p q ga gb gk P1 P2 E D) (kr : RStep base q w w') (hr : RDiskS w' base q D') : SB w0 w' base p q ga gb gk P1 P2 E D' :=
  ⟨h.sd.rstep h.sr kr h.n1 h.n2, hr, h.n1, h.n2, h.sr.blk h.a kr (by decide), h.sr.blk h.b kr (by decide), h.sr.blk h.bo kr (by decide), h.bel.trans kr.bel, h.bs⟩
theorem DiskS.keepR {cs : List Value} {w1 : World} (h : DiskS w1 base p E) (hb : Blk w1 g2 130 cs) (k : Keep (· = g2) w1 w') : DiskS w' base p E := by
  obtain ⟨A9, c9, h9⟩ := h
  exact ⟨A9, c9, h9.keep k (fun g hf e => by
    subst e
    rcases h9.foot_ty hb hf with q | q | q | q | q <;> exact absurd q (by decide))⟩
theorem SB.saved (h : SB w0 w base p q ga gb gk P1 P2 E D) (k : RSaved base q g2 w w') (hr : RDiskS w' base q D') : SB w0 w' base p q ga gb gk P1 P2 E D' := by
  obtain ⟨w1, cs, kr, hb, kk, bb⟩ := k
  have hne : ∀ {g : Nat} {t : TypeId} {cs' : List Value}, Blk w1 g t cs' → t ≠ 130 → Blk w' g t cs' := fun {g t cs'} hx ht => hx.keep kk (hx.ne_ hb ht)
  exact ⟨(h.sd.rstep h.sr kr h.n1 h.n2).keepR hb kk, hr, h.n1, h.n2, hne (h.sr.blk h.a kr (by decide)) (by decide), hne (h.sr.blk h.b kr (by decide)) (by decide), hne (h.sr.blk h.bo kr (by decide)) (by decide), (h.bel.trans kr.bel).trans bb, h.bs⟩
/-- The program's slots over a step of the document's disk. -/
theorem SlotsAt.rstep (h : SlotsAt w base g1 ga gb s) (r : RDiskS w base q D) (k : RStep base q w w') : SlotsAt w' base g1 ga gb s := by
  obtain ⟨B, n, c, h1, h2, h3, h4, h5, h6⟩ := h
  exact ⟨B, n, c, r.blk h1 k (by decide), h2, h3, h4.rstep r k, h5, h6⟩
theorem SlotsAt.saved (h : SlotsAt w base g1 ga gb s) (r : RDiskS w base q D) (hg : base ≤ g2) (k : RSaved base q g2 w w') : SlotsAt w' base g1 ga gb s := by
  obtain ⟨w1, cs, kr, hb, kk, bb⟩ := k
  obtain ⟨B, n, c, h1, h2, h3, h4, h5, h6⟩ := h.rstep r kr
  refine ⟨B, n, c, h1.keep kk (h1.ne_ hb (by decide)), h2, h3, h4.keepF kk (fun g e => ?_), h5, h6⟩
  subst e
  exact ⟨hg, not_u8 hb (by decide)⟩
/-- The document's slots over a step of the program's. -/
theorem RSlotsAt.step {M : List TypeId} {fl ml fr mr : Nat} (h : RSlotsAt w base g2 q fl ml fr mr s) (d : DiskS w base p E) (k : Step M base p w w') (h1 : 130 ∉ 4 :: M) (h2 : 5 ∉ 4 :: M) : RSlotsAt w' base g2 q fl ml fr mr s := by
  obtain ⟨B, n, c, x1, x2, x3, x4, x5⟩ := h
  exact ⟨B, n, c, d.blk x1 k.tch h1, x2, x3, x4.step d k h2, x5⟩
theorem keep_set {t : TypeId} {cs : List Value} {g' : Nat} {t' : TypeId} {cs' : List Value} (hb : Blk w gk t cs) (hx : Blk w g' t' cs') (ht : t' ≠ t) (i : Nat) (u : Value) : Blk (w.setCell ⟨gk, i, none⟩ u) g' t' cs' := hx.far (p := ⟨gk, i, none⟩) (hx.ne_ hb ht) _
theorem BytesAt.setB {t : TypeId} {cs : List Value} {h : SlV} {L : List UInt8} (H : BytesAt w base h L) (hb : Blk w gk t cs) (ht : t ≠ 5) (hg : base ≤ gk) (i : Nat) (u : Value) : BytesAt (w.setCell ⟨gk, i, none⟩ u) base h L :=
  H.keepF (F := (· = gk)) (Keep.one (grown_setCell _)) (fun g e => by subst e; exact ⟨hg, not_u8 hb ht⟩)
theorem SlotsAt.setB {cs : List Value} (h : SlotsAt w base g1 ga gb s) (hb : Blk w gk 127 cs) (hg : base ≤ gk) (i : Nat) (u : Value) : SlotsAt (w.setCell ⟨gk, i, none⟩ u) base g1 ga gb s := by
  obtain ⟨B, n, c, h1, h2, h3, h4, h5, h6⟩ := h
  exact ⟨B, n, c, keep_set hb h1 (by decide) i u, h2, h3, h4.setB hb (by decide) hg i u, h5, h6⟩
theorem RSlotsAt.setB {cs : List Value} {fl ml fr mr : Nat} (h : RSlotsAt w base g2 q fl ml fr mr s) (hb : Blk w gk 127 cs) (hg : base ≤ gk) (i : Nat) (u : Value) : RSlotsAt (w.setCell ⟨gk, i, none⟩ u) base g2 q fl ml fr mr s := by
  obtain ⟨B, n, c, h1, h2, h3, h4, h5⟩ := h
  exact ⟨B, n, c, keep_set hb h1 (by decide) i u, h2, h3, h4.setB hb (by decide) hg i u, h5⟩
theorem DiskS.setB10 {cs : List Value} (h : DiskS w base p E) (hb : Blk w gk 127 cs) (i : Nat) (u : Value) : DiskS (w.setCell ⟨gk, i, none⟩ u) base p E := by
  obtain ⟨A9, c9, h9⟩ := h
  exact ⟨A9, c9, h9.keep (F := (· = gk)) (Keep.one (grown_setCell _)) (fun g hf e => by
    subst e
    rcases h9.foot_ty hb hf with q | q | q | q | q <;> exact absurd q (by decide))⟩
theorem RDiskS.setB10 {cs : List Value} (h : RDiskS w base q D) (hb : Blk w gk 127 cs) (hg : base ≤ gk) (i : Nat) (u : Value) : RDiskS (w.setCell ⟨gk, i, none⟩ u) base q D :=
  h.apart (F := (· = gk)) (Keep.one (grown_setCell _)) (fun g e => by
    subst e
    obtain ⟨_, ⟨c1, b1⟩, _⟩ := h.kinds
    exact ⟨hg, hb.ne_ b1 (by decide), _, _, hb, by decide⟩)
theorem SB.two (h : SB w0 w base p q ga gb gk P1 P2 E D) (hg : base ≤ gk) (Q1 Q2 : Option Addr) : SB w0 ((w.setCell ⟨gk, 3, none⟩ (.pointer Q1)).setCell ⟨gk, 5, none⟩ (.pointer Q2)) base p q ga gb gk Q1 Q2 E D := by
  have b1 := h.bo.set_ 3 (.pointer Q1)
  exact ⟨(h.sd.setB10 h.bo _ _).setB10 b1 _ _, (h.sr.setB10 h.bo hg _ _).setB10 b1 hg _ _, h.n1, h.n2, keep_set b1 (keep_set h.bo h.a (by decide) 3 (.pointer Q1)) (by decide) 5 _, keep_set b1 (keep_set h.bo h.b (by decide) 3 (.pointer Q1)) (by decide) 5 _, b1.set_ 5 _, (h.bel.setCell hg _).setCell hg _, h.bs⟩
/-- What opening both leaves. -/
def BSPost (w0 w : World) (base : Nat) (p : DiskP) (q : RDiskP) (ga gb gk : Nat) (P1 P2 : Option Addr) (R : DiskV × SlV3 × Int) (e : Ending) (w' : World) : Prop :=
  e = .returned (.bool true) ∧
    ((R.2.2 ≠ 0 ∧ SB w0 w' base p q ga gb gk P1 P2 R.1 R.1 ∧ ∀ (g1 g2 : Nat) (s : SlV3), (SlotsAt w base g1 ga gb s → SlotsAt w' base g1 ga gb s) ∧ (RSlotsAt w base g2 q 0 6 6 6 s → RSlotsAt w' base g2 q 0 6 6 6 s)) ∨
     (R.2.2 = 0 ∧ ∃ g1 g2, SB w0 w' base p q ga gb gk (some ⟨g1, 0, none⟩) (some ⟨g2, 0, none⟩) R.1 R.1 ∧ SlotsAt w' base g1 ga gb R.2.1 ∧ RSlotsAt w' base g2 q 0 6 6 6 R.2.1 ∧ base ≤ g1 ∧ base ≤ g2))
set_option maxRecDepth 100000 in
set_option maxHeartbeats 8000000 in
theorem bsopen_any (h : SB w0 w base p q ga gb gk P1 P2 D D) (hgk : base ≤ gk) (hm : D.many = 12) :
    Calls Try.prog 66 #[.pointer (some ⟨gk, 0, none⟩)] w (BSPost w0 w base p q ga gb gk P1 P2 (openSV D 0 6 6 6)) := by
  have y1 : w.cell? ⟨gk, 1, none⟩ = some (.pointer (some ⟨ga, 0, none⟩)) := h.bo.cell 1
  have y2 : w.cell? ⟨gk, 2, none⟩ = some (.pointer (some ⟨gb, 0, none⟩)) := h.bo.cell 2
  have c1 := fun {W : World} {D' : DiskV} (O : SB w0 W base p q ga gb gk P1 P2 D D') => sopen_any O.sd O.size O.a O.b (by omega) (by omega) (by rw [hm]; omega) (by rw [hm]; omega)
  have c2 := fun {W : World} {E' : DiskV} (O : SB w0 W base p q ga gb gk P1 P2 E' D) => (show Calls Try.prog 102 #[.agg #[.pointer (some ⟨q.d, 0, none⟩), .int .i64 0, .int .i64 6], .agg #[.pointer (some ⟨q.d, 0, none⟩), .int .i64 6, .int .i64 6]] W (ROSPost W base q 0 6 6 6 (openSV D 0 6 6 6)) from ropen10_any (fl := 0) (ml := 6) (fr := 6) (mr := 6) O.sr O.size (by omega) (by omega) (by rw [hm]; omega) (by rw [hm]; omega))
  have HB := Lib.hid h
  have HD := Lib.hid (h.below (Below.drew (Below.refl w.heap.size w)))
  generalize openSV D 0 6 6 6 = R at *
  obtain ⟨D', s', z⟩ := R
  clear h
  by_cases hz : z = 0
  · subst hz
    have c1' := fun {W : World} {D'' : DiskV} (O : SB w0 W base p q ga gb gk P1 P2 D D'') => (c1 O).mono (fun e w' (hp : SOPost W base p ga gb (D', s', 0) e w') => (show ∃ g1, e = .returned (.tuple #[.pointer (some ⟨g1, 0, none⟩), .int .i64 0]) ∧ W.heap.size ≤ g1 ∧ SlotsAt w' base g1 ga gb s' ∧ DiskS w' base p D' ∧ Step mutD base p W w' from by
      obtain ⟨P, e1, _, e3, e4, e5⟩ := hp
      obtain ⟨g1, rfl, q2, q3⟩ := e3 rfl
      exact ⟨g1, e1, q2, q3, e4, e5⟩))
    have c2' := fun {W : World} {E' : DiskV} (O : SB w0 W base p q ga gb gk P1 P2 E' D) => (c2 O).mono (fun e w' (hp : ROSPost W base q 0 6 6 6 (D', s', 0) e w') => (show ∃ g2, e = .returned (.tuple #[.pointer (some ⟨g2, 0, none⟩), .int .i64 0]) ∧ W.heap.size ≤ g2 ∧ RSlotsAt w' base g2 q 0 6 6 6 s' ∧ RDiskS w' base q D' ∧ RStep base q W w' from by
      obtain ⟨P, e1, _, e3, e4, e5⟩ := hp
      obtain ⟨g2, rfl, q2, q3⟩ := e3 rfl
      exact ⟨g2, e1, q2, q3, e4, e5⟩))
    clear c1 c2
    go_enter Try.func66, Try.ntmps66
    go_wp2_with fail
    go_region_held3 (fun w' => w'.cell? ⟨gk, 1, none⟩ = some (.pointer (some ⟨ga, 0, none⟩)) ∧ w'.cell? ⟨gk, 2, none⟩ = some (.pointer (some ⟨gb, 0, none⟩))) (first | go_keep | (refine ⟨?_, ?_⟩ <;> assumption)) (first
      | ((go_at_call 62; (with_reducible refine (c1' HD.out).mono ?_); rintro e w1 ⟨g1, rfl, hg1, hs1, hd1, st1⟩); have O1 := HD.out.step st1 hd1; have z1 : w1.cell? ⟨gk, 1, none⟩ = some (.pointer (some ⟨ga, 0, none⟩)) := O1.bo.cell 1; have z2 : w1.cell? ⟨gk, 2, none⟩ = some (.pointer (some ⟨gb, 0, none⟩)) := O1.bo.cell 2; have z4 : w1.cell? ⟨gk, 4, none⟩ = some (.pointer (some ⟨q.d, 0, none⟩)) := O1.bo.cell 4; have HO1 := Lib.hid O1; have HS1 := Lib.hid hs1; have sz0 := HD.out.size; clear O1 hd1 st1 hs1)
      | fail "no arm")
    go_wp2_with fail
    have OD1 := Lib.hid (HO1.out.below (Below.drew (Below.refl w1.heap.size w1)))
    go_region_held3 (fun w' => w'.cell? ⟨gk, 4, none⟩ = some (.pointer (some ⟨q.d, 0, none⟩))) (first | go_keep | assumption) (first
      | ((go_at_call 102; (with_reducible refine (c2' OD1.out).mono ?_); rintro e w2 ⟨g2, rfl, hg2, hs2, hr2, k2⟩); have O2 := OD1.out.rstep k2 hr2; have HS2 := Lib.hid ((HS1.out.below (Below.drew (Below.refl w1.heap.size w1))).rstep OD1.out.sr k2); have v4 : w2.cell? ⟨gk, 4, none⟩ = some (.pointer (some ⟨q.d, 0, none⟩)) := O2.bo.cell 4; have u3 : w2.cell? ⟨gk, 3, none⟩ = some (.pointer P1) := O2.bo.cell 3; have u5 : w2.cell? ⟨gk, 5, none⟩ = some (.pointer P2) := O2.bo.cell 5; have f3 := O2.bo.frozen 3; have f5 := O2.bo.frozen 5; have l2 := O2.bo.lt; have HO2 := Lib.hid O2; have HW2 := Lib.hid hs2; have sz1 := OD1.out.size; clear O2 hr2 hs2 k2)
      | fail "no arm")
    go_wp2
    go_ret
    have b1 := HO2.out.bo.set_ 3 (.pointer (some ⟨g1, 0, none⟩))
    exact ⟨rfl, .inr ⟨rfl, g1, g2, HO2.out.two hgk _ _, (HS2.out.setB HO2.out.bo hgk _ _).setB b1 hgk _ _, (HW2.out.setB HO2.out.bo hgk _ _).setB b1 hgk _ _, by simp at sz0 hg1; omega, by simp at sz1 hg2; omega⟩⟩
  · have c1' := fun {W : World} {D'' : DiskV} (O : SB w0 W base p q ga gb gk P1 P2 D D'') => (c1 O).mono (fun e w' (hp : SOPost W base p ga gb (D', s', z) e w') => (show e = .returned (.tuple #[.pointer none, .int .i64 z]) ∧ DiskS w' base p D' ∧ Step mutD base p W w' from by
      obtain ⟨P, e1, e2, _, e4, e5⟩ := hp
      obtain rfl := e2 hz
      exact ⟨e1, e4, e5⟩))
    have c2' := fun {W : World} {E' : DiskV} (O : SB w0 W base p q ga gb gk P1 P2 E' D) => (c2 O).mono (fun e w' (hp : ROSPost W base q 0 6 6 6 (D', s', z) e w') => (show e = .returned (.tuple #[.pointer none, .int .i64 z]) ∧ RDiskS w' base q D' ∧ RStep base q W w' from by
      obtain ⟨P, e1, e2, _, e4, e5⟩ := hp
      obtain rfl := e2 hz
      exact ⟨e1, e4, e5⟩))
    have hne : (z == 0) = false := by rw [beq_eq_false_iff_ne]; exact hz
    have hne2 : (z != 0) = true := by rw [bne_iff_ne]; exact hz
    have HZ := Lib.hid hz
    clear c1 c2 hz
    go_enter Try.func66, Try.ntmps66
    go_wp2_with fail
    go_region_held3 (fun w' => w'.cell? ⟨gk, 1, none⟩ = some (.pointer (some ⟨ga, 0, none⟩)) ∧ w'.cell? ⟨gk, 2, none⟩ = some (.pointer (some ⟨gb, 0, none⟩))) (first | go_keep | (refine ⟨?_, ?_⟩ <;> assumption)) (first
      | ((go_at_call 62; (with_reducible refine (c1' HD.out).mono ?_); rintro e w1 ⟨rfl, hd1, st1⟩); have O1 := HD.out.step st1 hd1; have z1 : w1.cell? ⟨gk, 1, none⟩ = some (.pointer (some ⟨ga, 0, none⟩)) := O1.bo.cell 1; have z2 : w1.cell? ⟨gk, 2, none⟩ = some (.pointer (some ⟨gb, 0, none⟩)) := O1.bo.cell 2; have z4 : w1.cell? ⟨gk, 4, none⟩ = some (.pointer (some ⟨q.d, 0, none⟩)) := O1.bo.cell 4; have HO1 := Lib.hid O1; have ST1 := Lib.hid st1; clear O1 hd1 st1)
      | fail "no arm")
    go_wp2_with fail
    have OD1 := Lib.hid (HO1.out.below (Below.drew (Below.refl w1.heap.size w1)))
    go_region_held3 (fun w' => w'.cell? ⟨gk, 4, none⟩ = some (.pointer (some ⟨q.d, 0, none⟩))) (first | go_keep | assumption) (first
      | ((go_at_call 102; (with_reducible refine (c2' OD1.out).mono ?_); rintro e w2 ⟨rfl, hr2, k2⟩); have O2 := OD1.out.rstep k2 hr2; have v4 : w2.cell? ⟨gk, 4, none⟩ = some (.pointer (some ⟨q.d, 0, none⟩)) := O2.bo.cell 4; have HO2 := Lib.hid O2; have K2 := Lib.hid k2; clear O2 hr2 k2)
      | fail "no arm")
    go_wp2
    go_ret
    have bD : ∀ W : World, Below W.heap.size W W.drew := fun W => Below.drew (Below.refl _ _)
    exact ⟨rfl, .inl ⟨HZ.out, HO2.out, fun g1 g2 s => ⟨fun h => ((((h.below (bD _)).step HD.out.sd ST1.out).below (bD _)).rstep OD1.out.sr K2.out), fun h => ((((h.below (bD _)).step HD.out.sd ST1.out (by decide) (by decide)).below (bD _)).rstep OD1.out.sr K2.out)⟩⟩⟩
theorem wholeV_num (D : DiskV) (f m : Nat) : -9223372036854775808 ≤ (wholeV D f m).2.2.1 ∧ (wholeV D f m).2.2.1 ≤ 9223372036854775807 := by
  have h : -9223372036854775808 ≤ (aTakeV D f m 0 2).1 ∧ (aTakeV D f m 0 2).1 ≤ 9223372036854775807 := by
    unfold aTakeV
    split
    · exact ⟨by simp, by simp⟩
    · unfold openV
      split
      · exact sg_bd (openNum_lt _)
      · exact ⟨by simp, by simp⟩
  unfold wholeV
  split
  · exact ⟨by simp, by simp⟩
  split
  · exact ⟨by simp, by simp⟩
  split
  · exact ⟨by simp, by simp⟩
  split
  · exact h
  · exact ⟨by simp, by simp⟩
/-- What holds of slots that were opened. -/
def SOk (s : SlV3) : Prop := (-9223372036854775808 ≤ s.number ∧ s.number ≤ 9223372036854775807) ∧ (s.now = 2 → s.number = 0 ∧ s.load = [])
theorem openSV_ok (D : DiskV) (fl ml fr mr : Nat) : SOk (openSV D fl ml fr mr).2.1 ∧ (openSV D fl ml fr mr).1.many = D.many ∧ (openSV D fl ml fr mr).1.waits = D.waits := by
  obtain ⟨a1, a2⟩ := wholeV_same D fl ml
  obtain ⟨b1, b2⟩ := wholeV_same (wholeV D fl ml).1 fr mr
  have n1 := wholeV_num D fl ml
  have n2 := wholeV_num (wholeV D fl ml).1 fr mr
  unfold openSV
  split
  · exact ⟨⟨⟨by simp, by simp⟩, fun _ => ⟨rfl, rfl⟩⟩, a1, a2⟩
  split
  · exact ⟨⟨⟨by simp, by simp⟩, fun _ => ⟨rfl, rfl⟩⟩, b1.trans a1, b2.trans a2⟩
  split
  · exact ⟨⟨n1, fun e => absurd e (by simp)⟩, b1.trans a1, b2.trans a2⟩
  split
  · exact ⟨⟨n2, fun e => absurd e (by simp)⟩, b1.trans a1, b2.trans a2⟩
  · exact ⟨⟨⟨by simp, by simp⟩, fun _ => ⟨rfl, rfl⟩⟩, b1.trans a1, b2.trans a2⟩
theorem saveA_few (D : DiskV) (f m : Nat) (number : Int) (load : List UInt8) (hl : load.length ≤ 512) : (saveA D f m number load).1.many = D.many ∧ (saveA D f m number load).1.waits.length ≤ D.waits.length + 6 := by
  obtain ⟨a1, a2⟩ := aWriteV_many D f m 0 zerosL
  obtain ⟨b1, b2⟩ := flushV_less (aWriteV D f m 0 zerosL).1
  obtain ⟨f1, f2⟩ := fillV_few (flushV (aWriteV D f m 0 zerosL).1).1 f m load
  obtain ⟨p1, p2⟩ := aPutV_less (fillV (flushV (aWriteV D f m 0 zerosL).1).1 f m load).1 f m 0 2 number (headL load)
  obtain ⟨g1, g2⟩ := flushV_less (aPutV (fillV (flushV (aWriteV D f m 0 zerosL).1).1 f m load).1 f m 0 2 number (headL load)).1
  have hk4 : secsN load.length ≤ 4 := by unfold secsN; omega
  unfold saveA
  split
  · exact ⟨a1, by omega⟩
  split
  · exact ⟨b1.trans a1, by omega⟩
  split
  · exact ⟨(f1.trans b1).trans a1, by omega⟩
  split
  · exact ⟨((p1.trans f1).trans b1).trans a1, by omega⟩
  · exact ⟨(((g1.trans p1).trans f1).trans b1).trans a1, by omega⟩
theorem saveSV_ok (D : DiskV) (fl ml fr mr : Nat) (s : SlV3) (load : List UInt8) (h : SOk s) : SOk (saveSV D fl ml fr mr s load).2.1 ∧ (saveSV D fl ml fr mr s load).1.many = D.many ∧ (saveSV D fl ml fr mr s load).1.waits.length ≤ D.waits.length + 6 := by
  by_cases h3 : 512 < load.length ∨ s.number = 9223372036854775807
  · unfold saveSV
    rw [if_pos h3]
    exact ⟨h, rfl, by simp⟩
  · have hf := fun f m => saveA_few D f m (s.number + 1) load (by omega)
    obtain ⟨⟨hn1, hn2⟩, _⟩ := id h
    unfold saveSV
    rw [if_neg h3]
    have ho : (if s.now = 0 then 1 else 0) ≠ 2 := by split <;> omega
    generalize (if s.now = 0 then fr else fl) = f
    generalize (if s.now = 0 then mr else ml) = m
    generalize (if s.now = 0 then 1 else 0) = o at *
    obtain ⟨x1, x2⟩ := hf f m
    by_cases hz : (saveA D f m (s.number + 1) load).2 ≠ 0
    · rw [if_pos hz]
      exact ⟨h, x1, x2⟩
    · rw [if_neg hz]
      exact ⟨⟨⟨by show _ ≤ s.number + 1; omega, by show s.number + 1 ≤ _; omega⟩, fun e => absurd e ho⟩, x1, x2⟩
def do10C (x : DoV) (B : Option Addr) (k d : Nat) : List Value := [.int .i64 x.kind, .int .i64 x.n, .slice B k d]
/-- What is known in the middle of a play's round. -/
structure SO (w0 w : World) (base : Nat) (p : DiskP) (q : RDiskP) (ga gb gk gx g1 g2 : Nat) (E D : DiskV) (x : DoV) (B : Option Addr) (k d : Nat) (s rs : SlV3) : Prop where
  o : SB w0 w base p q ga gb gk (some ⟨g1, 0, none⟩) (some ⟨g2, 0, none⟩) E D
  xx : Blk w gx 122 (do10C x B k d)
  sa : SlotsAt w base g1 ga gb s
  ra : RSlotsAt w base g2 q 0 6 6 6 rs
  gs : base ≤ gk ∧ base ≤ g1 ∧ base ≤ g2
section
variable {gx : Nat} {x : DoV} {B : Option Addr} {k d : Nat} {rs s' : SlV3}
theorem SO.below (h : SO w0 w base p q ga gb gk gx g1 g2 E D x B k d s rs) (hb : Below w.heap.size w w') : SO w0 w' base p q ga gb gk gx g1 g2 E D x B k d s rs :=
  ⟨h.o.below hb, h.xx.below hb h.xx.lt, h.sa.below hb, h.ra.below hb, h.gs⟩
theorem SO.step (h : SO w0 w base p q ga gb gk gx g1 g2 E D x B k d s rs) (st : Step mutD base p w w') (hd : DiskS w' base p E') : SO w0 w' base p q ga gb gk gx g1 g2 E' D x B k d s rs :=
  ⟨h.o.step st hd, h.o.sd.blk h.xx st.tch (by decide), h.sa.step h.o.sd st, h.ra.step h.o.sd st (by decide) (by decide), h.gs⟩
theorem SO.stepS (h : SO w0 w base p q ga gb gk gx g1 g2 E D x B k d s rs) (st : Step mutS base p w w') (hd : DiskS w' base p E') (hs : SlotsAt w' base g1 ga gb s') : SO w0 w' base p q ga gb gk gx g1 g2 E' D x B k d s' rs :=
  ⟨h.o.stepS st hd, h.o.sd.blk h.xx st.tch (by decide), hs, h.ra.step h.o.sd st (by decide) (by decide), h.gs⟩
theorem SO.rstep (h : SO w0 w base p q ga gb gk gx g1 g2 E D x B k d s rs) (kr : RStep base q w w') (hr : RDiskS w' base q D') : SO w0 w' base p q ga gb gk gx g1 g2 E D' x B k d s rs :=
  ⟨h.o.rstep kr hr, h.o.sr.blk h.xx kr (by decide), h.sa.rstep h.o.sr kr, h.ra.rstep h.o.sr kr, h.gs⟩
theorem SO.saved (h : SO w0 w base p q ga gb gk gx g1 g2 E D x B k d s rs) (kk : RSaved base q g2 w w') (hr : RDiskS w' base q D') (hs : RSlotsAt w' base g2 q 0 6 6 6 s') : SO w0 w' base p q ga gb gk gx g1 g2 E D' x B k d s s' := by
  have hx : Blk w' gx 122 (do10C x B k d) := by
    obtain ⟨w1, cs, kr, hb, k1, bb⟩ := kk
    have h1 := h.o.sr.blk h.xx kr (by decide)
    exact h1.keep k1 (h1.ne_ hb (by decide))
  exact ⟨h.o.saved kk hr, hx, h.sa.saved h.o.sr h.gs.2.2 kk, hs, h.gs⟩
/-- What one of a play leaves. -/
def OneSPost (w0 : World) (base : Nat) (p : DiskP) (q : RDiskP) (ga gb gk : Nat) (D : DiskV) (e : Ending) (w' : World) : Prop :=
  e = .returned (.bool true) ∧ ∃ (D' : DiskV) (g1 g2 : Nat) (s' : SlV3), SB w0 w' base p q ga gb gk (some ⟨g1, 0, none⟩) (some ⟨g2, 0, none⟩) D' D' ∧ SlotsAt w' base g1 ga gb s' ∧ RSlotsAt w' base g2 q 0 6 6 6 s' ∧ base ≤ g1 ∧ base ≤ g2 ∧ SOk s' ∧ D'.many = D.many ∧ D'.waits.length ≤ D.waits.length + 6
theorem SO.done {D0 : DiskV} (h : SO w0 w base p q ga gb gk gx g1 g2 D D x B k d s s) (hk : SOk s) (h1 : D.many = D0.many) (h2 : D.waits.length ≤ D0.waits.length + 6) : OneSPost w0 base p q ga gb gk D0 (.returned (.bool true)) w :=
  ⟨rfl, D, g1, g2, s, h.o, h.sa, h.ra, h.gs.2.1, h.gs.2.2, hk, h1, h2⟩
theorem SO.opened {D0 : DiskV} {e : Ending} (h : SO w0 w base p q ga gb gk gx g1 g2 D D x B k d s s) (hk : SOk s) (h1 : D.many = D0.many) (h2 : D.waits.length ≤ D0.waits.length + 6) (hp : BSPost w0 w base p q ga gb gk (some ⟨g1, 0, none⟩) (some ⟨g2, 0, none⟩) (openSV D 0 6 6 6) e w') : OneSPost w0 base p q ga gb gk D0 e w' := by
  obtain ⟨rfl, hc⟩ := hp
  obtain ⟨q1, q2, q3⟩ := openSV_ok D 0 6 6 6
  have e3 := congrArg List.length q3
  rcases hc with ⟨_, c1, c2⟩ | ⟨_, a1, a2, c1, c2, c3, c4, c5⟩
  · exact ⟨rfl, _, g1, g2, s, c1, (c2 g1 g2 s).1 h.sa, (c2 g1 g2 s).2 h.ra, h.gs.2.1, h.gs.2.2, hk, q2.trans h1, by omega⟩
  · exact ⟨rfl, _, a1, a2, _, c1, c2, c3, c4, c5, q1, q2.trans h1, by omega⟩
set_option maxRecDepth 100000 in
set_option maxHeartbeats 20000000 in
theorem one10_any (h : SB w0 w base p q ga gb gk (some ⟨g1, 0, none⟩) (some ⟨g2, 0, none⟩) D D) (hsa : SlotsAt w base g1 ga gb s) (hra : RSlotsAt w base g2 q 0 6 6 6 s) (hg : base ≤ gk ∧ base ≤ g1 ∧ base ≤ g2) (hm : D.many = 12) (hok : SOk s)
    (x : DoV) (B : Option Addr) (k d : Nat) (hr : RB w B k x.b) (hB : 0 < k → ∀ g, B.map (·.block) = some g → g < base) (hkd : k ≤ d) (hdm : d ≤ maxLen) (hxn : x.n ≤ 9223372036854775807) (hw : D.waits.length < 700000) :
    Calls Try.prog 67 #[.pointer (some ⟨gk, 0, none⟩), .agg #[.int .i64 x.kind, .int .i64 x.n, .slice B k d]] w (OneSPost w0 base p q ga gb gk D) := by
  have bA : Below w.heap.size w (w.alloc (.cells #[.int .i64 x.kind, .int .i64 x.n, .slice B k d] 122)) := (Below.refl _ _).alloc (Nat.le_refl _) _
  have hs := h.size
  have O1 : SO w0 (w.alloc (.cells #[.int .i64 x.kind, .int .i64 x.n, .slice B k d] 122)) base p q ga gb gk w.heap.size g1 g2 D D x B k d s s :=
    ⟨h.below bA, Blk.top _ rfl rfl, hsa.below bA, hra.below bA, hg⟩
  have low : ∀ {W : World}, Below base w0 W → RB W B k x.b := fun {W} hb => ⟨hr.1, fun h0 => by
    obtain ⟨b9, o9, e9, h9, c9⟩ := hr.2 h0
    have hlt := hB h0 b9 (by rw [e9]; rfl)
    have e1 := h.bel.block b9 hlt
    have e2 := hb.block b9 hlt
    have hbs := h.bs
    have hsz := hb.size
    refine ⟨b9, o9, e9, by omega, fun i hi => ?_⟩
    rw [← c9 i hi]
    simp only [World.cell?, e1, e2]⟩
  have LOW := Lib.hid (fun (W : World) (hb : Below base w0 W) => low hb)
  have LOB := Lib.hid (fun (W : World) (hb : Below base w0 W) => (show BytesAt W base ⟨B, k, d⟩ x.b from ⟨low hb, by show k ≤ maxLen; omega, fun h0 g hg => .inl (hB h0 g hg)⟩))
  have HB := Lib.hid hB
  have HM := Lib.hid hm
  have HOK := Lib.hid hok
  clear h hsa hra hr bA low hB hg hs hok
  generalize hgx : w.heap.size = gx at O1
  go_enter Try.func67, Try.ntmps67
  go_upto_region 1 with fail
  refine code_world (fun W => SO w0 W base p q ga gb gk gx g1 g2 D D x B k d s s) O1 ?_
  clear O1 hgx
  intro w4 O4
  have x0 : w4.cell? ⟨gx, 0, none⟩ = some (.int .i64 x.kind) := O4.xx.cell 0
  have x1 : w4.cell? ⟨gx, 1, none⟩ = some (.int .i64 x.n) := O4.xx.cell 1
  have x2 : w4.cell? ⟨gx, 2, none⟩ = some (.slice B k d) := O4.xx.cell 2
  have v0 : w4.cell? ⟨gk, 0, none⟩ = some (.pointer (some ⟨p.d, 0, none⟩)) := O4.o.bo.cell 0
  have v3 : w4.cell? ⟨gk, 3, none⟩ = some (.pointer (some ⟨g1, 0, none⟩)) := O4.o.bo.cell 3
  have v4 : w4.cell? ⟨gk, 4, none⟩ = some (.pointer (some ⟨q.d, 0, none⟩)) := O4.o.bo.cell 4
  have v5 : w4.cell? ⟨gk, 5, none⟩ = some (.pointer (some ⟨g2, 0, none⟩)) := O4.o.bo.cell 5
  have sz4 := O4.o.size
  have HO4 := Lib.hid O4
  have OD := Lib.hid (O4.below (Below.drew (Below.refl w4.heap.size w4)))
  clear O4
  by_cases h1 : x.kind = 1
  · have k1 : (x.kind == 1) = true := by rw [h1]; rfl
    have c1 := fun {W : World} (O : SO w0 W base p q ga gb gk gx g1 g2 D D x B k d s s) => save_any (fl := 0) (ml := 6) (fr := 6) (mr := 6) O.sa O.o.sd O.o.size O.gs.2.1 O.o.a O.o.b (by omega) (by omega) (by rw [HM.out]; omega) (by rw [HM.out]; omega) (LOB.out _ O.o.bel) hkd hdm HOK.out.1 (by omega)
    have c2 := fun {W : World} {E' : DiskV} {s'' : SlV3} (O : SO w0 W base p q ga gb gk gx g1 g2 E' D x B k d s'' s) => rsave_any (fl := 0) (ml := 6) (fr := 6) (mr := 6) O.ra O.o.sr O.o.size O.gs.2.2 (by omega) (by omega) (by rw [HM.out]; omega) (by rw [HM.out]; omega) (LOB.out _ O.o.bel) hkd hdm HOK.out.1 (by omega)
    have FEW := Lib.hid (saveSV_ok D 0 6 6 6 s x.b HOK.out)
    generalize saveSV D 0 6 6 6 s x.b = R at *
    obtain ⟨D', s', z⟩ := R
    simp only at c1 c2
    clear h1
    go_wp2_with fail
    go_region_held3 (fun w' => w'.cell? ⟨gk, 3, none⟩ = some (.pointer (some ⟨g1, 0, none⟩)) ∧ w'.cell? ⟨gk, 5, none⟩ = some (.pointer (some ⟨g2, 0, none⟩)) ∧ w'.cell? ⟨gx, 2, none⟩ = some (.slice B k d)) (first | go_keep | (refine ⟨?_, ?_, ?_⟩ <;> assumption)) (first
      | ((go_at_call 63; (with_reducible refine (c1 OD.out).mono ?_); rintro e w5 ⟨rfl, hd5, hs5, st5⟩); have O5 := OD.out.stepS st5 hd5 hs5; have y3 : w5.cell? ⟨gk, 3, none⟩ = some (.pointer (some ⟨g1, 0, none⟩)) := O5.o.bo.cell 3; have y5 : w5.cell? ⟨gk, 5, none⟩ = some (.pointer (some ⟨g2, 0, none⟩)) := O5.o.bo.cell 5; have z2 : w5.cell? ⟨gx, 2, none⟩ = some (.slice B k d) := O5.xx.cell 2; have HO5 := Lib.hid O5; clear O5 hd5 hs5 st5)
      | ((go_at_call 103; (with_reducible refine (c2 HO5.out).mono ?_); rintro e w6 ⟨rfl, hr6, hs6, k6⟩); have O6 := HO5.out.saved k6 hr6 hs6; have y6 : w6.cell? ⟨gk, 3, none⟩ = some (.pointer (some ⟨g1, 0, none⟩)) := O6.o.bo.cell 3; have y65 : w6.cell? ⟨gk, 5, none⟩ = some (.pointer (some ⟨g2, 0, none⟩)) := O6.o.bo.cell 5; have z6 : w6.cell? ⟨gx, 2, none⟩ = some (.slice B k d) := O6.xx.cell 2; have HO6 := Lib.hid O6; clear O6 hr6 hs6 k6)
      | fail "no arm")
    go_wp2
    go_ret
    exact HO6.out.done FEW.out.1 FEW.out.2.1 FEW.out.2.2
  have k1 : (x.kind == 1) = false := by rw [beq_eq_false_iff_ne]; exact h1
  by_cases h2 : x.kind = 2
  · have k2 : (x.kind == 2) = true := by rw [h2]; rfl
    have c1 := fun {W : World} {D' : DiskV} (O : SO w0 W base p q ga gb gk gx g1 g2 D D' x B k d s s) => s_cut O.o.sd O.o.size x.n hxn
    have c2 := fun {W : World} {E' : DiskV} (O : SO w0 W base p q ga gb gk gx g1 g2 E' D x B k d s s) => r_cut O.o.sr O.o.size x.n hxn
    have FEW := Lib.hid (show ({ D with cut := max x.n (-1) } : DiskV).many = D.many ∧ ({ D with cut := max x.n (-1) } : DiskV).waits.length ≤ D.waits.length from ⟨rfl, Nat.le_refl _⟩)
    generalize ({ D with cut := max x.n (-1) } : DiskV) = D' at *
    clear h1 h2
    go_wp2_with fail
    go_region_held3 (fun w' => w'.cell? ⟨gk, 0, none⟩ = some (.pointer (some ⟨p.d, 0, none⟩)) ∧ w'.cell? ⟨gx, 1, none⟩ = some (.int .i64 x.n)) (first | go_keep | (refine ⟨?_, ?_⟩ <;> assumption)) (first
      | ((go_at_call 27; (with_reducible refine (c1 OD.out).mono ?_); rintro e w5 ⟨rfl, hd5, st5⟩); have O5 := OD.out.step st5 hd5; have y2 : w5.cell? ⟨gk, 0, none⟩ = some (.pointer (some ⟨p.d, 0, none⟩)) := O5.o.bo.cell 0; have z2 : w5.cell? ⟨gx, 1, none⟩ = some (.int .i64 x.n) := O5.xx.cell 1; have y4 : w5.cell? ⟨gk, 4, none⟩ = some (.pointer (some ⟨q.d, 0, none⟩)) := O5.o.bo.cell 4; have HO5 := Lib.hid O5; clear O5 hd5 st5)
      | fail "no arm")
    go_wp2_with fail
    have OD5 := Lib.hid (HO5.out.below (Below.drew (Below.refl w5.heap.size w5)))
    go_region_held3 (fun w' => w'.cell? ⟨gk, 4, none⟩ = some (.pointer (some ⟨q.d, 0, none⟩)) ∧ w'.cell? ⟨gx, 1, none⟩ = some (.int .i64 x.n)) (first | go_keep | (refine ⟨?_, ?_⟩ <;> assumption)) (first
      | ((go_at_call 76; (with_reducible refine (c2 OD5.out).mono ?_); rintro e w6 ⟨rfl, hr6, k6⟩); have O6 := OD5.out.rstep k6 hr6; have y6 : w6.cell? ⟨gk, 4, none⟩ = some (.pointer (some ⟨q.d, 0, none⟩)) := O6.o.bo.cell 4; have z6 : w6.cell? ⟨gx, 1, none⟩ = some (.int .i64 x.n) := O6.xx.cell 1; have HO6 := Lib.hid O6; clear O6 hr6 k6)
      | fail "no arm")
    go_wp2
    go_ret
    exact HO6.out.done HOK.out FEW.out.1 (by have := FEW.out.2; omega)
  have k2 : (x.kind == 2) = false := by rw [beq_eq_false_iff_ne]; exact h2
  by_cases h3 : x.kind = 3
  · have k3 : (x.kind == 3) = true := by rw [h3]; rfl
    have hkm : k ≤ maxLen := by omega
    have c1 := fun {W : World} {D' : DiskV} (O : SO w0 W base p q ga gb gk gx g1 g2 D D' x B k d s s) => s_crash O.o.sd O.o.size B k d x.b (LOW.out _ O.o.bel) HB.out hkm
    have c2 := fun {W : World} {E' : DiskV} (O : SO w0 W base p q ga gb gk gx g1 g2 E' D x B k d s s) => r_crash O.o.sr O.o.size B k d x.b (LOW.out _ O.o.bel) HB.out hkm
    have FEW := Lib.hid (show (crashV D x.b).many = D.many ∧ (crashV D x.b).waits.length ≤ D.waits.length from ⟨by simp [crashV], by simp [crashV]⟩)
    generalize crashV D x.b = D' at *
    have c3 := fun {W : World} (O : SO w0 W base p q ga gb gk gx g1 g2 D' D' x B k d s s) => bsopen_any O.o O.gs.1 (by rw [FEW.out.1, HM.out])
    clear h1 h2 h3
    go_wp2_with fail
    go_region_held3 (fun w' => w'.cell? ⟨gk, 0, none⟩ = some (.pointer (some ⟨p.d, 0, none⟩)) ∧ w'.cell? ⟨gx, 2, none⟩ = some (.slice B k d)) (first | go_keep | (refine ⟨?_, ?_⟩ <;> assumption)) (first
      | ((go_at_call 22; (with_reducible refine (c1 OD.out).mono ?_); rintro e w5 ⟨rfl, hd5, st5⟩); have O5 := OD.out.step st5 hd5; have y2 : w5.cell? ⟨gk, 0, none⟩ = some (.pointer (some ⟨p.d, 0, none⟩)) := O5.o.bo.cell 0; have z2 : w5.cell? ⟨gx, 2, none⟩ = some (.slice B k d) := O5.xx.cell 2; have y4 : w5.cell? ⟨gk, 4, none⟩ = some (.pointer (some ⟨q.d, 0, none⟩)) := O5.o.bo.cell 4; have HO5 := Lib.hid O5; clear O5 hd5 st5)
      | fail "no arm")
    go_wp2_with fail
    have OD5 := Lib.hid (HO5.out.below (Below.drew (Below.refl w5.heap.size w5)))
    go_region_held3 (fun w' => w'.cell? ⟨gk, 4, none⟩ = some (.pointer (some ⟨q.d, 0, none⟩)) ∧ w'.cell? ⟨gx, 2, none⟩ = some (.slice B k d)) (first | go_keep | (refine ⟨?_, ?_⟩ <;> assumption)) (first
      | ((go_at_call 77; (with_reducible refine (c2 OD5.out).mono ?_); rintro e w6 ⟨rfl, hr6, k6⟩); have O6 := OD5.out.rstep k6 hr6; have y6 : w6.cell? ⟨gk, 4, none⟩ = some (.pointer (some ⟨q.d, 0, none⟩)) := O6.o.bo.cell 4; have z6 : w6.cell? ⟨gx, 2, none⟩ = some (.slice B k d) := O6.xx.cell 2; have HO6 := Lib.hid O6; clear O6 hr6 k6)
      | fail "no arm")
    have c4 := c3 HO6.out
    go_wp2_with (first
      | ((go_at_call 66; (with_reducible refine (c4).mono ?_); rintro e w7 hp7); have OO := Lib.hid (HO6.out.opened HOK.out FEW.out.1 (by have := FEW.out.2; omega) hp7); obtain ⟨rfl, _⟩ := hp7)
      | fail "no arm")
    go_ret
    exact OO.out
  have k3 : (x.kind == 3) = false := by rw [beq_eq_false_iff_ne]; exact h3
  by_cases h4 : x.kind = 4
  · have k4 : (x.kind == 4) = true := by rw [h4]; rfl
    have c3 := bsopen_any HO4.out.o HO4.out.gs.1 HM.out
    clear h1 h2 h3 h4
    go_wp2_with (first
      | ((go_at_call 66; (with_reducible refine (c3).mono ?_); rintro e w7 hp7); have OO := Lib.hid (HO4.out.opened HOK.out rfl (by omega) hp7); obtain ⟨rfl, _⟩ := hp7)
      | fail "no arm")
    go_ret
    exact OO.out
  have k4 : (x.kind == 4) = false := by rw [beq_eq_false_iff_ne]; exact h4
  clear h1 h2 h3 h4
  go_wp2
  go_ret
  exact HO4.out.done HOK.out rfl (by omega)
end
end
end Go.Proofs.Ytninidpbchcliaa
