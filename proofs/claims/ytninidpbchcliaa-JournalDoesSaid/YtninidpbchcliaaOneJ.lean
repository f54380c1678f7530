/- JournalDoes: what is done to both journals. -/
import Derived.Test.YtninidpbchcliaaRJrnB
import Derived.Test.YtninidpbchcliaaJrnD
import Derived.Test.YtninidpbchcliaaDo9
namespace Go.Proofs.Ytninidpbchcliaa
open Go.RowKit
set_option linter.unusedVariables false
set_option linter.unusedSimpArgs false
theorem wipeK_waits (f m : Nat) : ∀ (l : List Int) (D : DiskV), (wipeK D f m l).1.many = D.many ∧ (wipeK D f m l).1.waits.length ≤ D.waits.length + l.length := by
  intro l
  induction l with
  | nil => intro D; exact ⟨rfl, by simp [wipeK]⟩
  | cons n l ih =>
    intro D
    obtain ⟨a1, a2⟩ := aWriteV_many D f m n zerosL
    by_cases he : (aWriteV D f m n zerosL).2 = 0
    · rw [wipeK_step he]
      obtain ⟨h1, h2⟩ := ih (aWriteV D f m n zerosL).1
      exact ⟨h1.trans a1, by rw [List.length_cons]; omega⟩
    · rw [wipeK_stop he]
      exact ⟨a1, by rw [List.length_cons]; omega⟩
theorem flushV_few (D : DiskV) : (flushV D).1.many = D.many ∧ (flushV D).1.waits.length ≤ D.waits.length := by
  unfold flushV
  split
  · exact ⟨rfl, Nat.le_refl _⟩
  · split
    · exact ⟨rfl, by simp [goesV]⟩
    · exact ⟨rfl, by simp [flushD]⟩
theorem jOpenV_few (D : DiskV) (f m : Nat) (kind : Int) : (jOpenV D f m kind).1.many = D.many ∧ (jOpenV D f m kind).1.waits.length ≤ D.waits.length + m ∧ (jOpenV D f m kind).2.1 ≤ m := by
  obtain ⟨o, eo⟩ := rdK_ops D m
  have hle := scanK_le D.now f kind m
  obtain ⟨h1, h2⟩ := wipeK_waits f m (scanK D.now f kind m).2.2 (rdK D m)
  have e1 : (rdK D m).many = D.many := by rw [eo]
  have e2 : (rdK D m).waits = D.waits := by rw [eo]
  rw [e1] at h1
  rw [e2] at h2
  have f1 := flushV_few (jWipe D f m kind).1
  unfold jWipe at f1
  unfold jOpenV
  unfold jWipe
  split
  · exact ⟨rfl, by simp, by simp⟩
  split
  · exact ⟨rfl, by simp, by simp⟩
  split
  · exact ⟨h1, Nat.le_trans h2 (by omega), by simp⟩
  split
  · exact ⟨h1, Nat.le_trans h2 (by omega), hle.1⟩
  split
  · exact ⟨f1.1.trans h1, Nat.le_trans f1.2 (Nat.le_trans h2 (by omega)), by simp⟩
  · exact ⟨f1.1.trans h1, Nat.le_trans f1.2 (Nat.le_trans h2 (by omega)), hle.1⟩
theorem aPutV_few (D : DiskV) (f m : Nat) (n kind number : Int) (l : List UInt8) : (aPutV D f m n kind number l).1.many = D.many ∧ (aPutV D f m n kind number l).1.waits.length ≤ D.waits.length + 1 := by
  unfold aPutV
  split
  · exact ⟨rfl, by simp⟩
  · exact aWriteV_many D f m n _
theorem jAddV_few (D : DiskV) (f m : Nat) (kind : Int) (next : Nat) (l : List UInt8) (hn : next ≤ m) : (jAddV D f m kind next l).1.many = D.many ∧ (jAddV D f m kind next l).1.waits.length ≤ D.waits.length + 1 ∧ (jAddV D f m kind next l).2.1 ≤ m := by
  obtain ⟨h1, h2⟩ := aPutV_few D f m next kind next l
  unfold jAddV
  split
  · exact ⟨rfl, by simp, hn⟩
  split
  · exact ⟨rfl, by simp, hn⟩
  split
  · exact ⟨h1, h2, hn⟩
  · exact ⟨h1, h2, by show next + 1 ≤ m; omega⟩
theorem aReadV_few (D : DiskV) (f m : Nat) (n : Int) : (aReadV D f m n).1.many = D.many ∧ (aReadV D f m n).1.waits.length ≤ D.waits.length := by
  unfold aReadV readV
  split
  · exact ⟨rfl, Nat.le_refl _⟩
  · split
    · exact ⟨rfl, Nat.le_refl _⟩
    · exact ⟨rfl, by simp [readV']⟩
theorem jGetV_few (D : DiskV) (f m : Nat) (kind : Int) (next : Nat) (n : Int) : (jGetV D f m kind next n).1.many = D.many ∧ (jGetV D f m kind next n).1.waits.length ≤ D.waits.length := by
  have h := aReadV_few D f m n
  unfold jGetV
  split
  · exact ⟨rfl, Nat.le_refl _⟩
  split
  · exact h
  split
  · exact h
  · exact h
def bothC (p : DiskP) (q : RDiskP) (ga : Nat) (P1 P2 : Option Addr) : List Value := [.pointer (some ⟨p.d, 0, none⟩), .pointer (some ⟨ga, 0, none⟩), .pointer P1, .pointer (some ⟨q.d, 0, none⟩), .pointer P2]
/-- What stays where it stood while a journal is opened. -/
def stayT : List TypeId := [162, 109]
/-- What opening both leaves. -/
def BOpPost (w : World) (base : Nat) (p : DiskP) (q : RDiskP) (ga gb : Nat) (P1 P2 : Option Addr) (kind : Int) (R : DiskV × Nat × Int) (e : Ending) (w' : World) : Prop :=
  e = .returned (.bool true) ∧ Both w' base p q R.1 ∧ AreaAt w' ga p.d 1 8 ∧ Below base w w' ∧
    ((R.2.2 ≠ 0 ∧ Blk w' gb 105 (bothC p q ga P1 P2) ∧ ∀ (g : Nat) (t : TypeId) (cs : List Value), t ∈ stayT → Blk w g t cs → Blk w' g t cs) ∨
     (R.2.2 = 0 ∧ ∃ gj gw, Blk w' gb 105 (bothC p q ga (some ⟨gj, 0, none⟩) (some ⟨gw, 0, none⟩)) ∧ w.heap.size ≤ gj ∧ w.heap.size ≤ gw ∧ JrnAt w' gj ga kind R.2.1 ∧ RJrnAt w' gw q 1 8 kind R.2.1))
section
variable {w w' w0 : World} {base ga gb gx gj gw : Nat} {p : DiskP} {q : RDiskP} {D E : DiskV} {P1 P2 : Option Addr}
theorem RStep.blk8 (h : RDiskS w base q D) {g : Nat} {t : TypeId} {cs : List Value} (hb : Blk w g t cs) (k : RStep base q w w') (ht : t ∈ stayT) : Blk w' g t cs := h.blk hb k (fun e => by
  simp only [stayT, List.mem_cons, List.not_mem_nil, or_false] at ht
  rcases ht with rfl | rfl <;> exact absurd e (by decide))
theorem Step.blk8 (h : DiskS w base p E) {g : Nat} {t : TypeId} {cs : List Value} (hb : Blk w g t cs) (k : Step mutD base p w w') (ht : t ∈ stayT) : Blk w' g t cs := h.blk hb k.tch (fun e => by
  simp only [stayT, List.mem_cons, List.not_mem_nil, or_false] at ht
  rcases ht with rfl | rfl <;> exact absurd e (by decide))
theorem DiskS.setBoth {cs : List Value} (h : DiskS w base p E) (hb : Blk w gb 105 cs) (i : Nat) (u : Value) : DiskS (w.setCell ⟨gb, i, none⟩ u) base p E := by
  obtain ⟨A9, c9, h9⟩ := h
  exact ⟨A9, c9, h9.keep (F := (· = gb)) (Keep.one (grown_setCell _)) (fun g hf e => by
    subst e
    rcases h9.foot_ty hb hf with q | q | q | q | q <;> exact absurd q (by decide))⟩
theorem RDiskS.setBoth {cs : List Value} (h : RDiskS w base q D) (hb : Blk w gb 105 cs) (hg : base ≤ gb) (i : Nat) (u : Value) : RDiskS (w.setCell ⟨gb, i, none⟩ u) base q D :=
  h.apart (F := (· = gb)) (Keep.one (grown_setCell _)) (fun g e => by
    subst e
    obtain ⟨_, ⟨c1, b1⟩, _⟩ := h.kinds
    exact ⟨hg, hb.ne_ b1 (by decide), _, _, hb, by decide⟩)
theorem after_open {kind : Int} {nx : Nat} (h : Both w base p q D) (ha : AreaAt w ga p.d 1 8) (hb : Blk w gb 105 (bothC p q ga P1 P2)) (hj : JrnAt w gj ga kind nx) (hw : RJrnAt w gw q 1 8 kind nx) (hg : base ≤ gb) (hs : base ≤ w.heap.size) :
    Both ((w.setCell ⟨gb, 2, none⟩ (.pointer (some ⟨gj, 0, none⟩))).setCell ⟨gb, 4, none⟩ (.pointer (some ⟨gw, 0, none⟩))) base p q D ∧ AreaAt ((w.setCell ⟨gb, 2, none⟩ (.pointer (some ⟨gj, 0, none⟩))).setCell ⟨gb, 4, none⟩ (.pointer (some ⟨gw, 0, none⟩))) ga p.d 1 8 ∧
    Blk ((w.setCell ⟨gb, 2, none⟩ (.pointer (some ⟨gj, 0, none⟩))).setCell ⟨gb, 4, none⟩ (.pointer (some ⟨gw, 0, none⟩))) gb 105 (bothC p q ga (some ⟨gj, 0, none⟩) (some ⟨gw, 0, none⟩)) ∧
    JrnAt ((w.setCell ⟨gb, 2, none⟩ (.pointer (some ⟨gj, 0, none⟩))).setCell ⟨gb, 4, none⟩ (.pointer (some ⟨gw, 0, none⟩))) gj ga kind nx ∧ RJrnAt ((w.setCell ⟨gb, 2, none⟩ (.pointer (some ⟨gj, 0, none⟩))).setCell ⟨gb, 4, none⟩ (.pointer (some ⟨gw, 0, none⟩))) gw q 1 8 kind nx ∧
    Below base w ((w.setCell ⟨gb, 2, none⟩ (.pointer (some ⟨gj, 0, none⟩))).setCell ⟨gb, 4, none⟩ (.pointer (some ⟨gw, 0, none⟩))) := by
  have b1 := hb.set_ 2 (.pointer (some ⟨gj, 0, none⟩))
  have b2 := b1.set_ 4 (.pointer (some ⟨gw, 0, none⟩))
  exact ⟨⟨(h.d.setBoth hb _ _).setBoth b1 _ _, (h.r.setBoth hb hg _ _).setBoth b1 hg _ _, h.n1, h.n2⟩,
    Blk.far (p := ⟨gb, 4, none⟩) (Blk.far (p := ⟨gb, 2, none⟩) ha (Blk.ne_ ha hb (by decide)) _) (Blk.ne_ ha hb (by decide)) _, b2,
    Blk.far (p := ⟨gb, 4, none⟩) (Blk.far (p := ⟨gb, 2, none⟩) hj (Blk.ne_ hj hb (by decide)) _) (Blk.ne_ hj hb (by decide)) _,
    Blk.far (p := ⟨gb, 4, none⟩) (Blk.far (p := ⟨gb, 2, none⟩) hw (Blk.ne_ hw hb (by decide)) _) (Blk.ne_ hw hb (by decide)) _,
    ((Below.refl _ _).setCell hg _).setCell hg _⟩
set_option maxRecDepth 100000 in
set_option maxHeartbeats 8000000 in
theorem bopen_any (h : Both w base p q D) (ha : AreaAt w ga p.d 1 8) (hb : Blk w gb 105 (bothC p q ga P1 P2)) (hs : base ≤ w.heap.size) (hgb : base ≤ gb) (hm : D.many = 10) (kind : Int) (hw : D.waits.length < 900000) :
    Calls Try.prog 58 #[.pointer (some ⟨gb, 0, none⟩), .int .i64 kind] w (BOpPost w base p q ga gb P1 P2 kind (jOpenV D 1 8 kind)) := by
  have y1 : w.cell? ⟨gb, 1, none⟩ = some (.pointer (some ⟨ga, 0, none⟩)) := hb.cell 1
  have c1 := jopen_any (kind := kind) ha (by omega) h.d hs (by rw [hm]; omega) hw
  have c2 := fun {W : World} (hr : RDiskS W base q D) (hs : base ≤ W.heap.size) => (show Calls Try.prog 94 #[.agg #[.pointer (some ⟨q.d, 0, none⟩), .int .i64 1, .int .i64 8], .int .i64 kind] W (ROpPost W base q 1 8 kind (jOpenV D 1 8 kind)) from ropen_any (f := 1) (m := 8) (kind := kind) hr hs (by omega) (by rw [hm]; omega) hw)
  have HB := Lib.hid h
  have HA := Lib.hid ha
  have HBB := Lib.hid hb
  generalize jOpenV D 1 8 kind = R at *
  obtain ⟨D', nx, z⟩ := R
  clear h ha hb
  by_cases hz : z = 0
  · subst hz
    have c1' := c1.mono (fun e w' (hp : OpPost w base ga kind p (D', nx, 0) e w') => (show ∃ gj, e = .returned (.tuple #[.pointer (some ⟨gj, 0, none⟩), .int .i64 0]) ∧ w.heap.size ≤ gj ∧ JrnAt w' gj ga kind nx ∧ DiskS w' base p D' ∧ Step mutD base p w w' from by
      obtain ⟨P, e1, _, e3, e4, e5⟩ := hp
      obtain ⟨gj, rfl, q2, q3⟩ := e3 rfl
      exact ⟨gj, e1, q2, q3, e4, e5⟩))
    have c2' := fun {W : World} (hr : RDiskS W base q D) (hs : base ≤ W.heap.size) => (c2 hr hs).mono (fun e w' (hp : ROpPost W base q 1 8 kind (D', nx, 0) e w') => (show ∃ gj, e = .returned (.tuple #[.pointer (some ⟨gj, 0, none⟩), .int .i64 0]) ∧ W.heap.size ≤ gj ∧ RJrnAt w' gj q 1 8 kind nx ∧ RDiskS w' base q D' ∧ RStep base q W w' from by
      obtain ⟨P, e1, _, e3, e4, e5⟩ := hp
      obtain ⟨gj, rfl, q2, q3⟩ := e3 rfl
      exact ⟨gj, e1, q2, q3, e4, e5⟩))
    clear c1 c2
    go_enter Try.func58, Try.ntmps58
    go_wp2_with (first
      | ((go_at_call 51; (with_reducible refine (c1').mono ?_); rintro e w1 ⟨gj, rfl, hgj, hj1, hd1, st1⟩); have R1 := Lib.hid (HB.out.r.step HB.out.d st1 HB.out.n1 HB.out.n2 (by decide) (by decide)); have A1 := Lib.hid (HB.out.d.area HA.out st1.tch (by decide)); have X1 := Lib.hid (HB.out.d.blk HBB.out st1.tch (by decide)); have D1 := Lib.hid hd1; have J1 := Lib.hid hj1; have S1 := Lib.hid st1; have s1 := st1.size; have y3 : w1.cell? ⟨gb, 3, none⟩ = some (.pointer (some ⟨q.d, 0, none⟩)) := X1.out.cell 3; clear hd1 hj1 st1)
      | ((go_at_call 94; (with_reducible refine (c2' R1.out (by omega)).mono ?_); rintro e w2 ⟨gw, rfl, hgw, hj2, hr2, k2⟩); have D2 := Lib.hid (D1.out.rstep R1.out k2 HB.out.n1 HB.out.n2); have A2 := Lib.hid (R1.out.blk A1.out k2 (by decide)); have X2 := Lib.hid (R1.out.blk X1.out k2 (by decide)); have J2 := Lib.hid (R1.out.blk J1.out k2 (by decide)); have W2 := Lib.hid hj2; have R2 := Lib.hid hr2; have S2 := Lib.hid (S1.out.bel.trans k2.bel); have f2 := X2.out.frozen 2; have f4 := X2.out.frozen 4; have l2 := X2.out.lt; have e2 : w2.cell? ⟨gb, 2, none⟩ = some (.pointer P1) := X2.out.cell 2; have e4 : w2.cell? ⟨gb, 4, none⟩ = some (.pointer P2) := X2.out.cell 4; clear hr2 hj2 k2)
      | fail "no arm")
    go_ret
    have hsz := S2.out.size
    obtain ⟨q1, q2, q3, q4, q5, q6⟩ := after_open ⟨D2.out, R2.out, HB.out.n1, HB.out.n2⟩ A2.out X2.out J2.out W2.out hgb (by omega)
    exact ⟨rfl, q1, q2, S2.out.trans q6, .inr ⟨rfl, gj, gw, q3, hgj, by omega, q4, q5⟩⟩
  · have c1' := c1.mono (fun e w' (hp : OpPost w base ga kind p (D', nx, z) e w') => (show e = .returned (.tuple #[.pointer none, .int .i64 z]) ∧ DiskS w' base p D' ∧ Step mutD base p w w' from by
      obtain ⟨P, e1, e2, _, e4, e5⟩ := hp
      obtain rfl := e2 hz
      exact ⟨e1, e4, e5⟩))
    have c2' := fun {W : World} (hr : RDiskS W base q D) (hs : base ≤ W.heap.size) => (c2 hr hs).mono (fun e w' (hp : ROpPost W base q 1 8 kind (D', nx, z) e w') => (show e = .returned (.tuple #[.pointer none, .int .i64 z]) ∧ RDiskS w' base q D' ∧ RStep base q W w' from by
      obtain ⟨P, e1, e2, _, e4, e5⟩ := hp
      obtain rfl := e2 hz
      exact ⟨e1, e4, e5⟩))
    have hne : (z == 0) = false := by rw [beq_eq_false_iff_ne]; exact hz
    have hne2 : (z != 0) = true := by rw [bne_iff_ne]; exact hz
    have HZ := Lib.hid hz
    clear c1 c2 hz
    go_enter Try.func58, Try.ntmps58
    go_wp2_with (first
      | ((go_at_call 51; (with_reducible refine (c1').mono ?_); rintro e w1 ⟨rfl, hd1, st1⟩); have R1 := Lib.hid (HB.out.r.step HB.out.d st1 HB.out.n1 HB.out.n2 (by decide) (by decide)); have A1 := Lib.hid (HB.out.d.area HA.out st1.tch (by decide)); have X1 := Lib.hid (HB.out.d.blk HBB.out st1.tch (by decide)); have D1 := Lib.hid hd1; have S1 := Lib.hid st1; have s1 := st1.size; have y3 : w1.cell? ⟨gb, 3, none⟩ = some (.pointer (some ⟨q.d, 0, none⟩)) := X1.out.cell 3; clear hd1 st1)
      | ((go_at_call 94; (with_reducible refine (c2' R1.out (by omega)).mono ?_); rintro e w2 ⟨rfl, hr2, k2⟩); have D2 := Lib.hid (D1.out.rstep R1.out k2 HB.out.n1 HB.out.n2); have A2 := Lib.hid (R1.out.blk A1.out k2 (by decide)); have X2 := Lib.hid (R1.out.blk X1.out k2 (by decide)); have R2 := Lib.hid hr2; have S2 := Lib.hid (S1.out.bel.trans k2.bel); have K2 := Lib.hid k2; clear hr2 k2)
      | fail "no arm")
    go_ret
    exact ⟨rfl, ⟨D2.out, R2.out, HB.out.n1, HB.out.n2⟩, A2.out, S2.out, .inl ⟨HZ.out, X2.out, fun g t cs ht hb => RStep.blk8 R1.out (Step.blk8 HB.out.d hb S1.out ht) K2.out ht⟩⟩
def do9C (x : DoV) (B : Option Addr) (k d : Nat) : List Value := [.int .i64 x.kind, .int .i64 x.n, .slice B k d]
/-- What is known in the middle of a play's round: the disk may have gone on, the document's not yet. -/
structure JO (w0 w : World) (base : Nat) (p : DiskP) (q : RDiskP) (ga gb gx gj gw : Nat) (E D : DiskV) (x : DoV) (B : Option Addr) (k d : Nat) (kind : Int) (nx rnx : Nat) : Prop where
  sd : DiskS w base p E
  sr : RDiskS w base q D
  n1 : q.gi ≠ p.gi
  n2 : q.gi ≠ p.gm
  a : AreaAt w ga p.d 1 8
  bo : Blk w gb 105 (bothC p q ga (some ⟨gj, 0, none⟩) (some ⟨gw, 0, none⟩))
  xx : Blk w gx 94 (do9C x B k d)
  jj : JrnAt w gj ga kind nx
  rj : RJrnAt w gw q 1 8 kind rnx
  bel : Below base w0 w
  bs : base ≤ w0.heap.size
  gs : base ≤ gb ∧ base ≤ gj ∧ base ≤ gw
section
variable {x : DoV} {B : Option Addr} {k d : Nat} {kind : Int} {nx rnx nx' : Nat} {E' D' : DiskV}
theorem JO.size (h : JO w0 w base p q ga gb gx gj gw E D x B k d kind nx rnx) : base ≤ w.heap.size := Nat.le_trans h.bs h.bel.size
theorem JO.below (h : JO w0 w base p q ga gb gx gj gw E D x B k d kind nx rnx) (hb : Below w.heap.size w w') : JO w0 w' base p q ga gb gx gj gw E D x B k d kind nx rnx :=
  ⟨h.sd.below hb, h.sr.below hb, h.n1, h.n2, Blk.below h.a hb (Blk.lt h.a), h.bo.below hb h.bo.lt, h.xx.below hb h.xx.lt, Blk.below h.jj hb (Blk.lt h.jj), Blk.below h.rj hb (Blk.lt h.rj), h.bel.trans (hb.mono h.size), h.bs, h.gs⟩
theorem JO.step (h : JO w0 w base p q ga gb gx gj gw E D x B k d kind nx rnx) (st : Step mutD base p w w') (hd : DiskS w' base p E') : JO w0 w' base p q ga gb gx gj gw E' D x B k d kind nx rnx :=
  ⟨hd, h.sr.step h.sd st h.n1 h.n2 (by decide) (by decide), h.n1, h.n2, h.sd.area h.a st.tch (by decide), h.sd.blk h.bo st.tch (by decide), h.sd.blk h.xx st.tch (by decide), h.sd.blk h.jj st.tch (by decide), h.sd.blk h.rj st.tch (by decide), h.bel.trans st.bel, h.bs, h.gs⟩
theorem JO.stepJ (h : JO w0 w base p q ga gb gx gj gw E D x B k d kind nx rnx) (st : Step mutJ base p w w') (hd : DiskS w' base p E') (hj : JrnAt w' gj ga kind nx') : JO w0 w' base p q ga gb gx gj gw E' D x B k d kind nx' rnx :=
  ⟨hd, h.sr.step h.sd st h.n1 h.n2 (by decide) (by decide), h.n1, h.n2, h.sd.area h.a st.tch (by decide), h.sd.blk h.bo st.tch (by decide), h.sd.blk h.xx st.tch (by decide), hj, h.sd.blk h.rj st.tch (by decide), h.bel.trans st.bel, h.bs, h.gs⟩
theorem JO.rstep (h : JO w0 w base p q ga gb gx gj gw E D x B k d kind nx rnx) (kr : RStep base q w w') (hr : RDiskS w' base q D') : JO w0 w' base p q ga gb gx gj gw E D' x B k d kind nx rnx :=
  ⟨h.sd.rstep h.sr kr h.n1 h.n2, hr, h.n1, h.n2, h.sr.blk h.a kr (by decide), h.sr.blk h.bo kr (by decide), h.sr.blk h.xx kr (by decide), h.sr.blk h.jj kr (by decide), h.sr.blk h.rj kr (by decide), h.bel.trans kr.bel, h.bs, h.gs⟩
theorem JO.radd {R : DiskV × Nat × Int × Int} {e : Ending} (h : JO w0 w base p q ga gb gx gj gw E D x B k d kind nx rnx) (hp : RAddPost w base gw p q 1 8 kind E R e w') : JO w0 w' base p q ga gb gx gj gw E R.1 x B k d kind nx R.2.1 := by
  obtain ⟨_, h1, h2, h3, h4, h5⟩ := hp
  exact ⟨h2, h1, h.n1, h.n2, h5 _ _ _ (Blk.ne_ h.a h.rj (by decide)) (by decide) h.a, h5 _ _ _ (Blk.ne_ h.bo h.rj (by decide)) (by decide) h.bo, h5 _ _ _ (Blk.ne_ h.xx h.rj (by decide)) (by decide) h.xx, h5 _ _ _ (Blk.ne_ h.jj h.rj (by decide)) (by decide) h.jj, h3, h.bel.trans h4, h.bs, h.gs⟩
/-- Own bytes are as they were. -/
theorem RDiskS.ob9 {b n c' : Nat} {B' : Option Addr} {l : List UInt8} (h : RDiskS w base q D) (ho : OB w b 5 B' n c' l) (kr : RStep base q w w') : OB w' b 5 B' n c' l := by
  obtain ⟨F', hF', tF⟩ := kr.tch
  obtain ⟨_, ⟨c1, b1⟩, ⟨c2, b2⟩, ⟨c3, b3⟩⟩ := h.kinds
  refine ⟨ho.1, own_keep ho.2 hF' (fun g hg hf => ?_)⟩
  have hg' : B'.map (·.block) = some g := by cases B' with | none => simp [Value.ownBlock] at hg | some a => simpa [Value.ownBlock] using hg
  obtain ⟨cs, hbk⟩ := Ow.blk (enc := bv) ho hg'
  rcases tF _ _ _ hf hbk with q1 | q1 | q1 | q1 | q1
  · exact absurd q1 (by decide)
  · exact absurd q1 (by decide)
  · exact hbk.ne_ b1 (by decide) q1
  · exact hbk.ne_ b2 (by decide) q1
  · exact hbk.ne_ b3 (by decide) q1
/-- What one of a play leaves. -/
def OneJPost (w0 : World) (base : Nat) (p : DiskP) (q : RDiskP) (ga gb : Nat) (D : DiskV) (e : Ending) (w' : World) : Prop :=
  e = .returned (.bool true) ∧ ∃ (D' : DiskV) (gj gw : Nat) (kind : Int) (nx : Nat), Both w' base p q D' ∧ AreaAt w' ga p.d 1 8 ∧ Blk w' gb 105 (bothC p q ga (some ⟨gj, 0, none⟩) (some ⟨gw, 0, none⟩)) ∧ JrnAt w' gj ga kind nx ∧ RJrnAt w' gw q 1 8 kind nx ∧ base ≤ gj ∧ base ≤ gw ∧ Below base w0 w' ∧
    D'.many = D.many ∧ D'.waits.length ≤ D.waits.length + 8 ∧ nx ≤ 8
theorem JO.done {D0 : DiskV} (h : JO w0 w base p q ga gb gx gj gw D D x B k d kind nx nx) (h1 : D.many = D0.many) (h2 : D.waits.length ≤ D0.waits.length + 8) (h3 : nx ≤ 8) : OneJPost w0 base p q ga gb D0 (.returned (.bool true)) w :=
  ⟨rfl, D, gj, gw, kind, nx, ⟨h.sd, h.sr, h.n1, h.n2⟩, h.a, h.bo, h.jj, h.rj, h.gs.2.1, h.gs.2.2, h.bel, h1, h2, h3⟩
/-- Behind the opening. -/
theorem JO.opened {D0 : DiskV} {kk : Int} {e : Ending} (h : JO w0 w base p q ga gb gx gj gw D D x B k d kind nx nx) (h1 : D.many = D0.many) (h2 : D.waits.length ≤ D0.waits.length) (h3 : nx ≤ 8) (hp : BOpPost w base p q ga gb (some ⟨gj, 0, none⟩) (some ⟨gw, 0, none⟩) kk (jOpenV D 1 8 kk) e w') : OneJPost w0 base p q ga gb D0 e w' := by
  obtain ⟨rfl, hb, ha, hbel, hc⟩ := hp
  obtain ⟨q1, q2, q3⟩ := jOpenV_few D 1 8 kk
  have hs := h.size
  rcases hc with ⟨_, c1, c2⟩ | ⟨_, gj', gw', c1, c2, c3, c4, c5⟩
  · exact ⟨rfl, _, gj, gw, kind, nx, hb, ha, c1, c2 _ _ _ (by decide) h.jj, c2 _ _ _ (by decide) h.rj, h.gs.2.1, h.gs.2.2, h.bel.trans hbel, q1.trans h1, by omega, h3⟩
  · exact ⟨rfl, _, gj', gw', kk, _, hb, ha, c1, c4, c5, by omega, by omega, h.bel.trans hbel, q1.trans h1, by omega, q3⟩
set_option maxRecDepth 100000 in
set_option maxHeartbeats 20000000 in
theorem one9_any (h : Both w base p q D) (ha : AreaAt w ga p.d 1 8) (hb : Blk w gb 105 (bothC p q ga (some ⟨gj, 0, none⟩) (some ⟨gw, 0, none⟩))) (hj : JrnAt w gj ga kind nx) (hrj : RJrnAt w gw q 1 8 kind nx) (hs : base ≤ w.heap.size) (hg : base ≤ gb ∧ base ≤ gj ∧ base ≤ gw) (hm : D.many = 10) (hnx : nx ≤ 8)
    (x : DoV) (B : Option Addr) (k d : Nat) (hr : RB w B k x.b) (hB : 0 < k → ∀ g, B.map (·.block) = some g → g < base) (hk : k ≤ maxLen) (hxn : x.n ≤ 9223372036854775807) (hw : D.waits.length < 800000) :
    Calls Try.prog 59 #[.pointer (some ⟨gb, 0, none⟩), .agg #[.int .i64 x.kind, .int .i64 x.n, .slice B k d]] w (OneJPost w base p q ga gb D) := by
  have bA : Below w.heap.size w (w.alloc (.cells #[.int .i64 x.kind, .int .i64 x.n, .slice B k d] 94)) := (Below.refl _ _).alloc (Nat.le_refl _) _
  have O1 : JO w (w.alloc (.cells #[.int .i64 x.kind, .int .i64 x.n, .slice B k d] 94)) base p q ga gb w.heap.size gj gw D D x B k d kind nx nx :=
    ⟨h.d.below bA, h.r.below bA, h.n1, h.n2, Blk.below ha bA (Blk.lt ha), hb.below bA hb.lt, Blk.top _ rfl rfl, Blk.below hj bA (Blk.lt hj), Blk.below hrj bA (Blk.lt hrj), bA.mono hs, hs, hg⟩
  have low : ∀ {W : World}, Below base w W → RB W B k x.b := fun {W} hb => ⟨hr.1, fun h0 => (hr.2.sameB hb.size (fun b e _ => hb.block b (hB h0 b e))) h0⟩
  have LOW := Lib.hid (fun (W : World) (hb : Below base w W) => low hb)
  have HB := Lib.hid hB
  have HG := Lib.hid hg
  have HM := Lib.hid hm
  clear h ha hb hj hrj hr bA low hB hg
  generalize hgx : w.heap.size = gx at O1
  have HGX := Lib.hid hgx
  go_enter Try.func59, Try.ntmps59
  go_upto_region 1 with fail
  refine code_world (fun W => JO w W base p q ga gb gx gj gw D D x B k d kind nx nx) O1 ?_
  clear O1 hgx
  intro w4 O4
  have x0 : w4.cell? ⟨gx, 0, none⟩ = some (.int .i64 x.kind) := O4.xx.cell 0
  have x1 : w4.cell? ⟨gx, 1, none⟩ = some (.int .i64 x.n) := O4.xx.cell 1
  have x2 : w4.cell? ⟨gx, 2, none⟩ = some (.slice B k d) := O4.xx.cell 2
  have v0 : w4.cell? ⟨gb, 0, none⟩ = some (.pointer (some ⟨p.d, 0, none⟩)) := O4.bo.cell 0
  have v2 : w4.cell? ⟨gb, 2, none⟩ = some (.pointer (some ⟨gj, 0, none⟩)) := O4.bo.cell 2
  have v3 : w4.cell? ⟨gb, 3, none⟩ = some (.pointer (some ⟨q.d, 0, none⟩)) := O4.bo.cell 3
  have v4 : w4.cell? ⟨gb, 4, none⟩ = some (.pointer (some ⟨gw, 0, none⟩)) := O4.bo.cell 4
  have sz4 := O4.size
  have HO4 := Lib.hid O4
  have OD := Lib.hid (O4.below (Below.drew (Below.refl w4.heap.size w4)))
  clear O4
  by_cases h1 : x.kind = 1
  · have k1 : (x.kind == 1) = true := by rw [h1]; rfl
    have c1 := fun {W : World} {D' : DiskV} (O : JO w W base p q ga gb gx gj gw D D' x B k d kind nx nx) => jadd_any O.jj O.sd O.size O.gs.2.1 O.a (by rw [HM.out]; omega) (by omega) hnx (by omega) B k d x.b (LOW.out _ O.bel) hk
    have c2 := fun {W : World} {E' : DiskV} {nx' : Nat} (O : JO w W base p q ga gb gx gj gw E' D x B k d kind nx' nx) => rjadd_any O.rj O.sr O.sd O.n1 O.n2 O.size O.gs.2.2 (by rw [HM.out]; omega) (by omega) hnx (by omega) B k d x.b (LOW.out _ O.bel) hk
    have few := jAddV_few D 1 8 kind nx x.b hnx
    have FEW := Lib.hid few
    clear h1 few
    generalize jAddV D 1 8 kind nx x.b = R at *
    obtain ⟨D', nx', n', z⟩ := R
    go_wp2_with fail
    go_region_held3 (fun w' => w'.cell? ⟨gb, 2, none⟩ = some (.pointer (some ⟨gj, 0, none⟩)) ∧ w'.cell? ⟨gx, 2, none⟩ = some (.slice B k d)) (first | go_keep | (refine ⟨?_, ?_⟩ <;> assumption)) (first
      | ((go_at_call 52; (with_reducible refine (c1 OD.out).mono ?_); rintro e w5 ⟨rfl, hd5, hj5, st5⟩); have O5 := OD.out.stepJ st5 hd5 hj5; have y2 : w5.cell? ⟨gb, 2, none⟩ = some (.pointer (some ⟨gj, 0, none⟩)) := O5.bo.cell 2; have z2 : w5.cell? ⟨gx, 2, none⟩ = some (.slice B k d) := O5.xx.cell 2; have y4 : w5.cell? ⟨gb, 4, none⟩ = some (.pointer (some ⟨gw, 0, none⟩)) := O5.bo.cell 4; have HO5 := Lib.hid O5; clear O5 hd5 hj5 st5)
      | fail "no arm")
    go_wp2_with fail
    have OD5 := Lib.hid (HO5.out.below (Below.drew (Below.refl w5.heap.size w5)))
    go_region_held3 (fun w' => w'.cell? ⟨gb, 4, none⟩ = some (.pointer (some ⟨gw, 0, none⟩)) ∧ w'.cell? ⟨gx, 2, none⟩ = some (.slice B k d)) (first | go_keep | (refine ⟨?_, ?_⟩ <;> assumption)) (first
      | ((go_at_call 95; (with_reducible refine (c2 OD5.out).mono ?_); rintro e w6 hp6); have O6 := OD5.out.radd hp6; obtain ⟨rfl, _⟩ := hp6; have y6 : w6.cell? ⟨gb, 4, none⟩ = some (.pointer (some ⟨gw, 0, none⟩)) := O6.bo.cell 4; have z6 : w6.cell? ⟨gx, 2, none⟩ = some (.slice B k d) := O6.xx.cell 2; have HO6 := Lib.hid O6; clear O6)
      | fail "no arm")
    go_wp2
    go_ret
    exact HO6.out.done FEW.out.1 (by have := FEW.out.2.1; omega) FEW.out.2.2
  by_cases h2 : x.kind = 2
  · have k1 : (x.kind == 1) = false := by rw [h2]; rfl
    have k2 : (x.kind == 2) = true := by rw [h2]; rfl
    have c1 := fun {W : World} {D' : DiskV} (O : JO w W base p q ga gb gx gj gw D D' x B k d kind nx nx) => jflush_any O.jj O.sd O.size O.a
    have c2 := fun {W : World} {E' : DiskV} (O : JO w W base p q ga gb gx gj gw E' D x B k d kind nx nx) => r_flush O.sr O.size
    have FEW := Lib.hid (flushV_few D)
    generalize flushV D = R at *
    obtain ⟨D', z⟩ := R
    clear h1 h2
    go_wp2_with fail
    go_region_held3 (fun w' => w'.cell? ⟨gb, 2, none⟩ = some (.pointer (some ⟨gj, 0, none⟩)) ∧ w'.cell? ⟨gb, 3, none⟩ = some (.pointer (some ⟨q.d, 0, none⟩))) (first | go_keep | (refine ⟨?_, ?_⟩ <;> assumption)) (first
      | ((go_at_call 53; (with_reducible refine (c1 OD.out).mono ?_); rintro e w5 ⟨rfl, hd5, st5⟩); have O5 := OD.out.step st5 hd5; have y2 : w5.cell? ⟨gb, 2, none⟩ = some (.pointer (some ⟨gj, 0, none⟩)) := O5.bo.cell 2; have y3 : w5.cell? ⟨gb, 3, none⟩ = some (.pointer (some ⟨q.d, 0, none⟩)) := O5.bo.cell 3; have HO5 := Lib.hid O5; clear O5 hd5 st5)
      | ((go_at_call 74; (with_reducible refine (c2 HO5.out).mono ?_); rintro e w6 ⟨rfl, hr6, k6⟩); have O6 := HO5.out.rstep k6 hr6; have y6 : w6.cell? ⟨gb, 2, none⟩ = some (.pointer (some ⟨gj, 0, none⟩)) := O6.bo.cell 2; have z6 : w6.cell? ⟨gb, 3, none⟩ = some (.pointer (some ⟨q.d, 0, none⟩)) := O6.bo.cell 3; have HO6 := Lib.hid O6; clear O6 hr6 k6)
      | fail "no arm")
    go_wp2
    go_ret
    exact HO6.out.done FEW.out.1 (by have := FEW.out.2; omega) hnx
  have k1 : (x.kind == 1) = false := by rw [beq_eq_false_iff_ne]; exact h1
  have k2 : (x.kind == 2) = false := by rw [beq_eq_false_iff_ne]; exact h2
  by_cases h3 : x.kind = 3
  · have k3 : (x.kind == 3) = true := by rw [h3]; rfl
    have c1 := fun {W : World} {D' : DiskV} (O : JO w W base p q ga gb gx gj gw D D' x B k d kind nx nx) => jget_any O.jj O.sd O.size O.a (by rw [HM.out]; omega) (by omega) x.n
    have c2 := fun {W : World} {E' : DiskV} (O : JO w W base p q ga gb gx gj gw E' D x B k d kind nx nx) => rjget_any O.rj O.sr O.size (by rw [HM.out]; omega) (by omega) x.n
    have FEW := Lib.hid (jGetV_few D 1 8 kind nx x.n)
    generalize jGetV D 1 8 kind nx x.n = R at *
    obtain ⟨D', L, z⟩ := R
    simp only at c1 c2
    clear h1 h2 h3
    go_wp2_with fail
    go_region_held3 (fun w' => w'.cell? ⟨gb, 2, none⟩ = some (.pointer (some ⟨gj, 0, none⟩)) ∧ w'.cell? ⟨gx, 1, none⟩ = some (.int .i64 x.n)) (first | go_keep | (refine ⟨?_, ?_⟩ <;> assumption)) (first
      | ((go_at_call 91; (with_reducible refine (c1 OD.out).mono ?_); rintro e w5 ⟨B5, n5, d5, rfl, ob5, hd5, st5⟩); have O5 := OD.out.step st5 hd5; have y2 : w5.cell? ⟨gb, 2, none⟩ = some (.pointer (some ⟨gj, 0, none⟩)) := O5.bo.cell 2; have z2 : w5.cell? ⟨gx, 1, none⟩ = some (.int .i64 x.n) := O5.xx.cell 1; have y4 : w5.cell? ⟨gb, 4, none⟩ = some (.pointer (some ⟨gw, 0, none⟩)) := O5.bo.cell 4; have HO5 := Lib.hid O5; have OB5 := Lib.hid ob5; clear O5 hd5 st5 ob5)
      | fail "no arm")
    go_wp2_with fail
    have bD5 := Below.drew (Below.refl w5.heap.size w5)
    have OD5 := Lib.hid (HO5.out.below bD5)
    have OBD := Lib.hid (OB5.out.below bD5 (Nat.le_refl _))
    clear bD5
    go_region_held3 (fun w' => w'.cell? ⟨gb, 4, none⟩ = some (.pointer (some ⟨gw, 0, none⟩)) ∧ w'.cell? ⟨gx, 1, none⟩ = some (.int .i64 x.n)) (first | go_keep | (refine ⟨?_, ?_⟩ <;> assumption)) (first
      | ((go_at_call 96; (with_reducible refine (c2 OD5.out).mono ?_); rintro e w6 ⟨B6, n6, d6, rfl, rb6, hr6, k6⟩); have O6 := OD5.out.rstep k6 hr6; have y6 : w6.cell? ⟨gb, 4, none⟩ = some (.pointer (some ⟨gw, 0, none⟩)) := O6.bo.cell 4; have z6 : w6.cell? ⟨gx, 1, none⟩ = some (.int .i64 x.n) := O6.xx.cell 1; have ob6 := OD5.out.sr.ob9 OBD.out k6; have HO6 := Lib.hid O6; have hsame := same_any B5 B6 n5 n6 d5 d6 L L w6 ob6.rd.rb rb6 (by have := ob6.cap; omega); clear O6 hr6 k6 rb6 ob6)
      | fail "no arm")
    rw [show decide True = true from rfl] at hsame
    go_wp2_with (first
      | (go_at_call 24; (with_reducible refine (hsame).mono ?_); rintro e w8 ⟨rfl, q8, rfl⟩)
      | fail "no arm")
    go_ret
    exact (HO6.out.below (below_drewN (Below.refl _ _) q8)).done FEW.out.1 (by have := FEW.out.2; omega) hnx
  have k3 : (x.kind == 3) = false := by rw [beq_eq_false_iff_ne]; exact h3
  by_cases h4 : x.kind = 4
  · have k4 : (x.kind == 4) = true := by rw [h4]; rfl
    have c1 := fun {W : World} {D' : DiskV} (O : JO w W base p q ga gb gx gj gw D D' x B k d kind nx nx) => s_cut O.sd O.size x.n hxn
    have c2 := fun {W : World} {E' : DiskV} (O : JO w W base p q ga gb gx gj gw E' D x B k d kind nx nx) => r_cut O.sr O.size x.n hxn
    have FEW := Lib.hid (show ({ D with cut := max x.n (-1) } : DiskV).many = D.many ∧ ({ D with cut := max x.n (-1) } : DiskV).waits.length ≤ D.waits.length from ⟨rfl, Nat.le_refl _⟩)
    generalize ({ D with cut := max x.n (-1) } : DiskV) = D' at *
    clear h1 h2 h3 h4
    go_wp2_with fail
    go_region_held3 (fun w' => w'.cell? ⟨gb, 0, none⟩ = some (.pointer (some ⟨p.d, 0, none⟩)) ∧ w'.cell? ⟨gx, 1, none⟩ = some (.int .i64 x.n)) (first | go_keep | (refine ⟨?_, ?_⟩ <;> assumption)) (first
      | ((go_at_call 27; (with_reducible refine (c1 OD.out).mono ?_); rintro e w5 ⟨rfl, hd5, st5⟩); have O5 := OD.out.step st5 hd5; have y2 : w5.cell? ⟨gb, 0, none⟩ = some (.pointer (some ⟨p.d, 0, none⟩)) := O5.bo.cell 0; have z2 : w5.cell? ⟨gx, 1, none⟩ = some (.int .i64 x.n) := O5.xx.cell 1; have y4 : w5.cell? ⟨gb, 3, none⟩ = some (.pointer (some ⟨q.d, 0, none⟩)) := O5.bo.cell 3; have HO5 := Lib.hid O5; clear O5 hd5 st5)
      | fail "no arm")
    go_wp2_with fail
    have OD5 := Lib.hid (HO5.out.below (Below.drew (Below.refl w5.heap.size w5)))
    go_region_held3 (fun w' => w'.cell? ⟨gb, 3, none⟩ = some (.pointer (some ⟨q.d, 0, none⟩)) ∧ w'.cell? ⟨gx, 1, none⟩ = some (.int .i64 x.n)) (first | go_keep | (refine ⟨?_, ?_⟩ <;> assumption)) (first
      | ((go_at_call 76; (with_reducible refine (c2 OD5.out).mono ?_); rintro e w6 ⟨rfl, hr6, k6⟩); have O6 := OD5.out.rstep k6 hr6; have y6 : w6.cell? ⟨gb, 3, none⟩ = some (.pointer (some ⟨q.d, 0, none⟩)) := O6.bo.cell 3; have z6 : w6.cell? ⟨gx, 1, none⟩ = some (.int .i64 x.n) := O6.xx.cell 1; have HO6 := Lib.hid O6; clear O6 hr6 k6)
      | fail "no arm")
    go_wp2
    go_ret
    exact HO6.out.done FEW.out.1 (by have := FEW.out.2; omega) hnx
  have k4 : (x.kind == 4) = false := by rw [beq_eq_false_iff_ne]; exact h4
  by_cases h5 : x.kind = 5
  · have k5 : (x.kind == 5) = true := by rw [h5]; rfl
    have c1 := fun {W : World} {D' : DiskV} (O : JO w W base p q ga gb gx gj gw D D' x B k d kind nx nx) => s_crash O.sd O.size B k d x.b (LOW.out _ O.bel) HB.out hk
    have c2 := fun {W : World} {E' : DiskV} (O : JO w W base p q ga gb gx gj gw E' D x B k d kind nx nx) => r_crash O.sr O.size B k d x.b (LOW.out _ O.bel) HB.out hk
    have FEW := Lib.hid (show (crashV D x.b).many = D.many ∧ (crashV D x.b).waits.length ≤ D.waits.length from ⟨by simp [crashV], by simp [crashV]⟩)
    generalize crashV D x.b = D' at *
    have c3 := fun {W : World} (O : JO w W base p q ga gb gx gj gw D' D' x B k d kind nx nx) => bopen_any (P1 := some ⟨gj, 0, none⟩) (P2 := some ⟨gw, 0, none⟩) ⟨O.sd, O.sr, O.n1, O.n2⟩ O.a O.bo O.size O.gs.1 (by rw [FEW.out.1, HM.out]) kind (by have := FEW.out.2; omega)
    clear h1 h2 h3 h4 h5
    go_wp2_with fail
    go_region_held3 (fun w' => w'.cell? ⟨gb, 0, none⟩ = some (.pointer (some ⟨p.d, 0, none⟩)) ∧ w'.cell? ⟨gx, 2, none⟩ = some (.slice B k d)) (first | go_keep | (refine ⟨?_, ?_⟩ <;> assumption)) (first
      | ((go_at_call 22; (with_reducible refine (c1 OD.out).mono ?_); rintro e w5 ⟨rfl, hd5, st5⟩); have O5 := OD.out.step st5 hd5; have y2 : w5.cell? ⟨gb, 0, none⟩ = some (.pointer (some ⟨p.d, 0, none⟩)) := O5.bo.cell 0; have z2 : w5.cell? ⟨gx, 2, none⟩ = some (.slice B k d) := O5.xx.cell 2; have y4 : w5.cell? ⟨gb, 3, none⟩ = some (.pointer (some ⟨q.d, 0, none⟩)) := O5.bo.cell 3; have HO5 := Lib.hid O5; clear O5 hd5 st5)
      | fail "no arm")
    go_wp2_with fail
    have OD5 := Lib.hid (HO5.out.below (Below.drew (Below.refl w5.heap.size w5)))
    go_region_held3 (fun w' => w'.cell? ⟨gb, 3, none⟩ = some (.pointer (some ⟨q.d, 0, none⟩)) ∧ w'.cell? ⟨gx, 2, none⟩ = some (.slice B k d)) (first | go_keep | (refine ⟨?_, ?_⟩ <;> assumption)) (first
      | ((go_at_call 77; (with_reducible refine (c2 OD5.out).mono ?_); rintro e w6 ⟨rfl, hr6, k6⟩); have O6 := OD5.out.rstep k6 hr6; have y6 : w6.cell? ⟨gb, 3, none⟩ = some (.pointer (some ⟨q.d, 0, none⟩)) := O6.bo.cell 3; have z6 : w6.cell? ⟨gx, 2, none⟩ = some (.slice B k d) := O6.xx.cell 2; have r6 : w6.cell? ⟨gb, 4, none⟩ = some (.pointer (some ⟨gw, 0, none⟩)) := O6.bo.cell 4; have t6 : w6.cell? ⟨gw, 3, none⟩ = some (.int .i64 kind) := Blk.cell O6.rj 3; have HO6 := Lib.hid O6; clear O6 hr6 k6)
      | fail "no arm")
    have c4 := c3 HO6.out
    go_wp2_with (first
      | ((go_at_call 58; (with_reducible refine (c4).mono ?_); rintro e w7 hp7); have OO := Lib.hid (HO6.out.opened FEW.out.1 FEW.out.2 hnx hp7); obtain ⟨rfl, _⟩ := hp7)
      | fail "no arm")
    go_ret
    exact OO.out
  have k5 : (x.kind == 5) = false := by rw [beq_eq_false_iff_ne]; exact h5
  by_cases h6 : x.kind = 6
  · have k6 : (x.kind == 6) = true := by rw [h6]; rfl
    have c3 := bopen_any (P1 := some ⟨gj, 0, none⟩) (P2 := some ⟨gw, 0, none⟩) ⟨HO4.out.sd, HO4.out.sr, HO4.out.n1, HO4.out.n2⟩ HO4.out.a HO4.out.bo HO4.out.size HO4.out.gs.1 HM.out x.n (by omega)
    clear h1 h2 h3 h4 h5 h6
    go_wp2_with (first
      | ((go_at_call 58; (with_reducible refine (c3).mono ?_); rintro e w7 hp7); have OO := Lib.hid (HO4.out.opened rfl (Nat.le_refl _) hnx hp7); obtain ⟨rfl, _⟩ := hp7)
      | fail "no arm")
    go_ret
    exact OO.out
  have k6 : (x.kind == 6) = false := by rw [beq_eq_false_iff_ne]; exact h6
  clear h1 h2 h3 h4 h5 h6
  go_wp2
  go_ret
  exact HO4.out.done rfl (by omega) hnx
end
end
end Go.Proofs.Ytninidpbchcliaa
