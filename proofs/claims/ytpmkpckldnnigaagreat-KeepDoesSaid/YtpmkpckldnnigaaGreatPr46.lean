/- Parts: PlainSok, DoW, KeepU, KeepP, KeepM. -/
import Derived.Test.YtpmkpckldnnigaaGreatPr02
import Derived.Test.YtpmkpckldnnigaaGreatPr34
import Derived.Test.YtpmkpckldnnigaaGreatPr25
import Derived.Test.YtpmkpckldnnigaaGreatPr12
import Derived.Test.YtpmkpckldnnigaaGreatPr03
import Derived.Test.YtpmkpckldnnigaaGreatPr26
import Derived.Test.YtpmkpckldnnigaaGreatPr40
import Derived.Test.YtpmkpckldnnigaaGreatPr45
import Derived.Test.YtpmkpckldnnigaaGreatPr24
import Derived.Test.YtpmkpckldnnigaaGreatPr43
import Derived.Test.YtpmkpckldnnigaaGreatPr38
set_option linter.unusedVariables false
set_option linter.unusedSimpArgs false
set_option maxRecDepth 100000
set_option maxHeartbeats 40000000
namespace Go.Proofs.YtpmkpckldnnigaaGreat
open Go.RowKit
theorem vg2 (D : qa3) (f m : Nat) : -9223372036854775808 ≤ (qb2 D f m).2.2.1 ∧ (qb2 D f m).2.2.1 ≤ 9223372036854775807 := by
  have h : -9223372036854775808 ≤ (qg3 D f m 0 2).1 ∧ (qg3 D f m 0 2).1 ≤ 9223372036854775807 := by
    unfold qg3
    split
    · exact ⟨by simp, by simp⟩
    · unfold vj9
      split
      · exact sg_bd (qz6 _)
      · exact ⟨by simp, by simp⟩
  unfold qb2
  split
  · exact ⟨by simp, by simp⟩
  split
  · exact ⟨by simp, by simp⟩
  split
  · exact ⟨by simp, by simp⟩
  split
  · exact h
  · exact ⟨by simp, by simp⟩
def SOk (s : SlV3) : Prop := (-9223372036854775808 ≤ s.number ∧ s.number ≤ 9223372036854775807) ∧ (s.now = 2 → s.number = 0 ∧ s.load = [])
theorem openSV_ok (D : qa3) (fl ml fr mr : Nat) : SOk (qd3 D fl ml fr mr).2.1 ∧ (qd3 D fl ml fr mr).1.many = D.many ∧ (qd3 D fl ml fr mr).1.waits = D.waits := by
  obtain ⟨a1, a2⟩ := qw3 D fl ml; obtain ⟨b1, b2⟩ := qw3 (qb2 D fl ml).1 fr mr; have n1 := vg2 D fl ml; have n2 := vg2 (qb2 D fl ml).1 fr mr; unfold qd3
  split
  · exact ⟨⟨⟨by simp, by simp⟩, fun _ => ⟨rfl, rfl⟩⟩, a1, a2⟩
  split
  · exact ⟨⟨⟨by simp, by simp⟩, fun _ => ⟨rfl, rfl⟩⟩, b1.trans a1, b2.trans a2⟩
  split
  · exact ⟨⟨n1, fun e => absurd e smp⟩, b1.trans a1, b2.trans a2⟩
  split
  · exact ⟨⟨n2, fun e => absurd e smp⟩, b1.trans a1, b2.trans a2⟩
  · exact ⟨⟨⟨by simp, by simp⟩, fun _ => ⟨rfl, rfl⟩⟩, b1.trans a1, b2.trans a2⟩
theorem saveA_few (D : qa3) (f m : Nat) (number : Int) (load : List UInt8) (hl : load.length ≤ 512) : (qo7 D f m number load).1.many = D.many ∧ (qo7 D f m number load).1.waits.length ≤ D.waits.length + 6 := by
  obtain ⟨a1, a2⟩ := qi7 D f m 0 qa5; obtain ⟨b1, b2⟩ := qo8 (qb0 D f m 0 qa5).1; obtain ⟨f1, f2⟩ := fillV_few (qc1 (qb0 D f m 0 qa5).1).1 f m load; obtain ⟨p1, p2⟩ := vj0 (qm3 (qc1 (qb0 D f m 0 qa5).1).1 f m load).1 f m 0 2 number (qn9 load); obtain ⟨g1, g2⟩ := qo8 (qm5 (qm3 (qc1 (qb0 D f m 0 qa5).1).1 f m load).1 f m 0 2 number (qn9 load)).1; have hk4 : qi0 load.length ≤ 4 := by unfold qi0; omega
  unfold qo7
  split
  · exact ⟨a1, omg⟩
  split
  · exact ⟨b1.trans a1, omg⟩
  split
  · exact ⟨(f1.trans b1).trans a1, omg⟩
  split
  · exact ⟨((p1.trans f1).trans b1).trans a1, omg⟩
  · exact ⟨(((g1.trans p1).trans f1).trans b1).trans a1, omg⟩
theorem saveSV_ok (D : qa3) (fl ml fr mr : Nat) (s : SlV3) (load : List UInt8) (h : SOk s) : SOk (qf5 D fl ml fr mr s load).2.1 ∧ (qf5 D fl ml fr mr s load).1.many = D.many ∧ (qf5 D fl ml fr mr s load).1.waits.length ≤ D.waits.length + 6 := by
  by_cases h3 : 512 < load.length ∨ s.number = 9223372036854775807
  · unfold qf5; rw [if_pos h3]; exact ⟨h, rfl, by simp⟩
  · have hf := fun f m => saveA_few D f m (s.number + 1) load omg
    obtain ⟨⟨hn1, hn2⟩, _⟩ := id h; unfold qf5; rw [if_neg h3]; have ho : (if s.now = 0 then 1 else 0) ≠ 2 := by split <;> omega
    generalize (if s.now = 0 then fr else fl) = f; generalize (if s.now = 0 then mr else ml) = m; generalize (if s.now = 0 then 1 else 0) = o at *; obtain ⟨x1, x2⟩ := hf f m
    by_cases hz : (qo7 D f m (s.number + 1) load).2 ≠ 0
    · rw [if_pos hz]; exact ⟨h, x1, x2⟩
    · rw [if_neg hz]; exact ⟨⟨⟨by show _ ≤ s.number + 1; omega, by show s.number + 1 ≤ _; omega⟩, fun e => absurd e ho⟩, x1, x2⟩
open Go.RowKit Go.WideShapes Go.ChangeShapes Go.Deep Go.Joins
structure DoW where
  kind : Int
  n : Int
  l : List Int
  b : List UInt8
def DosW (w : World) (A : Option Addr) (n : Nat) (l : List DoW) : Prop :=
  l.length = n ∧ ∀ k x, l[k]? = some x → ∃ b o C q e B m c, A = some ⟨b, o, none⟩ ∧ b < w.heap.size ∧ w.cell? ⟨b, o + k * 4 + 0, none⟩ = some (.int .i64 x.kind) ∧ w.cell? ⟨b, o + k * 4 + 1, none⟩ = some (.int .i64 x.n) ∧ w.cell? ⟨b, o + k * 4 + 2, none⟩ = some (.slice C q e) ∧ w.cell? ⟨b, o + k * 4 + 3, none⟩ = some (.slice B m c) ∧
    RI w C q x.l ∧ q ≤ e ∧ e ≤ maxLen ∧ RB w B m x.b ∧ m ≤ c ∧ c ≤ maxLen ∧ (-9223372036854775808 ≤ x.kind ∧ x.kind ≤ 9223372036854775807) ∧ (-9223372036854775808 ≤ x.n ∧ x.n ≤ 9223372036854775807) ∧ IntOk x.l
theorem DosW.below {w w' : World} {A : Option Addr} {n B0 : Nat} {l : List DoW} (h : DosW w A n l) (hb : Below B0 w w') (hB : w.heap.size ≤ B0) : DosW w' A n l := by
  refine ⟨h.1, fun k x hx => ?_⟩; obtain ⟨b, o, C, q, e, B, m, c, hA, hlt, c0, c1, c2, c3, hi, h1, h2, hr, rest⟩ := h.2 k x hx; have hs := hb.size; have hc : ∀ j, w'.cell? ⟨b, j, none⟩ = w.cell? ⟨b, j, none⟩ := fun j => hb.cell (p := ⟨b, j, none⟩) (by show b < B0; omega)
  exact ⟨b, o, C, q, e, B, m, c, hA, omg, by rw [hc]; exact c0, by rw [hc]; exact c1, by rw [hc]; exact c2, by rw [hc]; exact c3, hi.below hb hB, h1, h2, hr.below hb hB, rest⟩
theorem DosW.get {w : World} {A : Option Addr} {n k : Nat} {l : List DoW} {x : DoW} (h : DosW w A n l) (hx : l[k]? = some x) :
    ∃ b o C q e B m d, A = some ⟨b, o, none⟩ ∧ RI w C q x.l ∧ q ≤ e ∧ e ≤ maxLen ∧ RB w B m x.b ∧ m ≤ d ∧ d ≤ maxLen ∧ (-9223372036854775808 ≤ x.n ∧ x.n ≤ 9223372036854775807) ∧ IntOk x.l ∧
      ∀ (w' : World) (B0 : Nat), Below B0 w w' → w.heap.size ≤ B0 → b < w'.heap.size ∧ w'.cell? ⟨b, o + k * 4, none⟩ = some (.int .i64 x.kind) ∧ w'.cell? ⟨b, o + k * 4 + 1, none⟩ = some (.int .i64 x.n) ∧ w'.cell? ⟨b, o + k * 4 + 2, none⟩ = some (.slice C q e) ∧ w'.cell? ⟨b, o + k * 4 + 3, none⟩ = some (.slice B m d) := by
  obtain ⟨b, o, C, q, e, B, m, c, hA, hlt, c0, c1, c2, c3, hi, h1, h2, hr, hm, hc, _, hn, ho⟩ := h.2 k x hx; refine ⟨b, o, C, q, e, B, m, c, hA, hi, h1, h2, hr, hm, hc, hn, ho, fun w' B0 hb hB => ?_⟩; have hs := hb.size; have hcl : ∀ j, w'.cell? ⟨b, j, none⟩ = w.cell? ⟨b, j, none⟩ := fun j => hb.cell (p := ⟨b, j, none⟩) (by show b < B0; omega)
  exact ⟨omg, by rw [hcl]; exact c0, by rw [hcl]; exact c1, by rw [hcl]; exact c2, by rw [hcl]; exact c3⟩
theorem intOk_of {l : List Int} (h : ∀ z ∈ l, -9223372036854775808 ≤ z ∧ z ≤ 9223372036854775807) : IntOk l := fun i hi => by
  unfold qd5; rw [List.getD_eq_getElem?_getD, List.getElem?_eq_getElem hi]; exact h _ (List.getElem_mem hi)
def KpOk (k : KpV) : Prop := SOk k.s ∧ (k.has = false → k.last = qn8) ∧ k.last.cells.length ≤ 100
theorem KpOk.none_ : KpOk qu3 := ⟨⟨⟨by decide, by decide⟩, fun _ => ⟨rfl, rfl⟩⟩, fun _ => rfl, by decide⟩
theorem stRead_fits {p : PV} {b : List UInt8} (h : (qn0 p b).2 = 0) : ql1 p (qn0 p b).1 = true := by
  unfold qn0 at h ⊢
  split at h
  · exact absurd h dcd
  · rename_i h0; rw [if_neg h0]
    split at h
    · exact absurd h dcd
    · rename_i h1; rw [if_neg h1]
      split at h
      · exact absurd h dcd
      · rename_i h2; rw [if_neg h2]
        split at h
        · rename_i h3; rw [if_pos h3]; exact h3
        · exact absurd h dcd
theorem vg6 {p : PV} {s : SV} (h : ql1 p s = true) : s.cells.length ≤ 100 := by
  obtain ⟨m1, _, _, m4, _⟩ := qw4.1 h; have := (qe9.1 m1).2.2.2.2.1; omega
theorem kOpenV_ok (D : qa3) (p : PV) (hash : Int) : KpOk (qm2 D 0 6 6 6 p hash).2.1 ∧ (qm2 D 0 6 6 6 p hash).1.many = D.many ∧ (qm2 D 0 6 6 6 p hash).1.waits = D.waits := by
  obtain ⟨h1, h2, h3⟩ := openSV_ok D 0 6 6 6; unfold qm2
  split
  · exact ⟨KpOk.none_, rfl, rfl⟩
  · split
    · exact ⟨KpOk.none_, h2, h3⟩
    · split
      · exact ⟨⟨h1, fun _ => rfl, show qn8.cells.length ≤ 100 by decide⟩, h2, h3⟩
      · split
        · exact ⟨KpOk.none_, h2, h3⟩
        · rename_i _ _ _ h4
          split
          · exact ⟨KpOk.none_, h2, h3⟩
          · refine ⟨⟨h1, fun e => Bool.noConfusion e, vg6 (stRead_fits ?_)⟩, h2, h3⟩; exact Decidable.byContradiction h4
theorem kSaveV_ok (D : qa3) (p : PV) (hash tick : Int) (k : KpV) (cells : List Int) (h : KpOk k) : KpOk (qm1 D 0 6 6 6 p hash k tick cells).2.1 ∧ (qm1 D 0 6 6 6 p hash k tick cells).1.many = D.many ∧ (qm1 D 0 6 6 6 p hash k tick cells).1.waits.length ≤ D.waits.length + 6 := by
  obtain ⟨h1, h2, h3⟩ := saveSV_ok D 0 6 6 6 k.s (stBs ⟨tick, hash, cells⟩) h.1; unfold qm1
  split
  · exact ⟨h, rfl, by simp⟩
  · rename_i hf
    split
    · exact ⟨⟨h1, h.2.1, h.2.2⟩, h2, h3⟩
    · exact ⟨⟨h1, fun e => Bool.noConfusion e, vg6 (p := p) (by cases q : ql1 p ⟨tick, hash, cells⟩ with | true => rfl | false => exact absurd q hf)⟩, h2, h3⟩
structure KB (w0 w : World) (base : Nat) (pd : qe3) (q : qf0) (ga gb gl gr : Nat) (x : PA) (p : PV) (E D : qa3) : Prop where
  sd : qc4 w base pd E
  sr : qb5 w base q D
  n1 : q.gi ≠ pd.gi
  n2 : q.gi ≠ pd.gm
  a : qc3 w ga pd.d 0 6
  b : qc3 w gb pd.d 6 6
  l : Blk w gl 50 [.pointer (some ⟨q.d, 0, none⟩), .int .i64 0, .int .i64 6]
  r : Blk w gr 50 [.pointer (some ⟨q.d, 0, none⟩), .int .i64 6, .int .i64 6]
  bel : Below base w0 w
  bs : base ≤ w0.heap.size
  ol : Olds w0 base x p
section
variable {w w' w0 : World} {base ga gb gl gr g1 g2 gx : Nat} {pd : qe3} {q : qf0} {D E D' E' : qa3} {x : PA} {p : PV} {hash : Int} {k k' rk : KpV}
theorem KB.size (h : KB w0 w base pd q ga gb gl gr x p E D) : base ≤ w.heap.size := Nat.le_trans h.bs h.bel.size
theorem KB.olds (h : KB w0 w base pd q ga gb gl gr x p E D) : Olds w base x p := by
  obtain ⟨v, h1, h2, h3⟩ := h.ol; exact ⟨v, h1, h2, h3.trans h.bel⟩
theorem KB.prog (h : KB w0 w base pd q ga gb gl gr x p E D) : ql6 w base x p := by
  obtain ⟨v, h1, h2, h3⟩ := h.ol; exact ql6.old h1 ((h3.trans h.bel).mono h2) h2
theorem KB.below (h : KB w0 w base pd q ga gb gl gr x p E D) (hb : Below w.heap.size w w') : KB w0 w' base pd q ga gb gl gr x p E D :=
  ⟨h.sd.below hb, h.sr.below hb, h.n1, h.n2, Blk.below h.a hb (Blk.lt h.a), Blk.below h.b hb (Blk.lt h.b), h.l.below hb h.l.lt, h.r.below hb h.r.lt, h.bel.trans (hb.mono h.size), h.bs, h.ol⟩
theorem KB.step (h : KB w0 w base pd q ga gb gl gr x p E D) (st : Step mutD base pd w w') (hd : qc4 w' base pd E') : KB w0 w' base pd q ga gb gl gr x p E' D :=
  ⟨hd, h.sr.step h.sd st h.n1 h.n2 dcd dcd, h.n1, h.n2, h.sd.area h.a st.tch dcd, h.sd.area h.b st.tch dcd, h.sd.blk h.l st.tch dcd, h.sd.blk h.r st.tch dcd, h.bel.trans st.bel, h.bs, h.ol⟩
theorem KB.stepK (h : KB w0 w base pd q ga gb gl gr x p E D) (st : Step mutK base pd w w') (hd : qc4 w' base pd E') : KB w0 w' base pd q ga gb gl gr x p E' D :=
  ⟨hd, h.sr.step h.sd st h.n1 h.n2 dcd dcd, h.n1, h.n2, h.sd.area h.a st.tch dcd, h.sd.area h.b st.tch dcd, h.sd.blk h.l st.tch dcd, h.sd.blk h.r st.tch dcd, h.bel.trans st.bel, h.bs, h.ol⟩
theorem KB.rstep (h : KB w0 w base pd q ga gb gl gr x p E D) (kr : qd4 base q w w') (hr : qb5 w' base q D') : KB w0 w' base pd q ga gb gl gr x p E D' :=
  ⟨h.sd.rstep h.sr kr h.n1 h.n2, hr, h.n1, h.n2, h.sr.blk h.a kr dcd, h.sr.blk h.b kr dcd, h.sr.blk h.l kr dcd, h.sr.blk h.r kr dcd, h.bel.trans kr.bel, h.bs, h.ol⟩
theorem KB.saved {gs : Nat} (h : KB w0 w base pd q ga gb gl gr x p E D) (kk : ql8 base q gs g2 w w') (hr : qb5 w' base q D') : KB w0 w' base pd q ga gb gl gr x p E D' :=
  ⟨kk.disk h.sr h.sd h.n1 h.n2, hr, h.n1, h.n2, kk.blk h.sr h.a dcd dcd dcd, kk.blk h.sr h.b dcd dcd dcd, kk.blk h.sr h.l dcd dcd dcd, kk.blk h.sr h.r dcd dcd dcd, h.bel.trans kk.bel, h.bs, h.ol⟩
def do37C (d : DoW) (C : Option Addr) (i e : Nat) (B : Option Addr) (m c : Nat) : List Value := [.int .i64 d.kind, .int .i64 d.n, .slice C i e, .slice B m c]
structure KM (w0 w : World) (base : Nat) (pd : qe3) (q : qf0) (ga gb gl gr gx g1 g2 : Nat) (x : PA) (p : PV) (hash : Int) (E D : qa3) (xs : List Value) (k rk : KpV) : Prop where
  o : KB w0 w base pd q ga gb gl gr x p E D
  xx : Blk w gx 55 xs
  ka : qg5 (· = q.go) w base g1 ga gb x p hash k
  ra : qj9 (· = q.go) w base g2 q x p hash rk
  gs : base ≤ g1 ∧ base ≤ g2
section
variable {xs : List Value}
theorem KM.below (h : KM w0 w base pd q ga gb gl gr gx g1 g2 x p hash E D xs k rk) (hb : Below w.heap.size w w') : KM w0 w' base pd q ga gb gl gr gx g1 g2 x p hash E D xs k rk :=
  ⟨h.o.below hb, h.xx.below hb h.xx.lt, h.ka.below hb, h.ra.below hb, h.gs⟩
theorem KM.step (h : KM w0 w base pd q ga gb gl gr gx g1 g2 x p hash E D xs k rk) (st : Step mutD base pd w w') (hd : qc4 w' base pd E') : KM w0 w' base pd q ga gb gl gr gx g1 g2 x p hash E' D xs k rk :=
  ⟨h.o.step st hd, h.o.sd.blk h.xx st.tch dcd, h.ka.step h.o.sd st dcd dcd dcd dcd dcd dcd, h.ra.step h.o.sd st dcd dcd dcd dcd, h.gs⟩
theorem KM.stepK (h : KM w0 w base pd q ga gb gl gr gx g1 g2 x p hash E D xs k rk) (st : Step mutK base pd w w') (hd : qc4 w' base pd E') (hk : qg5 (· = q.go) w' base g1 ga gb x p hash k') : KM w0 w' base pd q ga gb gl gr gx g1 g2 x p hash E' D xs k' rk :=
  ⟨h.o.stepK st hd, h.o.sd.blk h.xx st.tch dcd, hk, h.ra.step h.o.sd st dcd dcd dcd dcd, h.gs⟩
theorem KM.rstep (h : KM w0 w base pd q ga gb gl gr gx g1 g2 x p hash E D xs k rk) (kr : qd4 base q w w') (hr : qb5 w' base q D') : KM w0 w' base pd q ga gb gl gr gx g1 g2 x p hash E D' xs k rk :=
  ⟨h.o.rstep kr hr, h.o.sr.blk h.xx kr dcd, h.ka.rstep h.o.sr kr (h.o.rstep kr hr).prog, h.ra.rstep h.o.sr kr, h.gs⟩
theorem KM.saved {gs : Nat} (h : KM w0 w base pd q ga gb gl gr gx g1 g2 x p hash E D xs k rk) (hg : base ≤ gs) (kk : ql8 base q gs g2 w w') (hr : qb5 w' base q D') (hk : qj9 (· = q.go) w' base g2 q x p hash k') : KM w0 w' base pd q ga gb gl gr gx g1 g2 x p hash E D' xs k k' :=
  ⟨h.o.saved kk hr, kk.blk h.o.sr h.xx dcd dcd dcd, h.ka.rksaved kk h.o.sr ⟨hg, h.gs.2⟩ (h.o.saved kk hr).prog, hk, h.gs⟩
theorem KM.opened {g1' g2' : Nat} (h : KM w0 w base pd q ga gb gl gr gx g1 g2 x p hash E D xs k rk) (hk : qg5 (· = q.go) w base g1' ga gb x p hash k') (h1 : base ≤ g1') (hr : qj9 (· = q.go) w base g2' q x p hash k') (h2 : base ≤ g2') : KM w0 w base pd q ga gb gl gr gx g1' g2' x p hash E D xs k' k' :=
  ⟨h.o, h.xx, hk, hr, h1, h2⟩
end
end
def qh0 : PV := ⟨[1], [1], 2, [(1, 0)], [⟨28, 0, 0, 0, 0⟩, ⟨21, 1, 0, 0, 0⟩, ⟨32, 0, 0, 0, 0⟩, ⟨29, 1, 0, 0, 0⟩]⟩
def ql4 : Int := (fnv (qi6 qh0) % 9223372036854775808 : Nat)
theorem delay_right : qj8 qh0 = true := by decide +kernel
theorem delay_may : mayB qh0 = true := by decide +kernel
theorem delay_wf : qs1 qh0 := ⟨by decide +kernel, by decide +kernel⟩
def K37a : qa3 × KpV × Int := qm2 D10a 0 6 6 6 qh0 ql4
def K37b : qa3 × KpV × Int := qm1 K37a.1 0 6 6 6 qh0 ql4 K37a.2.1 5 [7]
def K37c : qa3 × KpV × Int := qm2 K37b.1 0 6 6 6 qh0 ql4
theorem ve0 (B : Option Addr) (n d : Nat) (img : List UInt8) (w : World) (hr : RB w B n img) (hnd : n ≤ d) (hl : n ≤ 1536) (hu : (qk2 img : Int) ≤ 12) :
    Calls Tryz.prog 14 #[.slice B n d] w (Made10 w (qr2 12 12 img (qk2 img))) := by
  have hld : Calls Tryz.prog 52 #[.slice B n d, .int .i64 12, .int .i64 12] w (LdPost w (qr2 12 12 img (qk2 img))) := load_ok B n d img 12 12 w hr hnd omg omg omg omg omg hu; have hmany : (qr2 12 12 img (qk2 img)).many = 12 := rfl; generalize qr2 12 12 img (qk2 img) = D at *; have hna : ∀ {w1 : World} {p : qe3}, qc4 w1 w.heap.size p D → w.heap.size ≤ w1.heap.size → Calls Tryz.prog 56 #[.pointer (some ⟨p.d, 0, none⟩), .agg #[.int .i64 0, .int .i64 6]] w1 fun e w' => ∃ ga, e = .returned (.tuple #[.pointer (some ⟨ga, 0, none⟩), .int .i64 0]) ∧ qc3 w' ga p.d 0 6 ∧ w1.heap.size ≤ ga ∧ qc4 w' w.heap.size p D ∧ Step mutD w.heap.size p w1 w' := fun h hs => s_anew h hs 0 6 omg (by rw [hmany]; omega)
  have hnb : ∀ {w1 : World} {p : qe3}, qc4 w1 w.heap.size p D → w.heap.size ≤ w1.heap.size → Calls Tryz.prog 56 #[.pointer (some ⟨p.d, 0, none⟩), .agg #[.int .i64 6, .int .i64 6]] w1 fun e w' => ∃ ga, e = .returned (.tuple #[.pointer (some ⟨ga, 0, none⟩), .int .i64 0]) ∧ qc3 w' ga p.d 6 6 ∧ w1.heap.size ≤ ga ∧ qc4 w' w.heap.size p D ∧ Step mutD w.heap.size p w1 w' := fun h hs => s_anew h hs 6 6 omg (by rw [hmany]; omega)
  go_enter Tryz.func14, Tryz.ntmps14; go_wp2_with (first | ((go_at_call 52; (with_reducible refine (hld).mono ?_); rintro e w1 ⟨p, rfl, h1, b1⟩); have H1 := hdd h1; have s1 := b1.size; clear h1) | ((go_at_call 56; (with_reducible refine (hna H1.out s1).mono ?_); rintro e w2 ⟨ga, rfl, ha2, hg2, h2, s2⟩); have H2 := hdd h2; have A2 := hdd ha2; have z2 := s2.size; clear h2 ha2) | ((go_at_call 56; (with_reducible refine (hnb H2.out omg).mono ?_); rintro e w3 ⟨gb, rfl, hb3, hg3, h3, s3⟩); have H3 := hdd h3; have B3 := hdd hb3; have A3 := hdd (H2.out.area A2.out s3.tch dcd); clear h3 hb3) | fail "no arm"); go_returns; exact ⟨p, ga, gb, rfl, H3.out, A3.out, B3.out, (b1.trans s2.bel).trans s3.bel, Nat.le_refl _⟩
def ProgNew (w : World) (P : PV) (e : Ending) (w' : World) : Prop := ∃ x : PA, e = .returned (.agg #[.slice x.A1 x.n1 x.c1, .slice x.A2 x.n2 x.c2, .int .i64 P.regs, .slice x.A3 x.n3 x.c3, .slice x.A4 x.n4 x.c4]) ∧ (∀ base, ql6 w' base x P) ∧ Below w.heap.size w w'
theorem delay_at {W : World} {g1 g2 g3 g4 : Nat} (b1 : Blk W g1 3 [.int .i64 1]) (b2 : Blk W g2 3 [.int .i64 1]) (b3 : Blk W g3 196 [.int .i64 1, .int .i64 0])
    (b4 : Blk W g4 133 [.int .i64 28, .int .i64 0, .int .i64 0, .int .i64 0, .int .i64 0, .int .i64 21, .int .i64 1, .int .i64 0, .int .i64 0, .int .i64 0, .int .i64 32, .int .i64 0, .int .i64 0, .int .i64 0, .int .i64 0, .int .i64 29, .int .i64 1, .int .i64 0, .int .i64 0, .int .i64 0]) (base : Nat) :
    ql6 W base ⟨some ⟨g1, 0, none⟩, 1, 1, some ⟨g2, 0, none⟩, 1, 1, some ⟨g3, 0, none⟩, 1, 1, some ⟨g4, 0, none⟩, 4, 4⟩ qh0 := by
  have mx : ∀ n : Nat, n ≤ 4 → n ≤ n ∧ n ≤ maxLen := fun n hn => ⟨Nat.le_refl _, by unfold maxLen; omega⟩
  refine ⟨⟨(Rd.of_block (enc := iv) (l := [1]) b1 rfl).ri, (Rd.of_block (enc := iv) (l := [1]) b2 rfl).ri, RdS.of_block b3 qj2 (l := [(1, 0)]) rfl, RdS.of_block b4 qk8 (l := [⟨28, 0, 0, 0, 0⟩, ⟨21, 1, 0, 0, 0⟩, ⟨32, 0, 0, 0, 0⟩, ⟨29, 1, 0, 0, 0⟩]) rfl, mx 1 omg, mx 1 omg, mx 1 omg, mx 4 omg⟩, fun _ g hg => ?_, fun _ g hg => ?_, fun _ g hg => ?_, fun _ g hg => ?_⟩
  · simp only [Option.map_some, Option.some.injEq] at hg; subst hg; exact .inr ⟨_, b1⟩
  · simp only [Option.map_some, Option.some.injEq] at hg; subst hg; exact .inr ⟨_, b2⟩
  · simp only [Option.map_some, Option.some.injEq] at hg; subst hg; exact .inr ⟨_, b3⟩
  · simp only [Option.map_some, Option.some.injEq] at hg; subst hg; exact .inr ⟨_, b4⟩
theorem delay_any (w : World) : Calls Tryz.prog 37 #[] w (ProgNew w qh0) := by
  go_enter Tryz.func37, Tryz.ntmps37; go_wp2; refine bodyPost_ret (v := .agg #[.slice (some ⟨w.heap.size + 1, 0, none⟩) 1 1, .slice (some ⟨w.heap.size + 1 + 1, 0, none⟩) 1 1, .int .i64 2, .slice (some ⟨w.heap.size + 1 + 1 + 1, 0, none⟩) 1 1, .slice (some ⟨w.heap.size + 1 + 1 + 1 + 1, 0, none⟩) 4 4]) (by simp [results, Tryz.results37, go_sem]) rfl ?_; refine ⟨_, rfl, fun base => delay_at (g1 := w.heap.size + 1) (g2 := w.heap.size + 1 + 1) (g3 := w.heap.size + 1 + 1 + 1) (g4 := w.heap.size + 1 + 1 + 1 + 1) ?_ ?_ ?_ ?_ base, gwn⟩
  · exact (((Blk.top _ smp rfl).alloc _).alloc _).alloc _
  · exact ((Blk.top _ smp rfl).alloc _).alloc _
  · exact (Blk.top _ smp rfl).alloc _
  · exact Blk.top _ smp rfl
end Go.Proofs.YtpmkpckldnnigaaGreat
