/- Parts: KeepU. -/
import Derived.Test.YtpmkpckldnnigaaGreatPr48
import Derived.Test.YtpmkpckldnnigaaGreatPr49
import Derived.Test.YtpmkpckldnnigaaGreatPr50
namespace Go.Proofs.YtpmkpckldnnigaaGreat
open Go.RowKit
set_option linter.unusedVariables false
set_option linter.unusedSimpArgs false
/-- What is known of a keep. -/
def KpOk (k : KpV) : Prop := SOk k.s ∧ (k.has = false → k.last = noSnap) ∧ k.last.cells.length ≤ 100
theorem KpOk.none_ : KpOk noKeep := ⟨⟨⟨by decide, by decide⟩, fun _ => ⟨rfl, rfl⟩⟩, fun _ => rfl, by decide⟩
/-- What is carried along. -/
structure KB (w0 w : World) (base : Nat) (pd : DiskP) (q : RDiskP) (ga gb gl gr : Nat) (x : PA) (p : PV) (E D : DiskV) : Prop where
  sd : DiskS w base pd E
  sr : RDiskS w base q D
  n1 : q.gi ≠ pd.gi
  n2 : q.gi ≠ pd.gm
  a : AreaAt w ga pd.d 0 6
  b : AreaAt w gb pd.d 6 6
  l : Blk w gl 50 [.pointer (some ⟨q.d, 0, none⟩), .int .i64 0, .int .i64 6]
  r : Blk w gr 50 [.pointer (some ⟨q.d, 0, none⟩), .int .i64 6, .int .i64 6]
  bel : Below base w0 w
  bs : base ≤ w0.heap.size
  ol : Olds w0 base x p
section
variable {w w' w0 : World} {base ga gb gl gr g1 g2 gx : Nat} {pd : DiskP} {q : RDiskP} {D E D' E' : DiskV} {x : PA} {p : PV} {hash : Int} {k k' rk : KpV}
theorem KB.size (h : KB w0 w base pd q ga gb gl gr x p E D) : base ≤ w.heap.size := Nat.le_trans h.bs h.bel.size
theorem KB.prog (h : KB w0 w base pd q ga gb gl gr x p E D) : ProgAt w base x p := by
  obtain ⟨v, h1, h2, h3⟩ := h.ol
  exact ProgAt.old h1 ((h3.trans h.bel).mono h2) h2
theorem KB.below (h : KB w0 w base pd q ga gb gl gr x p E D) (hb : Below w.heap.size w w') : KB w0 w' base pd q ga gb gl gr x p E D :=
  ⟨h.sd.below hb, h.sr.below hb, h.n1, h.n2, Blk.below h.a hb (Blk.lt h.a), Blk.below h.b hb (Blk.lt h.b), h.l.below hb h.l.lt, h.r.below hb h.r.lt, h.bel.trans (hb.mono h.size), h.bs, h.ol⟩
theorem KB.step (h : KB w0 w base pd q ga gb gl gr x p E D) (st : Step mutD base pd w w') (hd : DiskS w' base pd E') : KB w0 w' base pd q ga gb gl gr x p E' D :=
  ⟨hd, h.sr.step h.sd st h.n1 h.n2 (by decide) (by decide), h.n1, h.n2, h.sd.area h.a st.tch (by decide), h.sd.area h.b st.tch (by decide), h.sd.blk h.l st.tch (by decide), h.sd.blk h.r st.tch (by decide), h.bel.trans st.bel, h.bs, h.ol⟩
theorem KB.rstep (h : KB w0 w base pd q ga gb gl gr x p E D) (kr : RStep base q w w') (hr : RDiskS w' base q D') : KB w0 w' base pd q ga gb gl gr x p E D' :=
  ⟨h.sd.rstep h.sr kr h.n1 h.n2, hr, h.n1, h.n2, h.sr.blk h.a kr (by decide), h.sr.blk h.b kr (by decide), h.sr.blk h.l kr (by decide), h.sr.blk h.r kr (by decide), h.bel.trans kr.bel, h.bs, h.ol⟩
theorem KB.saved {gs : Nat} (h : KB w0 w base pd q ga gb gl gr x p E D) (kk : RKSaved base q gs g2 w w') (hr : RDiskS w' base q D') : KB w0 w' base pd q ga gb gl gr x p E D' :=
  ⟨kk.disk h.sr h.sd h.n1 h.n2, hr, h.n1, h.n2, kk.blk h.sr h.a (by decide) (by decide) (by decide), kk.blk h.sr h.b (by decide) (by decide) (by decide), kk.blk h.sr h.l (by decide) (by decide) (by decide), kk.blk h.sr h.r (by decide) (by decide) (by decide), h.bel.trans kk.bel, h.bs, h.ol⟩
/-- What is known in the middle of a round. -/
structure KM (w0 w : World) (base : Nat) (pd : DiskP) (q : RDiskP) (ga gb gl gr gx g1 g2 : Nat) (x : PA) (p : PV) (hash : Int) (E D : DiskV) (xs : List Value) (k rk : KpV) : Prop where
  o : KB w0 w base pd q ga gb gl gr x p E D
  xx : Blk w gx 55 xs
  ka : KeepAtX (· = q.go) w base g1 ga gb x p hash k
  ra : RKeepAt (· = q.go) w base g2 q x p hash rk
  gs : base ≤ g1 ∧ base ≤ g2
section
variable {xs : List Value}
theorem KM.below (h : KM w0 w base pd q ga gb gl gr gx g1 g2 x p hash E D xs k rk) (hb : Below w.heap.size w w') : KM w0 w' base pd q ga gb gl gr gx g1 g2 x p hash E D xs k rk :=
  ⟨h.o.below hb, h.xx.below hb h.xx.lt, h.ka.below hb, h.ra.below hb, h.gs⟩
theorem KM.step (h : KM w0 w base pd q ga gb gl gr gx g1 g2 x p hash E D xs k rk) (st : Step mutD base pd w w') (hd : DiskS w' base pd E') : KM w0 w' base pd q ga gb gl gr gx g1 g2 x p hash E' D xs k rk :=
  ⟨h.o.step st hd, h.o.sd.blk h.xx st.tch (by decide), h.ka.step h.o.sd st (by decide) (by decide) (by decide) (by decide) (by decide) (by decide), h.ra.step h.o.sd st (by decide) (by decide) (by decide) (by decide), h.gs⟩
theorem KM.rstep (h : KM w0 w base pd q ga gb gl gr gx g1 g2 x p hash E D xs k rk) (kr : RStep base q w w') (hr : RDiskS w' base q D') : KM w0 w' base pd q ga gb gl gr gx g1 g2 x p hash E D' xs k rk :=
  ⟨h.o.rstep kr hr, h.o.sr.blk h.xx kr (by decide), h.ka.rstep h.o.sr kr (h.o.rstep kr hr).prog, h.ra.rstep h.o.sr kr, h.gs⟩
theorem KM.saved {gs : Nat} (h : KM w0 w base pd q ga gb gl gr gx g1 g2 x p hash E D xs k rk) (hg : base ≤ gs) (kk : RKSaved base q gs g2 w w') (hr : RDiskS w' base q D') (hk : RKeepAt (· = q.go) w' base g2 q x p hash k') : KM w0 w' base pd q ga gb gl gr gx g1 g2 x p hash E D' xs k k' :=
  ⟨h.o.saved kk hr, kk.blk h.o.sr h.xx (by decide) (by decide) (by decide), h.ka.rksaved kk h.o.sr ⟨hg, h.gs.2⟩ (h.o.saved kk hr).prog, hk, h.gs⟩
/-- Both are opened again. -/
theorem KM.opened {g1' g2' : Nat} (h : KM w0 w base pd q ga gb gl gr gx g1 g2 x p hash E D xs k rk) (hk : KeepAtX (· = q.go) w base g1' ga gb x p hash k') (h1 : base ≤ g1') (hr : RKeepAt (· = q.go) w base g2' q x p hash k') (h2 : base ≤ g2') : KM w0 w base pd q ga gb gl gr gx g1' g2' x p hash E D xs k' k' :=
  ⟨h.o, h.xx, hk, hr, h1, h2⟩
end
end
end Go.Proofs.YtpmkpckldnnigaaGreat
