/- Parts: RDiskA. -/
import Derived.Test.YtpmkpckldnnigaaGreatPr37
import Derived.Test.YtpmkpckldnnigaaGreatPr27
import Derived.Test.YtpmkpckldnnigaaGreatPr04
namespace Go.Proofs.YtpmkpckldnnigaaGreat
open Go.RowKit
set_option linter.unusedVariables false
set_option linter.unusedSimpArgs false
/-- Where its pieces lie: the struct; the rows of what is kept, of what is in use, of the counts. -/
structure RDiskP where
  d : Nat
  gk : Nat
  gi : Nat
  go : Nat
def rdC (q : RDiskP) (many ck ci : Nat) (A : Option Addr) (nW c : Nat) (room cut : Int) (off : Bool) : List Value :=
  [.slice (some ⟨q.gk, 0, none⟩) many ck, .slice (some ⟨q.gi, 0, none⟩) many ci, .slice A nW c, .int .i64 room, .int .i64 cut, .bool off, .slice (some ⟨q.go, 0, none⟩) 3 3]
def encP (x : Nat × SlV) : List Value := [.int .i64 (x.1 : Nat), slV x.2]
def opsC (o : List Int) : List Value := [.int .i64 (mGet o 1), .int .i64 (mGet o 2), .int .i64 (mGet o 3)]
/-- A header of a sector. -/
def Whole (h : SlV) : Prop := h.n = 128 ∧ 128 ≤ h.c ∧ h.c ≤ maxLen
/-- The rows of what is kept. -/
def KeptAt (w : World) (base gk many ck : Nat) (kept : List UInt8) : Prop := ∃ hs : List SlV, Ow slV w base 22 (some ⟨gk, 0, none⟩) many ck hs ∧ ∀ (k : Nat) (h : SlV), hs[k]? = some h → Whole h ∧ BytesAt w base h (secOf kept (k : Int))
/-- The pieces that wait. -/
def WaitAt (w : World) (base : Nat) (A : Option Addr) (c : Nat) (W : List (Nat × List UInt8)) : Prop := ∃ ps : List (Nat × SlV), OwS 2 encP w base 156 A W.length c ps ∧ ∀ (k : Nat) (x : Nat × SlV), ps[k]? = some x → ∃ L, W[k]? = some (x.1, L) ∧ Whole x.2 ∧ BytesAt w base x.2 L
structure RDiskAt (w : World) (base : Nat) (q : RDiskP) (A : Option Addr) (c ck ci : Nat) (D : DiskV) : Prop where
  ok : D.Ok
  cons : Cons D
  ops : D.ops.length = 6
  st : Blk w q.d 124 (rdC q D.many ck ci A D.waits.length c D.room D.cut D.off)
  kept : KeptAt w base q.gk D.many ck D.kept
  inu : Ow boolV w base 4 (some ⟨q.gi, 0, none⟩) D.many ci D.inuse
  wts : WaitAt w base A c D.waits
  op : Blk w q.go 3 (opsC D.ops)
  bd : base ≤ q.d
  bo : base ≤ q.go
/-- Wherever its rows lie by now. -/
def RDiskS (w : World) (base : Nat) (q : RDiskP) (D : DiskV) : Prop := ∃ A c ck ci, RDiskAt w base q A c ck ci D
/-- What the document's disk changes. -/
def rfoot (q : RDiskP) (A : Option Addr) (g : Nat) : Prop := g = q.d ∨ g = q.gk ∨ g = q.gi ∨ g = q.go ∨ A.map (·.block) = some g
section
variable {w w' : World} {base : Nat} {q : RDiskP} {A : Option Addr} {c ck ci : Nat} {D : DiskV}
theorem KeptAt.below {gk many : Nat} {kept : List UInt8} (h : KeptAt w base gk many ck kept) (hb : Below w.heap.size w w') : KeptAt w' base gk many ck kept := by
  obtain ⟨hs, ho, hk⟩ := h
  exact ⟨hs, ho.below hb (Nat.le_refl _), fun k x hx => ⟨(hk k x hx).1, (hk k x hx).2.below hb⟩⟩
theorem OwS.below' {α : Type} {size : Nat} {enc : α → List Value} {n c base : Nat} {e : TypeId} {A : Option Addr} {l : List α} (h : OwS size enc w base e A n c l) (hb : Below w.heap.size w w') : OwS size enc w' base e A n c l := h.below hb (Nat.le_refl _)
theorem WaitAt.below {W : List (Nat × List UInt8)} (h : WaitAt w base A c W) (hb : Below w.heap.size w w') : WaitAt w' base A c W := by
  obtain ⟨ps, ho, hk⟩ := h
  exact ⟨ps, ho.below' hb, fun k x hx => by obtain ⟨L, h1, h2, h3⟩ := hk k x hx; exact ⟨L, h1, h2, h3.below hb⟩⟩
theorem RDiskAt.below (h : RDiskAt w base q A c ck ci D) (hb : Below w.heap.size w w') : RDiskAt w' base q A c ck ci D :=
  ⟨h.ok, h.cons, h.ops, h.st.below hb h.st.lt, h.kept.below hb, h.inu.below hb (Nat.le_refl _), h.wts.below hb, h.op.below hb h.op.lt, h.bd, h.bo⟩
theorem RDiskAt.alloc (h : RDiskAt w base q A c ck ci D) (o : Obj) : RDiskAt (w.alloc o) base q A c ck ci D := h.below ((Below.refl _ _).alloc (Nat.le_refl _) o)
theorem RDiskAt.drewN (h : RDiskAt w base q A c ck ci D) (n : Nat) : RDiskAt (w.drewN n) base q A c ck ci D := h.below (below_drewN (Below.refl _ _) n)
/-- A block of another type, or that is none of its rows. -/
theorem RDiskAt.foot_ty (h : RDiskAt w base q A c ck ci D) {g : Nat} {t : TypeId} {cs : List Value} (hb : Blk w g t cs) (hf : rfoot q A g) : t = 124 ∨ t = 156 ∨ g = q.gk ∨ g = q.gi ∨ g = q.go := by
  rcases hf with e | e | e | e | e
  · subst e
    by_cases q : t = 124
    · exact .inl q
    · exact absurd rfl (hb.ne_ h.st q)
  · exact .inr (.inr (.inl e))
  · exact .inr (.inr (.inr (.inl e)))
  · exact .inr (.inr (.inr (.inr e)))
  · obtain ⟨ps, ho, _⟩ := h.wts
    by_cases q : t = 156
    · exact .inr (.inl q)
    · exact absurd e (ho.ne_ hb (fun e => q e.symm))
theorem RDiskAt.bs (h : RDiskAt w base q A c ck ci D) : ∀ g, rfoot q A g → base ≤ g := fun g hg => by
  rcases hg with e | e | e | e | e
  · rw [e]; exact h.bd
  · obtain ⟨hs, ho, _⟩ := h.kept
    exact (ho.lt g (by rw [e]; rfl)).1
  · exact (h.inu.lt g (by rw [e]; rfl)).1
  · rw [e]; exact h.bo
  · obtain ⟨ps, ho, _⟩ := h.wts
    exact (ho.2.lt g (by cases A with | none => cases e | some a => simpa [Value.ownBlock] using e)).1
theorem RDiskAt.lt (h : RDiskAt w base q A c ck ci D) : ∀ g, rfoot q A g → g < w.heap.size := fun g hg => by
  rcases hg with e | e | e | e | e
  · rw [e]; exact h.st.lt
  · obtain ⟨hs, ho, _⟩ := h.kept
    exact (ho.lt g (by rw [e]; rfl)).2
  · exact (h.inu.lt g (by rw [e]; rfl)).2
  · rw [e]; exact h.op.lt
  · obtain ⟨ps, ho, _⟩ := h.wts
    exact (ho.2.lt g (by cases A with | none => cases e | some a => simpa [Value.ownBlock] using e)).2
theorem RDiskAt.apart (h : RDiskAt w base q A c ck ci D) : q.d ≠ q.gk ∧ q.d ≠ q.gi ∧ q.d ≠ q.go ∧ q.gk ≠ q.gi ∧ q.gk ≠ q.go ∧ q.gi ≠ q.go ∧ A.map (·.block) ≠ some q.d ∧ A.map (·.block) ≠ some q.gk ∧ A.map (·.block) ≠ some q.gi ∧ A.map (·.block) ≠ some q.go := by
  obtain ⟨hs, ho, _⟩ := h.kept
  obtain ⟨ps, hp, _⟩ := h.wts
  obtain ⟨k1, b1⟩ := ho.blk (g := q.gk) rfl
  obtain ⟨k2, b2⟩ := h.inu.blk (g := q.gi) rfl
  exact ⟨h.st.ne_ b1 (by decide), h.st.ne_ b2 (by decide), h.st.ne_ h.op (by decide), b1.ne_ b2 (by decide), b1.ne_ h.op (by decide), b2.ne_ h.op (by decide), hp.ne_ h.st (by decide), hp.ne_ b1 (by decide), hp.ne_ b2 (by decide), hp.ne_ h.op (by decide)⟩
theorem RDiskAt.cells (h : RDiskAt w base q A c ck ci D) : w.cell? ⟨q.d, 0, none⟩ = some (.slice (some ⟨q.gk, 0, none⟩) D.many ck) ∧ w.cell? ⟨q.d, 1, none⟩ = some (.slice (some ⟨q.gi, 0, none⟩) D.many ci) ∧ w.cell? ⟨q.d, 2, none⟩ = some (.slice A D.waits.length c) ∧ w.cell? ⟨q.d, 3, none⟩ = some (.int .i64 D.room) ∧ w.cell? ⟨q.d, 4, none⟩ = some (.int .i64 D.cut) ∧ w.cell? ⟨q.d, 5, none⟩ = some (.bool D.off) ∧ w.cell? ⟨q.d, 6, none⟩ = some (.slice (some ⟨q.go, 0, none⟩) 3 3) :=
  ⟨h.st.cell 0, h.st.cell 1, h.st.cell 2, h.st.cell 3, h.st.cell 4, h.st.cell 5, h.st.cell 6⟩
/-- A piece that waits. -/
theorem WaitAt.piece {W : List (Nat × List UInt8)} (h : WaitAt w base A c W) {k : Nat} (hk : k < W.length) : ∃ (g : Nat) (x : SlV), A = some ⟨g, 0, none⟩ ∧ g < w.heap.size ∧ w.cell? ⟨g, k * 2, none⟩ = some (.int .i64 ((pieceAt W k).1 : Nat)) ∧ w.cell? ⟨g, k * 2 + 1, none⟩ = some (slV x) ∧ Whole x ∧ BytesAt w base x (pieceAt W k).2 := by
  obtain ⟨ps, ho, hx⟩ := h
  obtain ⟨b, o, y, e1, hlt, e2, hc⟩ := ho.rd.at_ (fun _ => rfl) (by omega) hk
  obtain ⟨L, e3, e4, e5⟩ := hx k y e2
  have e6 : pieceAt W k = (y.1, L) := by unfold pieceAt; rw [List.getD_eq_getElem?_getD, e3]; rfl
  rcases ho.2.2 with ⟨_, h0⟩ | ⟨g, cap, cur, hv, _, hh, _⟩
  · omega
  · injection hv with hv _ _
    rw [e1] at hv
    injection hv with hv
    injection hv with hv ho' _
    subst hv ho'
    refine ⟨b, y.2, e1, hlt, ?_, ?_, e4, ?_⟩
    · have := hc 0 (by omega)
      rw [e6]
      simpa [encP] using this
    · have := hc 1 (by omega)
      simpa [encP] using this
    · rw [e6]; exact e5
theorem RDiskAt.piece (h : RDiskAt w base q A c ck ci D) {k : Nat} (hk : k < D.waits.length) : ∃ (g : Nat) (x : SlV), A = some ⟨g, 0, none⟩ ∧ g < w.heap.size ∧ w.cell? ⟨g, k * 2, none⟩ = some (.int .i64 ((pieceAt D.waits k).1 : Nat)) ∧ w.cell? ⟨g, k * 2 + 1, none⟩ = some (slV x) ∧ Whole x ∧ BytesAt w base x (pieceAt D.waits k).2 := h.wts.piece hk
/-- A sector that is kept. -/
theorem RDiskAt.row (h : RDiskAt w base q A c ck ci D) {k : Nat} (hk : k < D.many) : ∃ x : SlV, w.cell? ⟨q.gk, k, none⟩ = some (slV x) ∧ Whole x ∧ BytesAt w base x (secOf D.kept (k : Int)) := by
  obtain ⟨hs, ho, hx⟩ := h.kept
  have hl : k < hs.length := by rw [ho.1]; exact hk
  obtain ⟨b, o, e1, hlt, hc⟩ := ho.rd.2.at_ hk
  injection e1 with e1
  injection e1 with e2 e3 _
  subst e2 e3
  rw [getD_map hs k hl, Nat.zero_add] at hc
  obtain ⟨q1, q2⟩ := hx k _ (List.getElem?_eq_getElem hl)
  exact ⟨hs[k], hc, q1, q2⟩
end
end Go.Proofs.YtpmkpckldnnigaaGreat
namespace Go.Proofs.YtpmkpckldnnigaaGreat
open Go.RowKit
set_option linter.unusedVariables false
set_option linter.unusedSimpArgs false
section
variable {w w' : World} {base : Nat} {q : RDiskP} {A : Option Addr} {c ck ci : Nat} {D : DiskV}
end
end Go.Proofs.YtpmkpckldnnigaaGreat
namespace Go.Proofs.YtpmkpckldnnigaaGreat
open Go.RowKit
set_option linter.unusedVariables false
set_option linter.unusedSimpArgs false
section
variable {F : Nat → Prop} {w w' : World} {base : Nat} {q : RDiskP} {A : Option Addr} {c ck ci : Nat} {D : DiskV}
theorem BytesAt.keepF {h : SlV} {L : List UInt8} (H : BytesAt w base h L) (k : Keep F w w') (hF : ∀ g, F g → base ≤ g ∧ ∀ cs, ¬ Blk w g 5 cs) : BytesAt w' base h L := by
  have hne : ∀ g, 0 < h.n → h.a.map (·.block) = some g → ¬ F g := fun g h0 hg e => by
    obtain ⟨q1, q2⟩ := hF g e
    rcases H.2.2 h0 g hg with q | ⟨cs, q⟩
    · omega
    · exact q2 cs q
  refine ⟨⟨H.1.1, fun h0 => (H.1.2.sameB k.size (fun b hb hlt => k.block b hlt (hne b h0 hb))) h0⟩, H.2.1, fun h0 g hg' => ?_⟩
  rcases H.2.2 h0 g hg' with q | ⟨cs, q⟩
  · exact .inl q
  · exact .inr ⟨cs, q.keep k (hne g h0 hg')⟩
theorem KeptAt.keepF {gk many : Nat} {kept : List UInt8} (h : KeptAt w base gk many ck kept) (k : Keep F w w') (hF : ∀ g, F g → base ≤ g ∧ ∀ cs, ¬ Blk w g 5 cs) (hg : ¬ F gk) : KeptAt w' base gk many ck kept := by
  obtain ⟨hs, ho, hk⟩ := h
  exact ⟨hs, ⟨ho.1, own_keep ho.2 k (fun g e => (by have : gk = g := (by simpa [Value.ownBlock] using e); rw [← this]; exact hg))⟩, fun j x hx => ⟨(hk j x hx).1, (hk j x hx).2.keepF k hF⟩⟩
theorem WaitAt.keepF {W : List (Nat × List UInt8)} (h : WaitAt w base A c W) (k : Keep F w w') (hF : ∀ g, F g → base ≤ g ∧ ∀ cs, ¬ Blk w g 5 cs) (hg : ∀ g, A.map (·.block) = some g → ¬ F g) : WaitAt w' base A c W := by
  obtain ⟨ps, ho, hk⟩ := h
  exact ⟨ps, ⟨ho.1, own_keep ho.2 k (fun g e => hg g (by cases A with | none => simp [Value.ownBlock] at e | some a => simpa [Value.ownBlock] using e))⟩, fun j x hx => by obtain ⟨L, h1, h2, h3⟩ := hk j x hx; exact ⟨L, h1, h2, h3.keepF k hF⟩⟩
theorem not_u8 {g : Nat} {t : TypeId} {cs : List Value} (h : Blk w g t cs) (ht : t ≠ 5) : ∀ cs', ¬ Blk w g 5 cs' := fun cs' e => absurd rfl (h.ne_ e ht)
/-- The struct and the counts turned. -/
theorem RDiskAt.turnHead {cut : Int} {off : Bool} {o : List Int} (h : RDiskAt w base q A c ck ci D) (k : Keep (fun g => g = q.d ∨ g = q.go) w w') (hst : Blk w' q.d 124 (rdC q D.many ck ci A D.waits.length c D.room cut off)) (hop : Blk w' q.go 3 (opsC o)) (ho : o.length = 6) (hc : -1 ≤ cut ∧ cut ≤ 9223372036854775807) :
    RDiskAt w' base q A c ck ci { D with cut := cut, off := off, ops := o } := by
  obtain ⟨p1, p2, p3, p4, p5, p6, p7, p8, p9, p10⟩ := h.apart
  have hF : ∀ g, (g = q.d ∨ g = q.go) → base ≤ g ∧ ∀ cs, ¬ Blk w g 5 cs := fun g e => by
    rcases e with e | e
    · subst e; exact ⟨h.bd, not_u8 h.st (by decide)⟩
    · subst e; exact ⟨h.bo, not_u8 h.op (by decide)⟩
  refine ⟨⟨h.ok.many0, h.ok.many1, h.ok.kept, h.ok.now, h.ok.inuse, h.ok.might, h.ok.waits, h.ok.room, hc, h.ok.few⟩, ⟨h.cons.now, h.cons.might, h.cons.used⟩, ho, hst, h.kept.keepF k hF (by omega), ⟨h.inu.1, own_keep h.inu.2 k (fun g e => (by have : q.gi = g := (by simpa [Value.ownBlock] using e); intro e9; rcases e9 with e9 | e9 <;> omega))⟩, h.wts.keepF k hF (fun g hg e => ?_), hop, h.bd, h.bo⟩
  rcases e with e | e
  · subst e; exact p7 hg
  · subst e; exact p10 hg
end
end Go.Proofs.YtpmkpckldnnigaaGreat
