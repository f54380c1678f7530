/- Parts: DiskA. -/
import Derived.Test.YtpmkpckldnnigaaGreatPr14
import Derived.Deep.RegionHeld3
namespace Go.Proofs.YtpmkpckldnnigaaGreat
open Go.RowKit

/-- Where it lies. -/
structure DiskP where
  d : Nat
  gk : Nat
  gn : Nat
  gi : Nat
  gm : Nat
  gc : Nat
def boolV (b : Bool) : Value := .bool b
/-- The cells of a piece. -/
def pieceV (p : Nat × List UInt8) : List Value := .int .i64 (p.1 : Int) :: p.2.map bv
def piecesV (l : List (Nat × List UInt8)) : List Value := l.flatMap pieceV
def dcells (p : DiskP) (A : Option Addr) (c : Nat) (D : DiskV) : List Value :=
  [.slice (some ⟨p.gk, 0, none⟩) D.many D.many, .slice (some ⟨p.gn, 0, none⟩) D.many D.many, .slice (some ⟨p.gi, 0, none⟩) D.many D.many, .slice (some ⟨p.gm, 0, none⟩) D.many D.many,
    .slice A D.waits.length c, .int .i64 D.room, .int .i64 D.cut, .bool D.off, .pointer (some ⟨p.gc, 0, none⟩)]
/-- The blocks of a disk. -/
def foot (p : DiskP) (A : Option Addr) (g : Nat) : Prop := g = p.d ∨ g = p.gk ∨ g = p.gn ∨ g = p.gi ∨ g = p.gm ∨ g = p.gc ∨ A.map (·.block) = some g
structure DiskAt (w : World) (base : Nat) (p : DiskP) (A : Option Addr) (c : Nat) (D : DiskV) : Prop where
  ok : D.Ok
  st : Blk w p.d 151 (dcells p A c D)
  bk : BlkB w p.gk 152 D.kept
  bn : BlkB w p.gn 152 D.now
  bi : Blk w p.gi 4 (D.inuse.map boolV)
  bm : Blk w p.gm 4 (D.might.map boolV)
  mt : MeterAt w p.gc D.ops
  wa : w.ownsRow base 154 129 (.slice A D.waits.length c) D.waits.length (piecesV D.waits)
  ne1 : p.gk ≠ p.gn
  ne2 : p.gi ≠ p.gm
  bs : ∀ g, foot p A g → base ≤ g
section
variable {w w' : World} {base : Nat} {p : DiskP} {A : Option Addr} {c : Nat} {D : DiskV}
theorem DiskAt.lt (h : DiskAt w base p A c D) : ∀ g, foot p A g → g < w.heap.size := by
  intro g hg
  rcases hg with rfl | rfl | rfl | rfl | rfl | rfl | hg
  · exact h.st.lt
  · exact h.bk.lt
  · exact h.bn.lt
  · exact h.bi.lt
  · exact h.bm.lt
  · exact h.mt.2.lt
  · cases A with
    | none => cases hg
    | some a => exact (h.wa.lt g (by simpa [Value.ownBlock] using hg)).2
theorem DiskAt.keep {F : Nat → Prop} (h : DiskAt w base p A c D) (k : Keep F w w') (hn : ∀ g, foot p A g → ¬ F g) : DiskAt w' base p A c D :=
  ⟨h.ok, h.st.keep k (hn _ (.inl rfl)), h.bk.keep k (hn _ (.inr (.inl rfl))), h.bn.keep k (hn _ (.inr (.inr (.inl rfl)))), h.bi.keep k (hn _ (.inr (.inr (.inr (.inl rfl))))),
    h.bm.keep k (hn _ (.inr (.inr (.inr (.inr (.inl rfl)))))), ⟨h.mt.1, h.mt.2.keep k (hn _ (.inr (.inr (.inr (.inr (.inr (.inl rfl)))))))⟩,
    own_keep h.wa k (fun g hg => hn g (.inr (.inr (.inr (.inr (.inr (.inr (by cases A with | none => simp [Value.ownBlock] at hg | some a => simpa [Value.ownBlock] using hg)))))))), h.ne1, h.ne2, h.bs⟩
theorem DiskAt.below (h : DiskAt w base p A c D) (hb : Below w.heap.size w w') : DiskAt w' base p A c D := h.keep (Keep.of_below (F := fun _ => False) hb) (fun _ _ e => e)
theorem DiskAt.drewN (h : DiskAt w base p A c D) (k : Nat) : DiskAt (w.drewN k) base p A c D := h.keep ((Keep.refl (fun _ => False) w).drewN k) (fun _ _ e => e)
theorem DiskAt.alloc (h : DiskAt w base p A c D) (o : Obj) : DiskAt (w.alloc o) base p A c D := h.below ((Below.refl _ _).alloc (Nat.le_refl _) o)
theorem DiskAt.cells (h : DiskAt w base p A c D) : w.cell? ⟨p.d, 0, none⟩ = some (.slice (some ⟨p.gk, 0, none⟩) D.many D.many) ∧ w.cell? ⟨p.d, 1, none⟩ = some (.slice (some ⟨p.gn, 0, none⟩) D.many D.many) ∧
    w.cell? ⟨p.d, 2, none⟩ = some (.slice (some ⟨p.gi, 0, none⟩) D.many D.many) ∧ w.cell? ⟨p.d, 3, none⟩ = some (.slice (some ⟨p.gm, 0, none⟩) D.many D.many) ∧ w.cell? ⟨p.d, 4, none⟩ = some (.slice A D.waits.length c) ∧
    w.cell? ⟨p.d, 5, none⟩ = some (.int .i64 D.room) ∧ w.cell? ⟨p.d, 6, none⟩ = some (.int .i64 D.cut) ∧ w.cell? ⟨p.d, 7, none⟩ = some (.bool D.off) ∧ w.cell? ⟨p.d, 8, none⟩ = some (.pointer (some ⟨p.gc, 0, none⟩)) :=
  ⟨h.st.cell 0, h.st.cell 1, h.st.cell 2, h.st.cell 3, h.st.cell 4, h.st.cell 5, h.st.cell 6, h.st.cell 7, h.st.cell 8⟩
end

theorem is_yes (w : World) (d : Nat) (q : Addr) (h : w.cell? ⟨d, 8, none⟩ = some (.pointer (some q))) : Calls Tryz.prog 75 #[.pointer (some ⟨d, 0, none⟩)] w fun e w' => e = .returned (.bool true) ∧ w = w' := by
  go_enter Tryz.func75, Tryz.ntmps75
  go_wp2
  go_ret
  exact ⟨rfl, rfl⟩
/-- A disk that is none. -/
def NoDisk (w : World) (d : Option Addr) : Prop := d = none ∨ ∃ g, d = some ⟨g, 0, none⟩ ∧ w.cell? ⟨g, 8, none⟩ = some (.pointer none)
section
variable {w : World} {base : Nat} {p : DiskP} {A : Option Addr} {c : Nat} {D : DiskV}
theorem isd (h : DiskAt w base p A c D) : Calls Tryz.prog 75 #[.pointer (some ⟨p.d, 0, none⟩)] w fun e w' => e = .returned (.bool true) ∧ w = w' := is_yes w p.d _ h.cells.2.2.2.2.2.2.2.2
theorem may_any (h : DiskAt w base p A c D) (n : Int) : Calls Tryz.prog 238 #[.pointer (some ⟨p.d, 0, none⟩), .int .i64 n] w fun e w' => e = .returned (.int .i64 (mayV D n)) ∧ w = w' := by
  have h0 := h.cells.1
  have h7 := h.cells.2.2.2.2.2.2.2.1
  have his := isd h
  clear h
  unfold mayV
  generalize D.many = s at *
  cases hq : D.off with
  | true =>
    rw [hq] at h7
    rw [if_pos rfl]
    go_enter Tryz.func238, Tryz.ntmps238
    go_wp2_with (go_at_call 75; (with_reducible refine (his).mono ?_); rintro e w1 ⟨rfl, rfl⟩)
    go_ret
    exact ⟨rfl, rfl⟩
  | false =>
    rw [hq] at h7
    rw [if_neg (by simp)]
    have hcs : n < 0 ∨ (0 ≤ n ∧ (s : Int) ≤ n) ∨ (0 ≤ n ∧ n < s) := by omega
    rcases hcs with h1 | ⟨h1, h2⟩ | ⟨h1, h2⟩
    · rw [if_pos (.inl h1)]
      go_enter Tryz.func238, Tryz.ntmps238
      go_wp2_with (go_at_call 75; (with_reducible refine (his).mono ?_); rintro e w1 ⟨rfl, rfl⟩)
      go_ret
      exact ⟨rfl, rfl⟩
    · rw [if_pos (.inr h2)]
      go_enter Tryz.func238, Tryz.ntmps238
      go_wp2_with (go_at_call 75; (with_reducible refine (his).mono ?_); rintro e w1 ⟨rfl, rfl⟩)
      go_ret
      exact ⟨rfl, rfl⟩
    · rw [if_neg (by omega)]
      go_enter Tryz.func238, Tryz.ntmps238
      go_wp2_with (go_at_call 75; (with_reducible refine (his).mono ?_); rintro e w1 ⟨rfl, rfl⟩)
      go_ret
      exact ⟨rfl, rfl⟩
end
end Go.Proofs.YtpmkpckldnnigaaGreat
namespace Go.Proofs.YtpmkpckldnnigaaGreat
open Go.RowKit

theorem boolCell {w : World} {g : Nat} {t : TypeId} {l : List Bool} (h : Blk w g t (l.map boolV)) (i : Nat) (hi : i < l.length) : w.cell? ⟨g, i, none⟩ = some (.bool (l.getD i false)) := by
  rw [h.cell]; unfold boolV; simp [List.getD_eq_getElem?_getD, hi]
section
variable {w : World} {base : Nat} {p : DiskP} {A : Option Addr} {c : Nat} {D : DiskV}
theorem DiskAt.nd (h : DiskAt w base p A c D) : p.gk ≠ p.d ∧ p.gn ≠ p.d ∧ p.gi ≠ p.d ∧ p.gm ≠ p.d ∧ p.gc ≠ p.d ∧ A.map (·.block) ≠ some p.d :=
  ⟨h.bk.ne_ h.st (by decide), h.bn.ne_ h.st (by decide), h.bi.ne_ h.st (by decide), h.bm.ne_ h.st (by decide), h.mt.2.ne_ h.st (by decide), fun e => by
    have := own_ne h.wa h.st (by decide)
    cases A with
    | none => cases e
    | some a => exact this (by simpa [Value.ownBlock] using e)⟩
/-- Only the numbers in the struct have turned. -/
theorem DiskAt.turn {w' : World} {D' : DiskV} (h : DiskAt w base p A c D) (k : Keep (· = p.d) w w') (hst : Blk w' p.d 151 (dcells p A c D')) (hok : D'.Ok)
    (e1 : D'.kept = D.kept) (e2 : D'.now = D.now) (e3 : D'.inuse = D.inuse) (e4 : D'.might = D.might) (e5 : D'.waits = D.waits) (e6 : D'.ops = D.ops) : DiskAt w' base p A c D' := by
  obtain ⟨n1, n2, n3, n4, n5, n6⟩ := h.nd
  exact ⟨hok, hst, by rw [e1]; exact h.bk.keep k n1, by rw [e2]; exact h.bn.keep k n2, by rw [e3]; exact h.bi.keep k n3, by rw [e4]; exact h.bm.keep k n4, by rw [e6]; exact ⟨h.mt.1, h.mt.2.keep k n5⟩,
    by rw [e5]; exact own_keep h.wa k (fun g hg e => n6 (by subst e; cases A with | none => simp [Value.ownBlock] at hg | some a => simpa [Value.ownBlock] using hg)), h.ne1, h.ne2, h.bs⟩
theorem DiskAt.turnOps {w' : World} {l : List Int} (h : DiskAt w base p A c D) (hg : w.grownBy w' (some p.gc)) (hm : MeterAt w' p.gc l) : DiskAt w' base p A c { D with ops := l } := by
  have k : Keep (· = p.gc) w w' := Keep.of_grown hg (fun g e => by injection e with e; exact e.symm)
  have n1 : p.d ≠ p.gc := fun e => h.nd.2.2.2.2.1 e.symm
  refine ⟨⟨h.ok.many0, h.ok.many1, h.ok.kept, h.ok.now, h.ok.inuse, h.ok.might, h.ok.waits, h.ok.room, h.ok.cut, h.ok.few⟩, h.st.keep k n1, h.bk.keep k (h.bk.ne_ h.mt.2 (by decide)), h.bn.keep k (h.bn.ne_ h.mt.2 (by decide)), h.bi.keep k (h.bi.ne_ h.mt.2 (by decide)), h.bm.keep k (h.bm.ne_ h.mt.2 (by decide)), hm, ?_, h.ne1, h.ne2, h.bs⟩
  exact own_keep h.wa k (fun g hg e => own_ne h.wa h.mt.2 (by decide) (by subst e; exact hg))
theorem DiskAt.setOff (h : DiskAt w base p A c D) (b : Bool) : DiskAt (w.setCell ⟨p.d, 7, none⟩ (.bool b)) base p A c { D with off := b } :=
  h.turn (Keep.of_grown (grown_setCell _) (fun g e => by injection e with e; exact e.symm)) (h.st.set_ 7 _) ⟨h.ok.many0, h.ok.many1, h.ok.kept, h.ok.now, h.ok.inuse, h.ok.might, h.ok.waits, h.ok.room, h.ok.cut, h.ok.few⟩ rfl rfl rfl rfl rfl rfl
theorem DiskAt.setCut (h : DiskAt w base p A c D) (x : Int) (hx : -1 ≤ x ∧ x ≤ 9223372036854775807) : DiskAt (w.setCell ⟨p.d, 6, none⟩ (.int .i64 x)) base p A c { D with cut := x } :=
  h.turn (Keep.of_grown (grown_setCell _) (fun g e => by injection e with e; exact e.symm)) (h.st.set_ 6 _) ⟨h.ok.many0, h.ok.many1, h.ok.kept, h.ok.now, h.ok.inuse, h.ok.might, h.ok.waits, h.ok.room, hx, h.ok.few⟩ rfl rfl rfl rfl rfl rfl

theorem goes_any (h : DiskAt w base p A c D) (kind : Int) : Calls Tryz.prog 239 #[.pointer (some ⟨p.d, 0, none⟩), .int .i64 kind] w fun e w' =>
    e = .returned (.bool (D.cut == 0)) ∧ DiskAt w' base p A c (goesV D kind) ∧ Keep (foot p A) w w' ∧ w'.heap.size = w.heap.size := by
  have h8 := h.cells.2.2.2.2.2.2.2.2
  have hadd := fun w' (hm : MeterAt w' p.gc D.ops) => add_any p.gc D.ops kind 1 w' hm
  have hcut := h.ok.cut
  unfold goesV
  by_cases hc : 0 ≤ D.cut
  · rw [if_pos hc]
    have h' := Lib.hid h
    go_enter Tryz.func239, Tryz.ntmps239
    go_wp2_with ((go_at_call 259; (with_reducible refine (hadd _ h'.out.mt).mono ?_); rintro e w1 ⟨rfl, hm1, hg1, hs1⟩); have h1 := h'.out.turnOps hg1 hm1; have k1 : Keep (foot p A) w w1 := (Keep.of_grown hg1 (fun g e => by injection e with e; exact .inr (.inr (.inr (.inr (.inr (.inl e.symm))))))); have f7 := h1.st.frozen 7; have f6 := h1.st.frozen 6; have c6 : w1.cell? ⟨p.d, 6, none⟩ = some (.int .i64 D.cut) := h1.cells.2.2.2.2.2.2.1; have c7 : w1.cell? ⟨p.d, 7, none⟩ = some (.bool D.off) := h1.cells.2.2.2.2.2.2.2.1; have H1 := Lib.hid h1; clear h1)
    go_ret
    exact ⟨rfl, (H1.out.setOff (D.cut == 0)).setCut (D.cut - 1) (by omega), (k1.set_ _ (.inl rfl)).set_ _ (.inl rfl), by simp [World.setCell, hs1]⟩
  · rw [if_neg hc]
    have h' := Lib.hid h
    go_enter Tryz.func239, Tryz.ntmps239
    go_wp2_with ((go_at_call 259; (with_reducible refine (hadd _ h'.out.mt).mono ?_); rintro e w1 ⟨rfl, hm1, hg1, hs1⟩); have h1 := h'.out.turnOps hg1 hm1; have k1 : Keep (foot p A) w w1 := (Keep.of_grown hg1 (fun g e => by injection e with e; exact .inr (.inr (.inr (.inr (.inr (.inl e.symm))))))); have f7 := h1.st.frozen 7; have f6 := h1.st.frozen 6; have c6 : w1.cell? ⟨p.d, 6, none⟩ = some (.int .i64 D.cut) := h1.cells.2.2.2.2.2.2.1; have c7 : w1.cell? ⟨p.d, 7, none⟩ = some (.bool D.off) := h1.cells.2.2.2.2.2.2.2.1; have H1 := Lib.hid h1; clear h1)
    go_ret
    exact ⟨rfl, H1.out.setOff (D.cut == 0), k1.set_ _ (.inl rfl), by simp [World.setCell, hs1]⟩

theorem okWith {D : DiskV} (h : D.Ok) {k n : List UInt8} {i m : List Bool} (hk : k.length = D.many * 128) (hn : n.length = D.many * 128) (hi : i.length = D.many) (hm : m.length = D.many) : ({ D with kept := k, now := n, inuse := i, might := m } : DiskV).Ok :=
  ⟨h.many0, h.many1, hk, hn, hi, hm, h.waits, h.room, h.cut, h.few⟩
theorem DiskAt.waNe (h : DiskAt w base p A c D) {g : Nat} {t : TypeId} {cs : List Value} (hg : Blk w g t cs) (hne : 154 ≠ t) : ∀ x, (Value.slice A D.waits.length c).ownBlock = some x → ¬ x = g := fun x hx e => own_ne h.wa hg hne (by rw [hx, e])
theorem DiskAt.turnKept {w' : World} {l : List UInt8} (h : DiskAt w base p A c D) (k : Keep (· = p.gk) w w') (hb : BlkB w' p.gk 152 l) (hl : l.length = D.many * 128) : DiskAt w' base p A c { D with kept := l } :=
  ⟨okWith h.ok hl h.ok.now h.ok.inuse h.ok.might, h.st.keep k (h.st.ne_ h.bk (by decide)), hb, h.bn.keep k (fun e => h.ne1 e.symm), h.bi.keep k (h.bi.ne_ h.bk (by decide)), h.bm.keep k (h.bm.ne_ h.bk (by decide)), ⟨h.mt.1, h.mt.2.keep k (h.mt.2.ne_ h.bk (by decide))⟩, own_keep h.wa k (h.waNe h.bk (by decide)), h.ne1, h.ne2, h.bs⟩
theorem DiskAt.turnIn {w' : World} {l : List Bool} (h : DiskAt w base p A c D) (k : Keep (· = p.gi) w w') (hb : Blk w' p.gi 4 (l.map boolV)) (hl : l.length = D.many) : DiskAt w' base p A c { D with inuse := l } :=
  ⟨okWith h.ok h.ok.kept h.ok.now hl h.ok.might, h.st.keep k (h.st.ne_ h.bi (by decide)), h.bk.keep k (h.bk.ne_ h.bi (by decide)), h.bn.keep k (h.bn.ne_ h.bi (by decide)), hb, h.bm.keep k (fun e => h.ne2 e.symm), ⟨h.mt.1, h.mt.2.keep k (h.mt.2.ne_ h.bi (by decide))⟩, own_keep h.wa k (h.waNe h.bi (by decide)), h.ne1, h.ne2, h.bs⟩
theorem boolSet {w : World} {g : Nat} {t : TypeId} {l : List Bool} (h : Blk w g t (l.map boolV)) (i : Nat) (b : Bool) : Blk (w.setCell ⟨g, i, none⟩ (.bool b)) g t ((l.set i b).map boolV) := by
  have := h.set_ i (.bool b)
  rw [List.map_set]; exact this
theorem DiskAt.setIn (h : DiskAt w base p A c D) (n : Nat) (b : Bool) : DiskAt (w.setCell ⟨p.gi, n, none⟩ (.bool b)) base p A c { D with inuse := D.inuse.set n b } :=
  h.turnIn (Keep.one (grown_setCell _)) (boolSet h.bi n b) (by rw [List.length_set]; exact h.ok.inuse)
end
end Go.Proofs.YtpmkpckldnnigaaGreat
