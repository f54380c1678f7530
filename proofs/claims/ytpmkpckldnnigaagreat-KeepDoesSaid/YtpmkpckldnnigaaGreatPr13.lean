/- Parts: DiskA, DiskC. -/
import Derived.Test.YtpmkpckldnnigaaGreatPr02
import Derived.Test.YtpmkpckldnnigaaGreatPr12
import Derived.Deep.RegionHeld3
import Derived.Test.YtpmkpckldnnigaaGreatPr01
set_option linter.unusedVariables false
set_option linter.unusedSimpArgs false
set_option maxRecDepth 100000
set_option maxHeartbeats 40000000
namespace Go.Proofs.YtpmkpckldnnigaaGreat
open Go.RowKit
structure qe3 where
  d : Nat
  gk : Nat
  gn : Nat
  gi : Nat
  gm : Nat
  gc : Nat
def qo1 (b : Bool) : Value := .bool b
def qg8 (p : Nat × List UInt8) : List Value := .int .i64 (p.1 : Int) :: p.2.map bv
def qw7 (l : List (Nat × List UInt8)) : List Value := l.flatMap qg8
def qy4 (p : qe3) (A : Option Addr) (c : Nat) (D : qa3) : List Value :=
  [.slice (some ⟨p.gk, 0, none⟩) D.many D.many, .slice (some ⟨p.gn, 0, none⟩) D.many D.many, .slice (some ⟨p.gi, 0, none⟩) D.many D.many, .slice (some ⟨p.gm, 0, none⟩) D.many D.many,
    .slice A D.waits.length c, .int .i64 D.room, .int .i64 D.cut, .bool D.off, .pointer (some ⟨p.gc, 0, none⟩)]
def foot (p : qe3) (A : Option Addr) (g : Nat) : Prop := g = p.d ∨ g = p.gk ∨ g = p.gn ∨ g = p.gi ∨ g = p.gm ∨ g = p.gc ∨ A.map (·.block) = some g
structure qa4 (w : World) (base : Nat) (p : qe3) (A : Option Addr) (c : Nat) (D : qa3) : Prop where
  ok : D.Ok
  st : Blk w p.d 151 (qy4 p A c D)
  bk : BlkB w p.gk 152 D.kept
  bn : BlkB w p.gn 152 D.now
  bi : Blk w p.gi 4 (D.inuse.map qo1)
  bm : Blk w p.gm 4 (D.might.map qo1)
  mt : qa7 w p.gc D.ops
  wa : w.ownsRow base 154 129 (.slice A D.waits.length c) D.waits.length (qw7 D.waits)
  ne1 : p.gk ≠ p.gn
  ne2 : p.gi ≠ p.gm
  bs : ∀ g, foot p A g → base ≤ g
section
variable {w w' : World} {base : Nat} {p : qe3} {A : Option Addr} {c : Nat} {D : qa3}
theorem qa4.lt (h : qa4 w base p A c D) : ∀ g, foot p A g → g < w.heap.size := by
  intro g hg; rcases hg with rfl | rfl | rfl | rfl | rfl | rfl | hg
  · exact h.st.lt
  · exact h.bk.lt
  · exact h.bn.lt
  · exact h.bi.lt
  · exact h.bm.lt
  · exact h.mt.2.lt
  · cases A with
    | none => cases hg
    | some a => exact (h.wa.lt g (by simpa [Value.ownBlock] using hg)).2
theorem qa4.keep {F : Nat → Prop} (h : qa4 w base p A c D) (k : Keep F w w') (hn : ∀ g, foot p A g → ¬ F g) : qa4 w' base p A c D :=
  ⟨h.ok, h.st.keep k (hn _ (.inl rfl)), h.bk.keep k (hn _ (.inr (.inl rfl))), h.bn.keep k (hn _ (.inr (.inr (.inl rfl)))), h.bi.keep k (hn _ (.inr (.inr (.inr (.inl rfl))))),
    h.bm.keep k (hn _ (.inr (.inr (.inr (.inr (.inl rfl)))))), ⟨h.mt.1, h.mt.2.keep k (hn _ (.inr (.inr (.inr (.inr (.inr (.inl rfl)))))))⟩,
    qe7 h.wa k (fun g hg => hn g (.inr (.inr (.inr (.inr (.inr (.inr (by cases A with | none => simp [Value.ownBlock] at hg | some a => simpa [Value.ownBlock] using hg)))))))), h.ne1, h.ne2, h.bs⟩
theorem qa4.below (h : qa4 w base p A c D) (hb : Below w.heap.size w w') : qa4 w' base p A c D := h.keep (Keep.of_below (F := fun _ => False) hb) (fun _ _ e => e)
theorem qa4.drewN (h : qa4 w base p A c D) (k : Nat) : qa4 (w.drewN k) base p A c D := h.keep ((Keep.refl (fun _ => False) w).drewN k) (fun _ _ e => e)
theorem qa4.alloc (h : qa4 w base p A c D) (o : Obj) : qa4 (w.alloc o) base p A c D := h.below ((Below.refl _ _).alloc nlr o)
theorem qa4.cells (h : qa4 w base p A c D) : w.cell? ⟨p.d, 0, none⟩ = some (.slice (some ⟨p.gk, 0, none⟩) D.many D.many) ∧ w.cell? ⟨p.d, 1, none⟩ = some (.slice (some ⟨p.gn, 0, none⟩) D.many D.many) ∧
    w.cell? ⟨p.d, 2, none⟩ = some (.slice (some ⟨p.gi, 0, none⟩) D.many D.many) ∧ w.cell? ⟨p.d, 3, none⟩ = some (.slice (some ⟨p.gm, 0, none⟩) D.many D.many) ∧ w.cell? ⟨p.d, 4, none⟩ = some (.slice A D.waits.length c) ∧
    w.cell? ⟨p.d, 5, none⟩ = some (.int .i64 D.room) ∧ w.cell? ⟨p.d, 6, none⟩ = some (.int .i64 D.cut) ∧ w.cell? ⟨p.d, 7, none⟩ = some (.bool D.off) ∧ w.cell? ⟨p.d, 8, none⟩ = some (.pointer (some ⟨p.gc, 0, none⟩)) :=
  ⟨h.st.cell 0, h.st.cell 1, h.st.cell 2, h.st.cell 3, h.st.cell 4, h.st.cell 5, h.st.cell 6, h.st.cell 7, h.st.cell 8⟩
end
theorem is_yes (w : World) (d : Nat) (q : Addr) (h : w.cell? ⟨d, 8, none⟩ = some (.pointer (some q))) : Calls Tryz.prog 75 #[.pointer (some ⟨d, 0, none⟩)] w fun e w' => e = .returned (.bool true) ∧ w = w' := by
  go_enter Tryz.func75, Tryz.ntmps75; go_wp2; go_ret; exact ⟨rfl, rfl⟩
section
variable {w : World} {base : Nat} {p : qe3} {A : Option Addr} {c : Nat} {D : qa3}
theorem isd (h : qa4 w base p A c D) : Calls Tryz.prog 75 #[.pointer (some ⟨p.d, 0, none⟩)] w fun e w' => e = .returned (.bool true) ∧ w = w' := is_yes w p.d _ h.cells.2.2.2.2.2.2.2.2
theorem size_any (h : qa4 w base p A c D) : Calls Tryz.prog 135 #[.pointer (some ⟨p.d, 0, none⟩)] w fun e w' => e = .returned (.int .i64 (D.many : Nat)) ∧ w = w' := by
  have h0 := h.cells.1; have his := isd h; clear h; go_enter Tryz.func135, Tryz.ntmps135; go_wp2_with (go_at_call 75; (with_reducible refine (his).mono ?_); rintro e w1 ⟨rfl, rfl⟩); go_ret; exact ⟨rfl, rfl⟩
theorem qu4 (h : qa4 w base p A c D) (n : Int) : Calls Tryz.prog 238 #[.pointer (some ⟨p.d, 0, none⟩), .int .i64 n] w fun e w' => e = .returned (.int .i64 (mayV D n)) ∧ w = w' := by
  have h0 := h.cells.1; have h7 := h.cells.2.2.2.2.2.2.2.1; have his := isd h; clear h; unfold mayV; generalize D.many = s at *
  cases hq : D.off with
  | true =>
    rw [hq] at h7; rw [if_pos rfl]; go_enter Tryz.func238, Tryz.ntmps238; go_wp2_with (go_at_call 75; (with_reducible refine (his).mono ?_); rintro e w1 ⟨rfl, rfl⟩); go_ret; exact ⟨rfl, rfl⟩
  | false =>
    rw [hq] at h7; rw [if_neg smp]; have hcs : n < 0 ∨ (0 ≤ n ∧ (s : Int) ≤ n) ∨ (0 ≤ n ∧ n < s) := omg; rcases hcs with h1 | ⟨h1, h2⟩ | ⟨h1, h2⟩
    · rw [if_pos (.inl h1)]; go_enter Tryz.func238, Tryz.ntmps238; go_wp2_with (go_at_call 75; (with_reducible refine (his).mono ?_); rintro e w1 ⟨rfl, rfl⟩); go_ret; exact ⟨rfl, rfl⟩
    · rw [if_pos (.inr h2)]; go_enter Tryz.func238, Tryz.ntmps238; go_wp2_with (go_at_call 75; (with_reducible refine (his).mono ?_); rintro e w1 ⟨rfl, rfl⟩); go_ret; exact ⟨rfl, rfl⟩
    · rw [if_neg omg]; go_enter Tryz.func238, Tryz.ntmps238; go_wp2_with (go_at_call 75; (with_reducible refine (his).mono ?_); rintro e w1 ⟨rfl, rfl⟩); go_ret; exact ⟨rfl, rfl⟩
end
theorem qj1 {w : World} {g : Nat} {t : TypeId} {l : List Bool} (h : Blk w g t (l.map qo1)) (i : Nat) (hi : i < l.length) : w.cell? ⟨g, i, none⟩ = some (.bool (l.getD i false)) := by
  rw [h.cell]; unfold qo1; simp [List.getD_eq_getElem?_getD, hi]
section
variable {w : World} {base : Nat} {p : qe3} {A : Option Addr} {c : Nat} {D : qa3}
theorem left_any (h : qa4 w base p A c D) : Calls Tryz.prog 266 #[.pointer (some ⟨p.d, 0, none⟩)] w fun e w' => e = .returned (.int .i64 (D.room - (qh2 D.might : Nat))) ∧ w = w' := by
  have h5 := h.cells.2.2.2.2.2.1; have h3 := h.cells.2.2.2.1; have hmany := h.ok.many1; have hrr := h.ok.room; have his := isd h; have hlen := hdd h.ok.might; have hcell : ∀ i, i < D.many → Hid (w.cell? ⟨p.gm, i, none⟩ = some (.bool (D.might.getD i false))) := fun i hi => qj1 h.bm i (by rw [h.ok.might]; exact hi)
  have htk : ∀ i, i < D.many → Hid (qh2 (D.might.take (i + 1)) = qh2 (D.might.take i) + if D.might.getD i false then 1 else 0) := fun i hi => vg4 _ i (by rw [h.ok.might]; exact hi)
  have htl : ∀ i, qh2 (D.might.take i) ≤ i := fun i => Nat.le_trans (trues_le _) (List.length_take_le _ _)
  clear h; generalize D.many = s at *; generalize D.room = room at *; generalize D.might = M at *; go_enter Tryz.func266, Tryz.ntmps266; go_wp2_with (go_at_call 75; (with_reducible refine (his).mono ?_); rintro e w1 ⟨rfl, rfl⟩); go_loop [3, 18] (fun v i => ∃ k : Nat, k ≤ s ∧ i = .int .i64 (k : Nat) ∧ v = .int .i64 (room - (qh2 (M.take k) : Nat))) (fun _ i => s - (intOf i).toNat)
  case atStart => exact ⟨0, omg, rfl, by simp [qh2]⟩
  case round =>
    obtain ⟨k, hk, rfl, rfl⟩ := hrel; have hl := htl k
    by_cases hks : k < s
    · have hc := (hcell k hks).out; have ht := htk k hks; clear hcell htk htl; generalize M.getD k false = b at *; generalize qh2 (M.take k) = x at *
      cases b with
      | true =>
        go_wp2; go_round
        case rel => exact ⟨k + 1, omg, by go_num, by rw [ht.out]; go_num⟩
        case measure => simp [intOf]; omega
      | false =>
        go_wp2; go_round
        case rel => exact ⟨k + 1, omg, by go_num, by rw [ht.out]; go_num⟩
        case measure => simp [intOf]; omega
    · have hk9 : k = s := omg; subst hk9; clear hcell htk htl; go_wp2; go_ret; exact ⟨qw6 (by rw [List.take_of_length_le (by rw [hlen.out]; omega)]), rfl⟩
theorem qa4.nd (h : qa4 w base p A c D) : p.gk ≠ p.d ∧ p.gn ≠ p.d ∧ p.gi ≠ p.d ∧ p.gm ≠ p.d ∧ p.gc ≠ p.d ∧ A.map (·.block) ≠ some p.d :=
  ⟨h.bk.ne_ h.st dcd, h.bn.ne_ h.st dcd, h.bi.ne_ h.st dcd, h.bm.ne_ h.st dcd, h.mt.2.ne_ h.st dcd, fun e => by
    have := qw0 h.wa h.st dcd
    cases A with | none => cases e | some a => exact this (by simpa [Value.ownBlock] using e)⟩
theorem qa4.turn {w' : World} {D' : qa3} (h : qa4 w base p A c D) (k : Keep (· = p.d) w w') (hst : Blk w' p.d 151 (qy4 p A c D')) (hok : D'.Ok)
    (e1 : D'.kept = D.kept) (e2 : D'.now = D.now) (e3 : D'.inuse = D.inuse) (e4 : D'.might = D.might) (e5 : D'.waits = D.waits) (e6 : D'.ops = D.ops) : qa4 w' base p A c D' := by
  obtain ⟨n1, n2, n3, n4, n5, n6⟩ := h.nd; exact ⟨hok, hst, by rw [e1]; exact h.bk.keep k n1, by rw [e2]; exact h.bn.keep k n2, by rw [e3]; exact h.bi.keep k n3, by rw [e4]; exact h.bm.keep k n4, by rw [e6]; exact ⟨h.mt.1, h.mt.2.keep k n5⟩,
    by rw [e5]; exact qe7 h.wa k (fun g hg e => n6 (by subst e; cases A with | none => simp [Value.ownBlock] at hg | some a => simpa [Value.ownBlock] using hg)), h.ne1, h.ne2, h.bs⟩
theorem qa4.turnOps {w' : World} {l : List Int} (h : qa4 w base p A c D) (hg : w.grownBy w' (some p.gc)) (hm : qa7 w' p.gc l) : qa4 w' base p A c { D with ops := l } := by
  have k : Keep (· = p.gc) w w' := Keep.of_grown hg (fun g e => by injection e with e; exact e.symm); have n1 : p.d ≠ p.gc := fun e => h.nd.2.2.2.2.1 e.symm
  refine ⟨⟨h.ok.many0, h.ok.many1, h.ok.kept, h.ok.now, h.ok.inuse, h.ok.might, h.ok.waits, h.ok.room, h.ok.cut, h.ok.few⟩, h.st.keep k n1, h.bk.keep k (h.bk.ne_ h.mt.2 dcd), h.bn.keep k (h.bn.ne_ h.mt.2 dcd), h.bi.keep k (h.bi.ne_ h.mt.2 dcd), h.bm.keep k (h.bm.ne_ h.mt.2 dcd), hm, ?_, h.ne1, h.ne2, h.bs⟩; exact qe7 h.wa k (fun g hg e => qw0 h.wa h.mt.2 dcd (by subst e; exact hg))
theorem qa4.setOff (h : qa4 w base p A c D) (b : Bool) : qa4 (w.setCell ⟨p.d, 7, none⟩ (.bool b)) base p A c { D with off := b } :=
  h.turn (Keep.of_grown (qb1 _) (fun g e => by injection e with e; exact e.symm)) (h.st.set_ 7 _) ⟨h.ok.many0, h.ok.many1, h.ok.kept, h.ok.now, h.ok.inuse, h.ok.might, h.ok.waits, h.ok.room, h.ok.cut, h.ok.few⟩ rfl rfl rfl rfl rfl rfl
theorem qa4.setCut (h : qa4 w base p A c D) (x : Int) (hx : -1 ≤ x ∧ x ≤ 9223372036854775807) : qa4 (w.setCell ⟨p.d, 6, none⟩ (.int .i64 x)) base p A c { D with cut := x } :=
  h.turn (Keep.of_grown (qb1 _) (fun g e => by injection e with e; exact e.symm)) (h.st.set_ 6 _) ⟨h.ok.many0, h.ok.many1, h.ok.kept, h.ok.now, h.ok.inuse, h.ok.might, h.ok.waits, h.ok.room, hx, h.ok.few⟩ rfl rfl rfl rfl rfl rfl
theorem qv5 (h : qa4 w base p A c D) (kind : Int) : Calls Tryz.prog 239 #[.pointer (some ⟨p.d, 0, none⟩), .int .i64 kind] w fun e w' =>
    e = .returned (.bool (D.cut == 0)) ∧ qa4 w' base p A c (qp5 D kind) ∧ Keep (foot p A) w w' ∧ w'.heap.size = w.heap.size := by
  have h8 := h.cells.2.2.2.2.2.2.2.2; have hadd := fun w' (hm : qa7 w' p.gc D.ops) => add_any p.gc D.ops kind 1 w' hm
  have hcut := h.ok.cut; unfold qp5
  by_cases hc : 0 ≤ D.cut
  · rw [if_pos hc]; have h' := hdd h; go_enter Tryz.func239, Tryz.ntmps239; go_wp2_with ((go_at_call 259; (with_reducible refine (hadd _ h'.out.mt).mono ?_); rintro e w1 ⟨rfl, hm1, hg1, hs1⟩); have h1 := h'.out.turnOps hg1 hm1; have k1 : Keep (foot p A) w w1 := (Keep.of_grown hg1 (fun g e => by injection e with e; exact .inr (.inr (.inr (.inr (.inr (.inl e.symm))))))); have f7 := h1.st.frozen 7; have f6 := h1.st.frozen 6; have c6 : w1.cell? ⟨p.d, 6, none⟩ = some (.int .i64 D.cut) := h1.cells.2.2.2.2.2.2.1; have c7 : w1.cell? ⟨p.d, 7, none⟩ = some (.bool D.off) := h1.cells.2.2.2.2.2.2.2.1; have H1 := hdd h1; clear h1); go_ret; exact ⟨rfl, (H1.out.setOff (D.cut == 0)).setCut (D.cut - 1) omg, (k1.set_ _ (.inl rfl)).set_ _ (.inl rfl), by simp [World.setCell, hs1]⟩
  · rw [if_neg hc]; have h' := hdd h; go_enter Tryz.func239, Tryz.ntmps239; go_wp2_with ((go_at_call 259; (with_reducible refine (hadd _ h'.out.mt).mono ?_); rintro e w1 ⟨rfl, hm1, hg1, hs1⟩); have h1 := h'.out.turnOps hg1 hm1; have k1 : Keep (foot p A) w w1 := (Keep.of_grown hg1 (fun g e => by injection e with e; exact .inr (.inr (.inr (.inr (.inr (.inl e.symm))))))); have f7 := h1.st.frozen 7; have f6 := h1.st.frozen 6; have c6 : w1.cell? ⟨p.d, 6, none⟩ = some (.int .i64 D.cut) := h1.cells.2.2.2.2.2.2.1; have c7 : w1.cell? ⟨p.d, 7, none⟩ = some (.bool D.off) := h1.cells.2.2.2.2.2.2.2.1; have H1 := hdd h1; clear h1); go_ret; exact ⟨rfl, H1.out.setOff (D.cut == 0), k1.set_ _ (.inl rfl), by simp [World.setCell, hs1]⟩
theorem cut_any (h : qa4 w base p A c D) (n : Int) (hn : n ≤ 9223372036854775807) : Calls Tryz.prog 21 #[.pointer (some ⟨p.d, 0, none⟩), .int .i64 n] w fun e w' =>
    e = .returned (.tuple #[]) ∧ qa4 w' base p A c { D with cut := max n (-1) } ∧ Keep (foot p A) w w' ∧ w'.heap.size = w.heap.size := by
  have c6 := h.cells.2.2.2.2.2.2.1; have f6 := h.st.frozen 6; have his := isd h; have hset := hdd (h.setCut (max n (-1)) omg); clear h; generalize hm : max n (-1) = x at *; have hmin : ∀ w : World, (Builtin.max_ #[3, 3] 3 #[.int .i64 n, .int .i64 (-1)]).run Tryz.prog w = .ok (.int .i64 x) w := fun w => (run_max_int2 (P := Tryz.prog) (w := w) _ _ _ _ _ _).trans (by rw [← hm, show max n (-1) = (if (-1 : Int) > n then -1 else n) from by split <;> omega])
  clear hm; go_enter Tryz.func21, Tryz.ntmps21; go_wp2_with (go_at_call 75; (with_reducible refine (his).mono ?_); rintro e w1 ⟨rfl, rfl⟩); go_end0; exact ⟨rfl, hset.out, (Keep.refl _ _).set_ _ (.inl rfl), by simp [World.setCell]⟩
theorem okWith {D : qa3} (h : D.Ok) {k n : List UInt8} {i m : List Bool} (hk : k.length = D.many * 128) (hn : n.length = D.many * 128) (hi : i.length = D.many) (hm : m.length = D.many) : ({ D with kept := k, now := n, inuse := i, might := m } : qa3).Ok :=
  ⟨h.many0, h.many1, hk, hn, hi, hm, h.waits, h.room, h.cut, h.few⟩
theorem qa4.waNe (h : qa4 w base p A c D) {g : Nat} {t : TypeId} {cs : List Value} (hg : Blk w g t cs) (hne : 154 ≠ t) : ∀ x, (Value.slice A D.waits.length c).ownBlock = some x → ¬ x = g := fun x hx e => qw0 h.wa hg hne (by rw [hx, e])
theorem qa4.turnNow {w' : World} {l : List UInt8} (h : qa4 w base p A c D) (k : Keep (· = p.gn) w w') (hb : BlkB w' p.gn 152 l) (hl : l.length = D.many * 128) : qa4 w' base p A c { D with now := l } :=
  ⟨okWith h.ok h.ok.kept hl h.ok.inuse h.ok.might, h.st.keep k (h.st.ne_ h.bn dcd), h.bk.keep k h.ne1, hb, h.bi.keep k (h.bi.ne_ h.bn dcd), h.bm.keep k (h.bm.ne_ h.bn dcd), ⟨h.mt.1, h.mt.2.keep k (h.mt.2.ne_ h.bn dcd)⟩, qe7 h.wa k (h.waNe h.bn dcd), h.ne1, h.ne2, h.bs⟩
theorem qa4.turnKept {w' : World} {l : List UInt8} (h : qa4 w base p A c D) (k : Keep (· = p.gk) w w') (hb : BlkB w' p.gk 152 l) (hl : l.length = D.many * 128) : qa4 w' base p A c { D with kept := l } :=
  ⟨okWith h.ok hl h.ok.now h.ok.inuse h.ok.might, h.st.keep k (h.st.ne_ h.bk dcd), hb, h.bn.keep k (fun e => h.ne1 e.symm), h.bi.keep k (h.bi.ne_ h.bk dcd), h.bm.keep k (h.bm.ne_ h.bk dcd), ⟨h.mt.1, h.mt.2.keep k (h.mt.2.ne_ h.bk dcd)⟩, qe7 h.wa k (h.waNe h.bk dcd), h.ne1, h.ne2, h.bs⟩
theorem qa4.turnMight {w' : World} {l : List Bool} (h : qa4 w base p A c D) (k : Keep (· = p.gm) w w') (hb : Blk w' p.gm 4 (l.map qo1)) (hl : l.length = D.many) : qa4 w' base p A c { D with might := l } :=
  ⟨okWith h.ok h.ok.kept h.ok.now h.ok.inuse hl, h.st.keep k (h.st.ne_ h.bm dcd), h.bk.keep k (h.bk.ne_ h.bm dcd), h.bn.keep k (h.bn.ne_ h.bm dcd), h.bi.keep k h.ne2, hb, ⟨h.mt.1, h.mt.2.keep k (h.mt.2.ne_ h.bm dcd)⟩, qe7 h.wa k (h.waNe h.bm dcd), h.ne1, h.ne2, h.bs⟩
theorem qa4.turnIn {w' : World} {l : List Bool} (h : qa4 w base p A c D) (k : Keep (· = p.gi) w w') (hb : Blk w' p.gi 4 (l.map qo1)) (hl : l.length = D.many) : qa4 w' base p A c { D with inuse := l } :=
  ⟨okWith h.ok h.ok.kept h.ok.now hl h.ok.might, h.st.keep k (h.st.ne_ h.bi dcd), h.bk.keep k (h.bk.ne_ h.bi dcd), h.bn.keep k (h.bn.ne_ h.bi dcd), hb, h.bm.keep k (fun e => h.ne2 e.symm), ⟨h.mt.1, h.mt.2.keep k (h.mt.2.ne_ h.bi dcd)⟩, qe7 h.wa k (h.waNe h.bi dcd), h.ne1, h.ne2, h.bs⟩
theorem boolSet {w : World} {g : Nat} {t : TypeId} {l : List Bool} (h : Blk w g t (l.map qo1)) (i : Nat) (b : Bool) : Blk (w.setCell ⟨g, i, none⟩ (.bool b)) g t ((l.set i b).map qo1) := by
  have := h.set_ i (.bool b); rw [List.map_set]; exact this
theorem qa4.setMight (h : qa4 w base p A c D) (n : Nat) (b : Bool) : qa4 (w.setCell ⟨p.gm, n, none⟩ (.bool b)) base p A c { D with might := D.might.set n b } :=
  h.turnMight (Keep.one (qb1 _)) (boolSet h.bm n b) (by rw [List.length_set]; exact h.ok.might)
theorem qa4.setIn (h : qa4 w base p A c D) (n : Nat) (b : Bool) : qa4 (w.setCell ⟨p.gi, n, none⟩ (.bool b)) base p A c { D with inuse := D.inuse.set n b } :=
  h.turnIn (Keep.one (qb1 _)) (boolSet h.bi n b) (by rw [List.length_set]; exact h.ok.inuse)
end
section
variable {w : World} {base : Nat} {p : qe3} {A : Option Addr} {c : Nat} {D : qa3}
theorem read_no (h : qa4 w base p A c D) (n : Int) (hn : mayV D n ≠ 0) : Calls Tryz.prog 221 #[.pointer (some ⟨p.d, 0, none⟩), .int .i64 n] w fun e w' =>
    e = .returned (.tuple #[aggB qa5, .int .i64 (mayV D n)]) ∧ Below w.heap.size w w' := by
  have hz := (zero_of_info qf4).1; have Hi := hdd (zero_of_info qf4).2; have hlz : Hid ((qa5.map bv).length = 128) := by show _ = _; simp [qd2]
  have H1 := hdd (qk1 (l := qa5)); have hmay : ∀ o, Calls Tryz.prog 238 #[.pointer (some ⟨p.d, 0, none⟩), .int .i64 n] (w.alloc o) fun e w' => e = .returned (.int .i64 (mayV D n)) ∧ (w.alloc o) = w' := fun o => qu4 (h.alloc o) n
  have hne : (mayV D n != 0) = true := by rw [bne_iff_ne]; exact hn
  unfold aggB at *; generalize qa5.map bv = Z at *; generalize mayV D n = z at *; clear h hn; go_enter Tryz.func221, Tryz.ntmps221; go_wp2_with (first | (go_at_call 238; (with_reducible refine (hmay _).mono ?_); rintro e w1 ⟨rfl, rfl⟩) | (refine qb3 rfl (x := .tmp 4) (y := .tmp 12) rfl rfl rfl (t := 152) (cs := Z) (xs := Z) (Blk.top _ rfl rfl) Hi.out hlz.out (by rw [hlz.out]; omega) H1.out ?_; intro w2 hb2 hg2 hs2; rw [qd0 _ _ rfl] at hb2) | fail "no arm"); refine bodyPost_ret (v := .tuple #[.agg Z.toArray, .int .i64 z]) (qg7 Tryz.results221 _ rfl rfl hb2 Tryz.underlying152 Hi.out hlz.out) rfl ?_; exact ⟨rfl, qc6 ((Below.refl _ _).alloc nlr _) hg2 smp nlr⟩
theorem read_yes (h : qa4 w base p A c D) (n : Int) (hn : mayV D n = 0) : Calls Tryz.prog 221 #[.pointer (some ⟨p.d, 0, none⟩), .int .i64 n] w fun e w' =>
    e = .returned (.tuple #[aggB (qc7 D.now n), .int .i64 0]) ∧ qa4 w' base p A c (qt1 D) ∧ Keep (foot p A) w w' := by
  have hz := (zero_of_info qf4).1; have Hi := hdd (zero_of_info qf4).2; have hlz : Hid ((qa5.map bv).length = 128) := by show _ = _; simp [qd2]
  have hmay : ∀ o, Calls Tryz.prog 238 #[.pointer (some ⟨p.d, 0, none⟩), .int .i64 n] (w.alloc o) fun e w' => e = .returned (.int .i64 (mayV D n)) ∧ (w.alloc o) = w' := fun o => qu4 (h.alloc o) n
  rw [hn] at hmay; obtain ⟨_, h0, h1⟩ := qp4 hn; obtain ⟨k, rfl⟩ : ∃ k : Nat, n = (k : Int) := ⟨n.toNat, omg⟩; have hk : k < D.many := omg; have hsec := qh8 h.ok.now h0 h1; have hadd := fun w' (hm : qa7 w' p.gc D.ops) => add_any p.gc D.ops 1 1 w' hm
  have c8 := h.cells.2.2.2.2.2.2.2.2; have hl8 := h.st.lt; have hH := hdd h; unfold aggB at *; generalize hZ : qa5.map bv = Z at *; have hsecl : Hid (((qc7 D.now (k : Int)).map bv).length = 128) := by show _ = _; simp [hsec]
  have hsm : Hid (∀ v ∈ (qc7 D.now (k : Int)).map bv, v.oneCell' = true) := qk1; have hat : Hid ((((D.now.map bv).drop (k * 128)).take 128) = (qc7 D.now (k : Int)).map bv) := by show _ = _; unfold qc7; rw [Int.toNat_natCast, List.map_take, List.map_drop]
  generalize (qc7 D.now (k : Int)).map bv = S at *; clear h hn hZ hsec; go_enter Tryz.func221, Tryz.ntmps221; go_wp2_with (first | (go_at_call 238; (with_reducible refine (hmay _).mono ?_); rintro e w1 ⟨rfl, rfl⟩) | ((go_at_call 259; (with_reducible refine (hadd _ (hH.out.alloc _).mt).mono ?_); rintro e w2 ⟨rfl, hm2, hg2, hs2⟩); have H2 := hdd ((hH.out.alloc (.cells Z.toArray 152)).turnOps hg2 hm2); have d1 : w2.cell? ⟨p.d, 1, none⟩ = some (.slice (some ⟨p.gn, 0, none⟩) D.many D.many) := H2.out.cells.2.1; have hz2 := Blk.grown (w' := w2) (g := w.heap.size) (t := 152) (cs := Z) blq hg2 (by have := hH.out.mt.2.lt; intro e; injection e with e; omega)) | (refine qd7 rfl (x := .tmp 24) rfl rfl H2.out.bn Tryz.underlying152 Hi.out hsecl.out hat.out ?_) | (refine qb3 rfl (x := .tmp 4) (y := .tmp 25) rfl rfl rfl hz2 Hi.out hsecl.out (by rw [hlz.out]; omega) hsm.out ?_; intro w3 hb3 hg3 hs3; rw [qd0 _ _ (hlz.out.trans hsecl.out.symm)] at hb3) | fail "no arm"); refine bodyPost_ret (v := .tuple #[.agg S.toArray, .int .i64 0]) (qg7 Tryz.results221 _ rfl rfl hb3 Tryz.underlying152 Hi.out hsecl.out) rfl ?_; have k2 : Keep (foot p A) w w2 := ((Keep.refl _ _).alloc _).then_grown hg2 (fun g e => by injection e with e; exact .inr (.inr (.inr (.inr (.inr (.inl e.symm)))))); have hlt := fun g hg => hH.out.lt g hg
  refine ⟨rfl, H2.out.keep (F := (· = w.heap.size)) (Keep.one hg3) (fun g hg e => by have := hlt g hg; omega), k2.trans (G := (· = w.heap.size)) (Keep.one hg3) (fun x hx e => by omega)⟩
end
end Go.Proofs.YtpmkpckldnnigaaGreat
