/- A disk in memory. -/
import Derived.Test.YtninidpbchcliaaPlainDisk
import Derived.Deep.RegionHeld3
namespace Go.Proofs.Ytninidpbchcliaa
open Go.RowKit

/-- Where it lies. -/
structure DiskP where
  d : Nat
  gk : Nat
  gn : Nat
  gi : Nat
  gm : Nat
  gc : Nat
def boolV (b : Bool) : Value := .bool b
/-- The cells of a piece. -/
def pieceV (p : Nat × List UInt8) : List Value := .int .i64 (p.1 : Int) :: p.2.map bv
def piecesV (l : List (Nat × List UInt8)) : List Value := l.flatMap pieceV
def dcells (p : DiskP) (A : Option Addr) (c : Nat) (D : DiskV) : List Value :=
  [.slice (some ⟨p.gk, 0, none⟩) D.many D.many, .slice (some ⟨p.gn, 0, none⟩) D.many D.many, .slice (some ⟨p.gi, 0, none⟩) D.many D.many, .slice (some ⟨p.gm, 0, none⟩) D.many D.many,
    .slice A D.waits.length c, .int .i64 D.room, .int .i64 D.cut, .bool D.off, .pointer (some ⟨p.gc, 0, none⟩)]
/-- The blocks of a disk. -/
def foot (p : DiskP) (A : Option Addr) (g : Nat) : Prop := g = p.d ∨ g = p.gk ∨ g = p.gn ∨ g = p.gi ∨ g = p.gm ∨ g = p.gc ∨ A.map (·.block) = some g
structure DiskAt (w : World) (base : Nat) (p : DiskP) (A : Option Addr) (c : Nat) (D : DiskV) : Prop where
  ok : D.Ok
  st : Blk w p.d 50 (dcells p A c D)
  bk : BlkB w p.gk 33 D.kept
  bn : BlkB w p.gn 33 D.now
  bi : Blk w p.gi 4 (D.inuse.map boolV)
  bm : Blk w p.gm 4 (D.might.map boolV)
  mt : MeterAt w p.gc D.ops
  wa : w.ownsRow base 133 129 (.slice A D.waits.length c) D.waits.length (piecesV D.waits)
  ne1 : p.gk ≠ p.gn
  ne2 : p.gi ≠ p.gm
  bs : ∀ g, foot p A g → base ≤ g
section
variable {w w' : World} {base : Nat} {p : DiskP} {A : Option Addr} {c : Nat} {D : DiskV}
theorem DiskAt.lt (h : DiskAt w base p A c D) : ∀ g, foot p A g → g < w.heap.size := by
  intro g hg
  rcases hg with rfl | rfl | rfl | rfl | rfl | rfl | hg
  · exact h.st.lt
  · exact h.bk.lt
  · exact h.bn.lt
  · exact h.bi.lt
  · exact h.bm.lt
  · exact h.mt.2.lt
  · cases A with
    | none => cases hg
    | some a => exact (h.wa.lt g (by simpa [Value.ownBlock] using hg)).2
theorem DiskAt.keep {F : Nat → Prop} (h : DiskAt w base p A c D) (k : Keep F w w') (hn : ∀ g, foot p A g → ¬ F g) : DiskAt w' base p A c D :=
  ⟨h.ok, h.st.keep k (hn _ (.inl rfl)), h.bk.keep k (hn _ (.inr (.inl rfl))), h.bn.keep k (hn _ (.inr (.inr (.inl rfl)))), h.bi.keep k (hn _ (.inr (.inr (.inr (.inl rfl))))),
    h.bm.keep k (hn _ (.inr (.inr (.inr (.inr (.inl rfl)))))), ⟨h.mt.1, h.mt.2.keep k (hn _ (.inr (.inr (.inr (.inr (.inr (.inl rfl)))))))⟩,
    own_keep h.wa k (fun g hg => hn g (.inr (.inr (.inr (.inr (.inr (.inr (by cases A with | none => simp [Value.ownBlock] at hg | some a => simpa [Value.ownBlock] using hg)))))))), h.ne1, h.ne2, h.bs⟩
theorem DiskAt.below (h : DiskAt w base p A c D) (hb : Below w.heap.size w w') : DiskAt w' base p A c D := h.keep (Keep.of_below (F := fun _ => False) hb) (fun _ _ e => e)
theorem DiskAt.drewN (h : DiskAt w base p A c D) (k : Nat) : DiskAt (w.drewN k) base p A c D := h.keep ((Keep.refl (fun _ => False) w).drewN k) (fun _ _ e => e)
theorem DiskAt.alloc (h : DiskAt w base p A c D) (o : Obj) : DiskAt (w.alloc o) base p A c D := h.below ((Below.refl _ _).alloc (Nat.le_refl _) o)
theorem DiskAt.cells (h : DiskAt w base p A c D) : w.cell? ⟨p.d, 0, none⟩ = some (.slice (some ⟨p.gk, 0, none⟩) D.many D.many) ∧ w.cell? ⟨p.d, 1, none⟩ = some (.slice (some ⟨p.gn, 0, none⟩) D.many D.many) ∧
    w.cell? ⟨p.d, 2, none⟩ = some (.slice (some ⟨p.gi, 0, none⟩) D.many D.many) ∧ w.cell? ⟨p.d, 3, none⟩ = some (.slice (some ⟨p.gm, 0, none⟩) D.many D.many) ∧ w.cell? ⟨p.d, 4, none⟩ = some (.slice A D.waits.length c) ∧
    w.cell? ⟨p.d, 5, none⟩ = some (.int .i64 D.room) ∧ w.cell? ⟨p.d, 6, none⟩ = some (.int .i64 D.cut) ∧ w.cell? ⟨p.d, 7, none⟩ = some (.bool D.off) ∧ w.cell? ⟨p.d, 8, none⟩ = some (.pointer (some ⟨p.gc, 0, none⟩)) :=
  ⟨h.st.cell 0, h.st.cell 1, h.st.cell 2, h.st.cell 3, h.st.cell 4, h.st.cell 5, h.st.cell 6, h.st.cell 7, h.st.cell 8⟩
end

theorem is_yes (w : World) (d : Nat) (q : Addr) (h : w.cell? ⟨d, 8, none⟩ = some (.pointer (some q))) : Calls Try.prog 72 #[.pointer (some ⟨d, 0, none⟩)] w fun e w' => e = .returned (.bool true) ∧ w = w' := by
  go_enter Try.func72, Try.ntmps72
  go_wp2
  go_ret
  exact ⟨rfl, rfl⟩
/-- A disk that is none. -/
def NoDisk (w : World) (d : Option Addr) : Prop := d = none ∨ ∃ g, d = some ⟨g, 0, none⟩ ∧ w.cell? ⟨g, 8, none⟩ = some (.pointer none)
theorem is_no (w : World) (d : Option Addr) (h : NoDisk w d) : Calls Try.prog 72 #[.pointer d] w fun e w' => e = .returned (.bool false) ∧ w = w' := by
  rcases h with rfl | ⟨g, rfl, h⟩
  all_goals
    go_enter Try.func72, Try.ntmps72
    go_wp2
    go_ret
    exact ⟨rfl, rfl⟩
section
variable {w : World} {base : Nat} {p : DiskP} {A : Option Addr} {c : Nat} {D : DiskV}
theorem isd (h : DiskAt w base p A c D) : Calls Try.prog 72 #[.pointer (some ⟨p.d, 0, none⟩)] w fun e w' => e = .returned (.bool true) ∧ w = w' := is_yes w p.d _ h.cells.2.2.2.2.2.2.2.2
theorem size_any (h : DiskAt w base p A c D) : Calls Try.prog 28 #[.pointer (some ⟨p.d, 0, none⟩)] w fun e w' => e = .returned (.int .i64 (D.many : Nat)) ∧ w = w' := by
  have h0 := h.cells.1
  have his := isd h
  clear h
  go_enter Try.func28, Try.ntmps28
  go_wp2_with (go_at_call 72; (with_reducible refine (his).mono ?_); rintro e w1 ⟨rfl, rfl⟩)
  go_ret
  exact ⟨rfl, rfl⟩
theorem waits_any (h : DiskAt w base p A c D) : Calls Try.prog 23 #[.pointer (some ⟨p.d, 0, none⟩)] w fun e w' => e = .returned (.int .i64 (D.waits.length : Nat)) ∧ w = w' := by
  have h0 := h.cells.2.2.2.2.1
  have his := isd h
  clear h
  go_enter Try.func23, Try.ntmps23
  go_wp2_with (go_at_call 72; (with_reducible refine (his).mono ?_); rintro e w1 ⟨rfl, rfl⟩)
  go_ret
  exact ⟨rfl, rfl⟩
theorem on_any (h : DiskAt w base p A c D) : Calls Try.prog 29 #[.pointer (some ⟨p.d, 0, none⟩)] w fun e w' => e = .returned (.bool (!D.off)) ∧ w = w' := by
  have h0 := h.cells.2.2.2.2.2.2.2.1
  have his := isd h
  clear h
  generalize D.off = q at *
  go_enter Try.func29, Try.ntmps29
  go_wp2_with (go_at_call 72; (with_reducible refine (his).mono ?_); rintro e w1 ⟨rfl, rfl⟩)
  go_ret
  exact ⟨rfl, rfl⟩
theorem meterof_any (h : DiskAt w base p A c D) : Calls Try.prog 30 #[.pointer (some ⟨p.d, 0, none⟩)] w fun e w' => e = .returned (.pointer (some ⟨p.gc, 0, none⟩)) ∧ w = w' := by
  have h0 := h.cells.2.2.2.2.2.2.2.2
  have his := isd h
  clear h
  go_enter Try.func30, Try.ntmps30
  go_wp2_with (go_at_call 72; (with_reducible refine (his).mono ?_); rintro e w1 ⟨rfl, rfl⟩)
  go_ret
  exact ⟨rfl, rfl⟩
theorem may_any (h : DiskAt w base p A c D) (n : Int) : Calls Try.prog 69 #[.pointer (some ⟨p.d, 0, none⟩), .int .i64 n] w fun e w' => e = .returned (.int .i64 (mayV D n)) ∧ w = w' := by
  have h0 := h.cells.1
  have h7 := h.cells.2.2.2.2.2.2.2.1
  have his := isd h
  clear h
  unfold mayV
  generalize D.many = s at *
  cases hq : D.off with
  | true =>
    rw [hq] at h7
    rw [if_pos rfl]
    go_enter Try.func69, Try.ntmps69
    go_wp2_with (go_at_call 72; (with_reducible refine (his).mono ?_); rintro e w1 ⟨rfl, rfl⟩)
    go_ret
    exact ⟨rfl, rfl⟩
  | false =>
    rw [hq] at h7
    rw [if_neg (by simp)]
    have hcs : n < 0 ∨ (0 ≤ n ∧ (s : Int) ≤ n) ∨ (0 ≤ n ∧ n < s) := by omega
    rcases hcs with h1 | ⟨h1, h2⟩ | ⟨h1, h2⟩
    · rw [if_pos (.inl h1)]
      go_enter Try.func69, Try.ntmps69
      go_wp2_with (go_at_call 72; (with_reducible refine (his).mono ?_); rintro e w1 ⟨rfl, rfl⟩)
      go_ret
      exact ⟨rfl, rfl⟩
    · rw [if_pos (.inr h2)]
      go_enter Try.func69, Try.ntmps69
      go_wp2_with (go_at_call 72; (with_reducible refine (his).mono ?_); rintro e w1 ⟨rfl, rfl⟩)
      go_ret
      exact ⟨rfl, rfl⟩
    · rw [if_neg (by omega)]
      go_enter Try.func69, Try.ntmps69
      go_wp2_with (go_at_call 72; (with_reducible refine (his).mono ?_); rintro e w1 ⟨rfl, rfl⟩)
      go_ret
      exact ⟨rfl, rfl⟩
end
end Go.Proofs.Ytninidpbchcliaa
