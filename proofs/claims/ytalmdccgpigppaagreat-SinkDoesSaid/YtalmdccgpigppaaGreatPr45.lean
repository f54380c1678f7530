/- Parts: PlainFeed, FeedM, PlainFew, FeedN. -/
import Derived.Test.YtalmdccgpigppaaGreatPr44
import Derived.Test.YtalmdccgpigppaaGreatPr36
import Derived.Test.YtalmdccgpigppaaGreatPr23
import Derived.Test.YtalmdccgpigppaaGreatPr43
namespace Go.Proofs.YtalmdccgpigppaaGreat
open Go.RowKit
set_option linter.unusedVariables false
set_option linter.unusedSimpArgs false
/-- A row that is got: the disk, the row, the error. -/
def fGetV (D : DiskV) (f m : Nat) (kind : Int) (next : Nat) (ts : List Int) (n : Int) : DiskV × List Int × Int :=
  if (jGetV D f m kind next n).2.2 ≠ 0 then ((jGetV D f m kind next n).1, [], (jGetV D f m kind next n).2.2)
  else if (readR ts (jGetV D f m kind next n).2.1).2 ≠ 0 then ((jGetV D f m kind next n).1, [], 41)
  else ((jGetV D f m kind next n).1, (readR ts (jGetV D f m kind next n).2.1).1, 0)
/-- The first k rows are got, till one is none: the disk, the error. -/
def fAllK (D : DiskV) (f m : Nat) (kind : Int) (next : Nat) (ts : List Int) : Nat → DiskV × Int
  | 0 => (D, 0)
  | k + 1 => if (fAllK D f m kind next ts k).2 ≠ 0 then fAllK D f m kind next ts k else ((fGetV (fAllK D f m kind next ts k).1 f m kind next ts (k : Int)).1, (fGetV (fAllK D f m kind next ts k).1 f m kind next ts (k : Int)).2.2)
/-- Opened: the disk, how many rows there are, the error. -/
def fOpenV (D : DiskV) (f m : Nat) (kind : Int) (ts : List Int) : DiskV × Nat × Int :=
  if rightB ts = false then (D, 0, 2)
  else if (jOpenV D f m kind).2.2 ≠ 0 then ((jOpenV D f m kind).1, 0, (jOpenV D f m kind).2.2)
  else if (fAllK (jOpenV D f m kind).1 f m kind (jOpenV D f m kind).2.1 ts (jOpenV D f m kind).2.1).2 ≠ 0 then ((fAllK (jOpenV D f m kind).1 f m kind (jOpenV D f m kind).2.1 ts (jOpenV D f m kind).2.1).1, 0, (fAllK (jOpenV D f m kind).1 f m kind (jOpenV D f m kind).2.1 ts (jOpenV D f m kind).2.1).2)
  else ((fAllK (jOpenV D f m kind).1 f m kind (jOpenV D f m kind).2.1 ts (jOpenV D f m kind).2.1).1, (jOpenV D f m kind).2.1, 0)
/-- A row is put, not flushed: the disk, how many there are then, its number, the error. -/
def fPutV (D : DiskV) (f m : Nat) (kind : Int) (next : Nat) (ts l : List Int) : DiskV × Nat × Int × Int :=
  if fitsB ts l = false then (D, next, 0, 41) else jAddV D f m kind next (rowB ts l ts.length)
/-- A row is added, and flushed. -/
def fAddV (D : DiskV) (f m : Nat) (kind : Int) (next : Nat) (ts l : List Int) : DiskV × Nat × Int × Int :=
  if (fPutV D f m kind next ts l).2.2.2 ≠ 0 then ((fPutV D f m kind next ts l).1, (fPutV D f m kind next ts l).2.1, 0, (fPutV D f m kind next ts l).2.2.2)
  else if (flushV (fPutV D f m kind next ts l).1).2 ≠ 0 then ((flushV (fPutV D f m kind next ts l).1).1, (fPutV D f m kind next ts l).2.1, 0, (flushV (fPutV D f m kind next ts l).1).2)
  else ((flushV (fPutV D f m kind next ts l).1).1, (fPutV D f m kind next ts l).2.1, (fPutV D f m kind next ts l).2.2.1, 0)
/-- A sink's Put: the disk, how many there are then, is it fresh, the error. -/
def sPutV (D : DiskV) (f m : Nat) (kind : Int) (next : Nat) (ts : List Int) (n : Int) (l : List Int) : DiskV × Nat × Bool × Int :=
  if n < 0 ∨ (next : Int) < n then (D, next, false, 2)
  else if fitsB ts l = false then (D, next, false, 41)
  else if n < (next : Int) then (D, next, false, 0)
  else if (jAddV D f m kind next (rowB ts l ts.length)).2.2.2 ≠ 0 then ((jAddV D f m kind next (rowB ts l ts.length)).1, (jAddV D f m kind next (rowB ts l ts.length)).2.1, false, (jAddV D f m kind next (rowB ts l ts.length)).2.2.2)
  else ((jAddV D f m kind next (rowB ts l ts.length)).1, (jAddV D f m kind next (rowB ts l ts.length)).2.1, true, 0)
/-- Rows that fit, of numbers that are some. -/
def IntOk (l : List Int) : Prop := ∀ i, i < l.length → -9223372036854775808 ≤ intAt l i ∧ intAt l i ≤ 9223372036854775807
theorem jGetV_keeps (D : DiskV) (f m : Nat) (kind : Int) (next : Nat) (n : Int) : ∃ o, (jGetV D f m kind next n).1 = { D with ops := o } := by
  have hr : ∃ o, (aReadV D f m n).1 = { D with ops := o } := by
    unfold aReadV
    split
    · exact ⟨D.ops, rfl⟩
    · unfold readV
      split
      · exact ⟨D.ops, rfl⟩
      · exact ⟨_, rfl⟩
  unfold jGetV
  split
  · exact ⟨D.ops, rfl⟩
  · split
    · exact hr
    · split
      · exact hr
      · exact hr
theorem fGetV_keeps (D : DiskV) (f m : Nat) (kind : Int) (next : Nat) (ts : List Int) (n : Int) : ∃ o, (fGetV D f m kind next ts n).1 = { D with ops := o } := by
  have h := jGetV_keeps D f m kind next n
  unfold fGetV
  split
  · exact h
  · split
    · exact h
    · exact h
theorem fAllK_keeps (D : DiskV) (f m : Nat) (kind : Int) (next : Nat) (ts : List Int) : ∀ k, ∃ o, (fAllK D f m kind next ts k).1 = { D with ops := o } := by
  intro k
  induction k with
  | zero => exact ⟨D.ops, rfl⟩
  | succ k ih =>
    obtain ⟨o, e⟩ := ih
    unfold fAllK
    split
    · exact ⟨o, e⟩
    · obtain ⟨o2, e2⟩ := fGetV_keeps (fAllK D f m kind next ts k).1 f m kind next ts (k : Int)
      exact ⟨o2, by rw [e2, e]⟩
theorem fAllK_stop {D : DiskV} {f m : Nat} {kind : Int} {next : Nat} {ts : List Int} {k n : Nat} (h : (fAllK D f m kind next ts k).2 ≠ 0) (hn : k ≤ n) : fAllK D f m kind next ts n = fAllK D f m kind next ts k := by
  induction n with
  | zero => rw [show k = 0 by omega]
  | succ n ih =>
    by_cases q : k = n + 1
    · rw [q]
    · have e := ih (by omega)
      show (if (fAllK D f m kind next ts n).2 ≠ 0 then _ else _) = _
      rw [e, if_pos h]
structure RowsOk (ts : List Int) (rows : List (List Int)) : Prop where
  fits : ∀ l ∈ rows, fitsB ts l = true
  ints : ∀ l ∈ rows, IntOk l
/-- Rows as a journal's loads. -/
def loadsOf (ts : List Int) (rows : List (List Int)) : List (List UInt8) := rows.map (fun l => rowB ts l ts.length)
theorem fits_right {ts l : List Int} (h : fitsB ts l = true) : rightB ts = true := (fitsB_true.1 h).1
theorem row_len {ts : List Int} (h : rightB ts = true) (l : List Int) : (rowB ts l ts.length).length ≤ 80 := by
  have h1 := rowB_len10 ts l ts.length
  have h2 := (rightB_true.1 h).2.2
  omega
theorem loadsOf_len {ts : List Int} (h : rightB ts = true) {rows : List (List Int)} : ∀ b ∈ loadsOf ts rows, b.length ≤ 113 := fun b hb => by
  obtain ⟨l, _, e⟩ := List.mem_map.1 hb
  rw [← e]
  have := row_len h l
  omega
theorem loadsOf_get {ts : List Int} {rows : List (List Int)} {n : Nat} {l : List Int} (h : rows[n]? = some l) : (loadsOf ts rows)[n]? = some (rowB ts l ts.length) := by
  unfold loadsOf
  rw [List.getElem?_map, h]; rfl
section
variable {D : DiskV} {N : Secs} {f m kind : Nat} {ts : List Int} {rows : List (List Int)}
theorem fget_row (hoff : D.off = false) (hnow : ∀ s : Nat, s < D.many → secOf D.now (s : Int) = N s) (hR : RowsOk ts rows) (h : Jrn N f m kind (loadsOf ts rows)) (hfm : f + m ≤ D.many) (k1 : 1 ≤ kind) (k2 : kind ≤ 255) (hm : m ≤ 4096) {n : Nat} {l : List Int} (hn : rows[n]? = some l) :
    fGetV D f m (kind : Int) rows.length ts (n : Int) = (readV' D, l, 0) := by
  have hmem := List.mem_of_getElem? hn
  have hg := h.get hoff hnow hfm k1 k2 hm (loadsOf_get hn)
  rw [show (loadsOf ts rows).length = rows.length by simp [loadsOf]] at hg
  unfold fGetV
  rw [hg, readR_rowB (hR.fits l hmem) (hR.ints l hmem)]
  simp
theorem fall_ok (hoff : D.off = false) (hnow : ∀ s : Nat, s < D.many → secOf D.now (s : Int) = N s) (hR : RowsOk ts rows) (h : Jrn N f m kind (loadsOf ts rows)) (hfm : f + m ≤ D.many) (k1 : 1 ≤ kind) (k2 : kind ≤ 255) (hm : m ≤ 4096) :
    ∀ k, k ≤ rows.length → fAllK D f m (kind : Int) rows.length ts k = (rdK D k, 0) := by
  intro k
  induction k with
  | zero => intro _; rfl
  | succ k ih =>
    intro hk
    have e := ih (by omega)
    obtain ⟨o, ho⟩ := rdK_ops D k
    have hg := fget_row (D := rdK D k) (N := N) (by rw [ho]; exact hoff) (fun s hs => by rw [ho] at hs ⊢; exact hnow s hs) hR h (by rw [ho]; exact hfm) k1 k2 hm (List.getElem?_eq_getElem (show k < rows.length by omega))
    show (if (fAllK D f m (kind : Int) rows.length ts k).2 ≠ 0 then _ else _) = _
    rw [e, hg]
    simp
    rfl
end
end Go.Proofs.YtalmdccgpigppaaGreat
namespace Go.Proofs.YtalmdccgpigppaaGreat
open Go.RowKit
set_option linter.unusedVariables false
set_option linter.unusedSimpArgs false
def IntsAt (w : World) (base : Nat) (A : Option Addr) (n : Nat) (l : List Int) : Prop := RI w A n l ∧ n ≤ maxLen ∧ (0 < n → Rests w base 3 A)
section
variable {M : List TypeId} {w w' : World} {base n : Nat} {p : DiskP} {D : DiskV} {A : Option Addr} {l : List Int}
theorem IntsAt.step (H : IntsAt w base A n l) (hd : DiskS w base p D) (k : Step M base p w w') (ht : 3 ∉ 4 :: M) : IntsAt w' base A n l :=
  ⟨⟨H.1.1, H.1.2.stepR H.2.2 hd k ht⟩, H.2.1, fun h0 => (H.2.2 h0).step hd k ht⟩
theorem IntsAt.below (H : IntsAt w base A n l) (hb : Below w.heap.size w w') : IntsAt w' base A n l :=
  ⟨H.1.below hb (Nat.le_refl _), H.2.1, fun h0 g hg => by
    rcases H.2.2 h0 g hg with q | ⟨cs, q⟩
    · exact .inl q
    · exact .inr ⟨cs, q.below hb q.lt⟩⟩
theorem IntsAt.old {w0 : World} (H : RI w0 A n l) (hm : n ≤ maxLen) (hb : Below w0.heap.size w0 w) (hs : w0.heap.size ≤ base) : IntsAt w base A n l :=
  ⟨H.below hb (Nat.le_refl _), hm, fun h0 g hg => by
    obtain ⟨b, o, e, q, _⟩ := H.2 h0
    rw [e] at hg
    simp only [Option.map_some, Option.some.injEq] at hg
    exact .inl (by omega)⟩
theorem IntsAt.of_ow {b c : Nat} (H : Ow iv w b 3 A n c l) : IntsAt w base A n l :=
  ⟨H.rd.ri, by have := H.cap; omega, fun _ g hg => .inr (H.blk hg)⟩
theorem IntsAt.ri (H : IntsAt w base A n l) : RI w A n l := H.1
theorem IntsAt.len (H : IntsAt w base A n l) : n ≤ maxLen := H.2.1
theorem IntsAt.nil (w : World) (base : Nat) : IntsAt w base none 0 [] := ⟨⟨rfl, Row.nil _ _ _⟩, by unfold maxLen; omega, fun h => absurd h (by omega)⟩
end
/-- A journal of rows: a block of the type t. -/
def JRowsAt (t : TypeId) (w : World) (base g ga : Nat) (kind : Int) (next : Nat) (ts : List Int) : Prop :=
  ∃ gj A n c, Blk w g t [.pointer (some ⟨gj, 0, none⟩), .slice A n c] ∧ base ≤ gj ∧ JrnAt w gj ga kind next ∧ IntsAt w base A n ts
section
variable {M : List TypeId} {t : TypeId} {w w' : World} {base g ga next : Nat} {kind : Int} {ts : List Int} {p : DiskP} {D : DiskV}
theorem JRowsAt.step (H : JRowsAt t w base g ga kind next ts) (hd : DiskS w base p D) (k : Step M base p w w') (h1 : t ∉ 4 :: M) (h2 : 200 ∉ 4 :: M) (h3 : 3 ∉ 4 :: M) : JRowsAt t w' base g ga kind next ts := by
  obtain ⟨gj, A, n, c, hb, hg, hj, hi⟩ := H
  exact ⟨gj, A, n, c, hd.blk hb k.tch h1, hg, hd.blk hj k.tch h2, hi.step hd k h3⟩
theorem JRowsAt.below (H : JRowsAt t w base g ga kind next ts) (hb : Below w.heap.size w w') : JRowsAt t w' base g ga kind next ts := by
  obtain ⟨gj, A, n, c, hx, hg, hj, hi⟩ := H
  exact ⟨gj, A, n, c, hx.below hb hx.lt, hg, hj.below hb, hi.below hb⟩
end
end Go.Proofs.YtalmdccgpigppaaGreat
namespace Go.Proofs.YtalmdccgpigppaaGreat
open Go.RowKit
set_option linter.unusedVariables false
set_option linter.unusedSimpArgs false
theorem wipeK_waits (f m : Nat) : ∀ (l : List Int) (D : DiskV), (wipeK D f m l).1.many = D.many ∧ (wipeK D f m l).1.waits.length ≤ D.waits.length + l.length := by
  intro l
  induction l with
  | nil => intro D; exact ⟨rfl, by simp [wipeK]⟩
  | cons n l ih =>
    intro D
    obtain ⟨a1, a2⟩ := aWriteV_many D f m n zerosL
    by_cases he : (aWriteV D f m n zerosL).2 = 0
    · rw [wipeK_step he]
      obtain ⟨h1, h2⟩ := ih (aWriteV D f m n zerosL).1
      exact ⟨h1.trans a1, by rw [List.length_cons]; omega⟩
    · rw [wipeK_stop he]
      exact ⟨a1, by rw [List.length_cons]; omega⟩
theorem flushV_few (D : DiskV) : (flushV D).1.many = D.many ∧ (flushV D).1.waits.length ≤ D.waits.length := by
  unfold flushV
  split
  · exact ⟨rfl, Nat.le_refl _⟩
  · split
    · exact ⟨rfl, by simp [goesV]⟩
    · exact ⟨rfl, by simp [flushD]⟩
theorem jOpenV_few (D : DiskV) (f m : Nat) (kind : Int) : (jOpenV D f m kind).1.many = D.many ∧ (jOpenV D f m kind).1.waits.length ≤ D.waits.length + m ∧ (jOpenV D f m kind).2.1 ≤ m := by
  obtain ⟨o, eo⟩ := rdK_ops D m
  have hle := scanK_le D.now f kind m
  obtain ⟨h1, h2⟩ := wipeK_waits f m (scanK D.now f kind m).2.2 (rdK D m)
  have e1 : (rdK D m).many = D.many := by rw [eo]
  have e2 : (rdK D m).waits = D.waits := by rw [eo]
  rw [e1] at h1
  rw [e2] at h2
  have f1 := flushV_few (jWipe D f m kind).1
  unfold jWipe at f1
  unfold jOpenV
  unfold jWipe
  split
  · exact ⟨rfl, by simp, by simp⟩
  split
  · exact ⟨rfl, by simp, by simp⟩
  split
  · exact ⟨h1, Nat.le_trans h2 (by omega), by simp⟩
  split
  · exact ⟨h1, Nat.le_trans h2 (by omega), hle.1⟩
  split
  · exact ⟨f1.1.trans h1, Nat.le_trans f1.2 (Nat.le_trans h2 (by omega)), by simp⟩
  · exact ⟨f1.1.trans h1, Nat.le_trans f1.2 (Nat.le_trans h2 (by omega)), hle.1⟩
theorem aPutV_few (D : DiskV) (f m : Nat) (n kind number : Int) (l : List UInt8) : (aPutV D f m n kind number l).1.many = D.many ∧ (aPutV D f m n kind number l).1.waits.length ≤ D.waits.length + 1 := by
  unfold aPutV
  split
  · exact ⟨rfl, by simp⟩
  · exact aWriteV_many D f m n _
theorem jAddV_few (D : DiskV) (f m : Nat) (kind : Int) (next : Nat) (l : List UInt8) (hn : next ≤ m) : (jAddV D f m kind next l).1.many = D.many ∧ (jAddV D f m kind next l).1.waits.length ≤ D.waits.length + 1 ∧ (jAddV D f m kind next l).2.1 ≤ m := by
  obtain ⟨h1, h2⟩ := aPutV_few D f m next kind next l
  unfold jAddV
  split
  · exact ⟨rfl, by simp, hn⟩
  split
  · exact ⟨rfl, by simp, hn⟩
  split
  · exact ⟨h1, h2, hn⟩
  · exact ⟨h1, h2, by show next + 1 ≤ m; omega⟩
end Go.Proofs.YtalmdccgpigppaaGreat
namespace Go.Proofs.YtalmdccgpigppaaGreat
open Go.RowKit
set_option linter.unusedVariables false
set_option linter.unusedSimpArgs false
/-- A journal of rows whose types lie in new memory. -/
def JRowsNew (t : TypeId) (w : World) (base lo g ga : Nat) (kind : Int) (next : Nat) (ts : List Int) : Prop :=
  ∃ gj A n c, Blk w g t [.pointer (some ⟨gj, 0, none⟩), .slice A n c] ∧ base ≤ gj ∧ JrnAt w gj ga kind next ∧ IntsAt w base A n ts ∧ ∀ b, A.map (·.block) = some b → lo ≤ b
theorem JRowsNew.at_ {t : TypeId} {w : World} {base lo g ga next : Nat} {kind : Int} {ts : List Int} (H : JRowsNew t w base lo g ga kind next ts) : JRowsAt t w base g ga kind next ts := by
  obtain ⟨gj, A, n, c, h1, h2, h3, h4, _⟩ := H
  exact ⟨gj, A, n, c, h1, h2, h3, h4⟩
theorem JRowsNew.step {M : List TypeId} {t : TypeId} {w w' : World} {base lo g ga next : Nat} {kind : Int} {ts : List Int} {p : DiskP} {D : DiskV} (H : JRowsNew t w base lo g ga kind next ts) (hd : DiskS w base p D) (k : Step M base p w w') (h1 : t ∉ 4 :: M) (h2 : 200 ∉ 4 :: M) (h3 : 3 ∉ 4 :: M) : JRowsNew t w' base lo g ga kind next ts := by
  obtain ⟨gj, A, n, c, hb, hg, hj, hi, hl⟩ := H
  exact ⟨gj, A, n, c, hd.blk hb k.tch h1, hg, hd.blk hj k.tch h2, hi.step hd k h3, hl⟩
def FOpPost (t : TypeId) (w : World) (base ga : Nat) (kind : Int) (ts : List Int) (p : DiskP) (R : DiskV × Nat × Int) (e : Ending) (w' : World) : Prop :=
  ∃ P, e = .returned (.tuple #[.pointer P, .int .i64 R.2.2]) ∧ (R.2.2 ≠ 0 → P = none) ∧ (R.2.2 = 0 → ∃ g, P = some ⟨g, 0, none⟩ ∧ w.heap.size ≤ g ∧ JRowsNew t w' base w.heap.size g ga kind R.2.1 ts) ∧ DiskS w' base p R.1 ∧ Step mutD base p w w'
section
variable {t : TypeId} {w w' : World} {base ga g next : Nat} {kind z : Int} {ts : List Int} {p : DiskP} {D : DiskV}
theorem FOpPost.no (hz : z ≠ 0) (hd : DiskS w' base p D) (hs : Step mutD base p w w') : FOpPost t w base ga kind ts p (D, 0, z) (.returned (.tuple #[.pointer none, .int .i64 z])) w' :=
  ⟨none, rfl, fun _ => rfl, fun e => absurd e hz, hd, hs⟩
theorem FOpPost.yes (hg : w.heap.size ≤ g) (hj : JRowsNew t w' base w.heap.size g ga kind next ts) (hd : DiskS w' base p D) (hs : Step mutD base p w w') : FOpPost t w base ga kind ts p (D, next, 0) (.returned (.tuple #[.pointer (some ⟨g, 0, none⟩), .int .i64 0])) w' :=
  ⟨_, rfl, fun e => absurd rfl e, fun _ => ⟨g, rfl, hg, hj⟩, hd, hs⟩
end
theorem fAllK_many (D : DiskV) (f m : Nat) (kind : Int) (next : Nat) (ts : List Int) (k : Nat) : (fAllK D f m kind next ts k).1.many = D.many := by
  obtain ⟨o, e⟩ := fAllK_keeps D f m kind next ts k; rw [e]
theorem fAllK_next {D Dk : DiskV} {f m : Nat} {kind : Int} {next : Nat} {ts : List Int} {k : Nat} (h : fAllK D f m kind next ts k = (Dk, 0)) :
    fAllK D f m kind next ts (k + 1) = ((fGetV Dk f m kind next ts (k : Int)).1, (fGetV Dk f m kind next ts (k : Int)).2.2) := by
  show (if (fAllK D f m kind next ts k).2 ≠ 0 then _ else _) = _
  rw [h]; simp
end Go.Proofs.YtalmdccgpigppaaGreat
