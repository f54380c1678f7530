/- Parts: PlainFeed, DiskO. -/
import Derived.Test.YtalmdccgpigppaaPart17
import Derived.Test.YtalmdccgpigppaaPart18
import Derived.Test.YtalmdccgpigppaaPart15
import Derived.Test.YtalmdccgpigppaaPart12
import Derived.Test.YtalmdccgpigppaaPart11
namespace Go.Proofs.Ytalmdccgpigppaa
open Go.RowKit
set_option linter.unusedVariables false
set_option linter.unusedSimpArgs false
/-- A row that is got: the disk, the row, the error. -/
def fGetV (D : DiskV) (f m : Nat) (kind : Int) (next : Nat) (ts : List Int) (n : Int) : DiskV × List Int × Int :=
  if (jGetV D f m kind next n).2.2 ≠ 0 then ((jGetV D f m kind next n).1, [], (jGetV D f m kind next n).2.2)
  else if (readR ts (jGetV D f m kind next n).2.1).2 ≠ 0 then ((jGetV D f m kind next n).1, [], 41)
  else ((jGetV D f m kind next n).1, (readR ts (jGetV D f m kind next n).2.1).1, 0)
/-- The first k rows are got, till one is none: the disk, the error. -/
def fAllK (D : DiskV) (f m : Nat) (kind : Int) (next : Nat) (ts : List Int) : Nat → DiskV × Int
  | 0 => (D, 0)
  | k + 1 => if (fAllK D f m kind next ts k).2 ≠ 0 then fAllK D f m kind next ts k else ((fGetV (fAllK D f m kind next ts k).1 f m kind next ts (k : Int)).1, (fGetV (fAllK D f m kind next ts k).1 f m kind next ts (k : Int)).2.2)
/-- Opened: the disk, how many rows there are, the error. -/
def fOpenV (D : DiskV) (f m : Nat) (kind : Int) (ts : List Int) : DiskV × Nat × Int :=
  if rightB ts = false then (D, 0, 2)
  else if (jOpenV D f m kind).2.2 ≠ 0 then ((jOpenV D f m kind).1, 0, (jOpenV D f m kind).2.2)
  else if (fAllK (jOpenV D f m kind).1 f m kind (jOpenV D f m kind).2.1 ts (jOpenV D f m kind).2.1).2 ≠ 0 then ((fAllK (jOpenV D f m kind).1 f m kind (jOpenV D f m kind).2.1 ts (jOpenV D f m kind).2.1).1, 0, (fAllK (jOpenV D f m kind).1 f m kind (jOpenV D f m kind).2.1 ts (jOpenV D f m kind).2.1).2)
  else ((fAllK (jOpenV D f m kind).1 f m kind (jOpenV D f m kind).2.1 ts (jOpenV D f m kind).2.1).1, (jOpenV D f m kind).2.1, 0)
/-- A row is put, not flushed: the disk, how many there are then, its number, the error. -/
def fPutV (D : DiskV) (f m : Nat) (kind : Int) (next : Nat) (ts l : List Int) : DiskV × Nat × Int × Int :=
  if fitsB ts l = false then (D, next, 0, 41) else jAddV D f m kind next (rowB ts l ts.length)
/-- A row is added, and flushed. -/
def fAddV (D : DiskV) (f m : Nat) (kind : Int) (next : Nat) (ts l : List Int) : DiskV × Nat × Int × Int :=
  if (fPutV D f m kind next ts l).2.2.2 ≠ 0 then ((fPutV D f m kind next ts l).1, (fPutV D f m kind next ts l).2.1, 0, (fPutV D f m kind next ts l).2.2.2)
  else if (flushV (fPutV D f m kind next ts l).1).2 ≠ 0 then ((flushV (fPutV D f m kind next ts l).1).1, (fPutV D f m kind next ts l).2.1, 0, (flushV (fPutV D f m kind next ts l).1).2)
  else ((flushV (fPutV D f m kind next ts l).1).1, (fPutV D f m kind next ts l).2.1, (fPutV D f m kind next ts l).2.2.1, 0)
/-- A sink's Put: the disk, how many there are then, is it fresh, the error. -/
def sPutV (D : DiskV) (f m : Nat) (kind : Int) (next : Nat) (ts : List Int) (n : Int) (l : List Int) : DiskV × Nat × Bool × Int :=
  if n < 0 ∨ (next : Int) < n then (D, next, false, 2)
  else if fitsB ts l = false then (D, next, false, 41)
  else if n < (next : Int) then (D, next, false, 0)
  else if (jAddV D f m kind next (rowB ts l ts.length)).2.2.2 ≠ 0 then ((jAddV D f m kind next (rowB ts l ts.length)).1, (jAddV D f m kind next (rowB ts l ts.length)).2.1, false, (jAddV D f m kind next (rowB ts l ts.length)).2.2.2)
  else ((jAddV D f m kind next (rowB ts l ts.length)).1, (jAddV D f m kind next (rowB ts l ts.length)).2.1, true, 0)
/-- Rows that fit, of numbers that are some. -/
def IntOk (l : List Int) : Prop := ∀ i, i < l.length → -9223372036854775808 ≤ intAt l i ∧ intAt l i ≤ 9223372036854775807
theorem jGetV_keeps (D : DiskV) (f m : Nat) (kind : Int) (next : Nat) (n : Int) : ∃ o, (jGetV D f m kind next n).1 = { D with ops := o } := by
  have hr : ∃ o, (aReadV D f m n).1 = { D with ops := o } := by
    unfold aReadV
    split
    · exact ⟨D.ops, rfl⟩
    · unfold readV
      split
      · exact ⟨D.ops, rfl⟩
      · exact ⟨_, rfl⟩
  unfold jGetV
  split
  · exact ⟨D.ops, rfl⟩
  · split
    · exact hr
    · split
      · exact hr
      · exact hr
theorem fGetV_keeps (D : DiskV) (f m : Nat) (kind : Int) (next : Nat) (ts : List Int) (n : Int) : ∃ o, (fGetV D f m kind next ts n).1 = { D with ops := o } := by
  have h := jGetV_keeps D f m kind next n
  unfold fGetV
  split
  · exact h
  · split
    · exact h
    · exact h
theorem fAllK_keeps (D : DiskV) (f m : Nat) (kind : Int) (next : Nat) (ts : List Int) : ∀ k, ∃ o, (fAllK D f m kind next ts k).1 = { D with ops := o } := by
  intro k
  induction k with
  | zero => exact ⟨D.ops, rfl⟩
  | succ k ih =>
    obtain ⟨o, e⟩ := ih
    unfold fAllK
    split
    · exact ⟨o, e⟩
    · obtain ⟨o2, e2⟩ := fGetV_keeps (fAllK D f m kind next ts k).1 f m kind next ts (k : Int)
      exact ⟨o2, by rw [e2, e]⟩
theorem fAllK_stop {D : DiskV} {f m : Nat} {kind : Int} {next : Nat} {ts : List Int} {k n : Nat} (h : (fAllK D f m kind next ts k).2 ≠ 0) (hn : k ≤ n) : fAllK D f m kind next ts n = fAllK D f m kind next ts k := by
  induction n with
  | zero => rw [show k = 0 by omega]
  | succ n ih =>
    by_cases q : k = n + 1
    · rw [q]
    · have e := ih (by omega)
      show (if (fAllK D f m kind next ts n).2 ≠ 0 then _ else _) = _
      rw [e, if_pos h]
structure RowsOk (ts : List Int) (rows : List (List Int)) : Prop where
  fits : ∀ l ∈ rows, fitsB ts l = true
  ints : ∀ l ∈ rows, IntOk l
/-- Rows as a journal's loads. -/
def loadsOf (ts : List Int) (rows : List (List Int)) : List (List UInt8) := rows.map (fun l => rowB ts l ts.length)
theorem fits_right {ts l : List Int} (h : fitsB ts l = true) : rightB ts = true := (fitsB_true.1 h).1
theorem row_len {ts : List Int} (h : rightB ts = true) (l : List Int) : (rowB ts l ts.length).length ≤ 80 := by
  have h1 := rowB_len10 ts l ts.length
  have h2 := (rightB_true.1 h).2.2
  omega
theorem loadsOf_len {ts : List Int} (h : rightB ts = true) {rows : List (List Int)} : ∀ b ∈ loadsOf ts rows, b.length ≤ 113 := fun b hb => by
  obtain ⟨l, _, e⟩ := List.mem_map.1 hb
  rw [← e]
  have := row_len h l
  omega
theorem loadsOf_get {ts : List Int} {rows : List (List Int)} {n : Nat} {l : List Int} (h : rows[n]? = some l) : (loadsOf ts rows)[n]? = some (rowB ts l ts.length) := by
  unfold loadsOf
  rw [List.getElem?_map, h]; rfl
section
variable {D : DiskV} {N : Secs} {f m kind : Nat} {ts : List Int} {rows : List (List Int)}
theorem fget_row (hoff : D.off = false) (hnow : ∀ s : Nat, s < D.many → secOf D.now (s : Int) = N s) (hR : RowsOk ts rows) (h : Jrn N f m kind (loadsOf ts rows)) (hfm : f + m ≤ D.many) (k1 : 1 ≤ kind) (k2 : kind ≤ 255) (hm : m ≤ 4096) {n : Nat} {l : List Int} (hn : rows[n]? = some l) :
    fGetV D f m (kind : Int) rows.length ts (n : Int) = (readV' D, l, 0) := by
  have hmem := List.mem_of_getElem? hn
  have hg := h.get hoff hnow hfm k1 k2 hm (loadsOf_get hn)
  rw [show (loadsOf ts rows).length = rows.length by simp [loadsOf]] at hg
  unfold fGetV
  rw [hg, readR_rowB (hR.fits l hmem) (hR.ints l hmem)]
  simp
theorem fget_out (D : DiskV) (f m : Nat) (kind : Int) (next : Nat) (ts : List Int) (n : Int) (h : n < 0 ∨ (next : Int) ≤ n) : fGetV D f m kind next ts n = (D, [], 54) := by
  unfold fGetV
  rw [jGetV_out D f m kind next n h]
  simp
theorem fall_ok (hoff : D.off = false) (hnow : ∀ s : Nat, s < D.many → secOf D.now (s : Int) = N s) (hR : RowsOk ts rows) (h : Jrn N f m kind (loadsOf ts rows)) (hfm : f + m ≤ D.many) (k1 : 1 ≤ kind) (k2 : kind ≤ 255) (hm : m ≤ 4096) :
    ∀ k, k ≤ rows.length → fAllK D f m (kind : Int) rows.length ts k = (rdK D k, 0) := by
  intro k
  induction k with
  | zero => intro _; rfl
  | succ k ih =>
    intro hk
    have e := ih (by omega)
    obtain ⟨o, ho⟩ := rdK_ops D k
    have hg := fget_row (D := rdK D k) (N := N) (by rw [ho]; exact hoff) (fun s hs => by rw [ho] at hs ⊢; exact hnow s hs) hR h (by rw [ho]; exact hfm) k1 k2 hm (List.getElem?_eq_getElem (show k < rows.length by omega))
    show (if (fAllK D f m (kind : Int) rows.length ts k).2 ≠ 0 then _ else _) = _
    rw [e, hg]
    simp
    rfl
end
end Go.Proofs.Ytalmdccgpigppaa
namespace Go.Proofs.Ytalmdccgpigppaa
open Go.RowKit
set_option linter.unusedVariables false
set_option linter.unusedSimpArgs false
theorem DiskAt.ldS {w : World} {base : Nat} {p : DiskP} {A : Option Addr} {c k : Nat} {D : DiskV} (h : DiskAt w base p A c D) :
    w.cell? ⟨p.d, 0, none⟩ = some (.slice (some ⟨p.gk, 0, none⟩) D.many D.many) ∧ w.cell? ⟨p.d, 1, none⟩ = some (.slice (some ⟨p.gn, 0, none⟩) D.many D.many) ∧ w.cell? ⟨p.d, 2, none⟩ = some (.slice (some ⟨p.gi, 0, none⟩) D.many D.many) ∧
      w.cell? ⟨p.d, 3, none⟩ = some (.slice (some ⟨p.gm, 0, none⟩) D.many D.many) ∧ w.rangeAt p.gk (k * 128) ((secOf D.kept (k : Int)).map bv) :=
  ⟨h.cells.1, h.cells.2.1, h.cells.2.2.1, h.cells.2.2.2.1, h.bk.range (n := 128) (by unfold secOf; rw [Int.toNat_natCast, List.map_take, List.map_drop])⟩
theorem DiskAt.setMight' {w : World} {base : Nat} {p : DiskP} {A : Option Addr} {c : Nat} {D : DiskV} (h : DiskAt w base p A c D) (n : Nat) (b : Bool) {L : List Bool} (hL : D.might.set n b = L) : DiskAt (w.setCell ⟨p.gm, n, none⟩ (.bool b)) base p A c { D with might := L } := by subst hL; exact h.setMight n b
theorem DiskAt.setIn' {w : World} {base : Nat} {p : DiskP} {A : Option Addr} {c : Nat} {D : DiskV} (h : DiskAt w base p A c D) (n : Nat) (b : Bool) {L : List Bool} (hL : D.inuse.set n b = L) : DiskAt (w.setCell ⟨p.gi, n, none⟩ (.bool b)) base p A c { D with inuse := L } := by subst hL; exact h.setIn n b
def loadV (img : List UInt8) (many room : Int) : Int := if many < 1 ∨ 4096 < many ∨ room < 0 ∨ many < room ∨ many * 128 < img.length then 2 else if room < usedN img then 52 else 0
def LdPost (w : World) (D : DiskV) (e : Ending) (w' : World) : Prop := ∃ p, e = .returned (.tuple #[.pointer (some ⟨p.d, 0, none⟩), .int .i64 0]) ∧ DiskS w' w.heap.size p D ∧ Below w.heap.size w w'
set_option maxRecDepth 100000 in
set_option maxHeartbeats 20000000 in
theorem load_ok (B : Option Addr) (n d : Nat) (img : List UInt8) (many : Nat) (room : Int) (w : World) (hr : RB w B n img) (hnd : n ≤ d) (h0 : 1 ≤ many) (h1 : many ≤ 4096) (r0 : 0 ≤ room) (r1 : room ≤ many) (hl : n ≤ many * 128) (hu : (usedN img : Int) ≤ room) :
    Calls Try.prog 45 #[.slice B n d, .int .i64 (many : Int), .int .i64 room] w (LdPost w (loadD many room img (usedN img))) := by
  have hnew := new_ok many room w h0 h1 r0 r1
  rw [← loadD_zero many room img] at hnew
  have hlen := hr.1
  have hus : usedN img = (n + 127) / 128 := by unfold usedN; rw [hlen]
  obtain ⟨N, hN⟩ : ∃ N, N = usedN img := ⟨_, rfl⟩
  rw [← hN] at hu hus ⊢
  have HN := Lib.hid hN
  have hNm : N ≤ many := by omega
  have hq : ((n : Int) + 127) / 128 = (N : Int) := by omega
  clear hN
  go_enter Try.func45, Try.ntmps45
  go_wp2_with (first
    | ((go_at_call 78; (with_reducible refine (hnew).mono ?_); rintro e w1 ⟨p, rfl, hd1, hb1⟩); have H1 := Lib.hid hd1; have s1 := hb1.size; clear hd1)
    | fail "no arm")
  go_loopw [11, 37] (fun _ i wr => ∃ k : Nat, k ≤ N ∧ i = .int .i64 (k : Nat) ∧ DiskAt wr w.heap.size p none 0 (loadD many room img k) ∧ Below w.heap.size w wr) (fun _ i _ => N - (intOf i).toNat)
  case atStart => exact ⟨0, by omega, rfl, H1.out, hb1⟩
  case round =>
    obtain ⟨k, hk, rfl, hX, hbel⟩ := hrel
    by_cases hlt : k < N
    · have hkn : k * 128 < n := by omega
      have hkm : k < many := by omega
      have hkI : (k : Int) < N := by omega
      have hkI2 : (k : Int) < many := by omega
      have hbs := hbel.size
      obtain ⟨X, hXe⟩ : ∃ X, X = (if d = k * 128 then B else B.map (·.add (k * 128))) := ⟨_, rfl⟩
      obtain ⟨C, hC⟩ : ∃ C, C = d - k * 128 := ⟨_, rfl⟩
      have hcut : ∀ W : World, (Instr.slice 26 (.slice B n d) (some (.int .i64 ((k : Int) * 128))) none none).run Try.prog W = .ok (.slice X (n - k * 128) C) W := fun W => by
        have := run_cut_from (P := Try.prog) elemU8 B n d (k * 128) (by omega) W
        rw [Nat.mul_one, ← hXe, ← hC] at this
        rw [← this]; rfl
      have hrX : RB wr X (n - k * 128) (img.drop (k * 128)) := by
        have hrw := hr.below hbel (Nat.le_refl _)
        refine ⟨by rw [List.length_drop, hlen], ?_⟩
        rw [hXe]
        exact (Row.cut hrw.2 (by omega) hnd).congr fun i hi => by
          unfold byteAt
          rw [List.getD_eq_getElem?_getD, List.getD_eq_getElem?_getD, List.getElem?_drop]
      have hfirst := Lib.hid (imgK_succ (many := many) (k := k) (by rw [hlen]; exact hl) (by rw [hlen]; exact hkn))
      have hsec := Lib.hid (imgK_sec (img := img) (many := many) (k := k) (by rw [hlen]; exact hl) hkm)
      have htr := Lib.hid (trueK_succ hkm)
      have hli := Lib.hid (imgK_len (img := img) (many := many) (k := k + 1) (by rw [hlen]; exact hl))
      have e0 := hX.cells.1
      have hcut1 := fun o => run_slice_all (P := Try.prog) Try.underlying128 (by kernel_rfl) p.gk o
      have hwr : Hid (IntKind.i64.wrap ((k : Int) * 128) = (k : Int) * 128) := by show _ = _; go_arith
      have HX := Lib.hid hX
      have HR := Lib.hid hrX
      have Hi := Lib.hid (zero_of_info zero128).2
      change wr.cell? _ = some (.slice (some ⟨p.gk, 0, none⟩) many many) at e0
      clear hX hXe hC hrX hus
      go_wp2
      refine wp_region_held_drew (S := fun w' => w'.cell? ⟨p.d, 0, none⟩ = some (.slice (some ⟨p.gk, 0, none⟩) many many)) (by kernel_rfl) e0 (fun hHeld => ?_)
      refine wpAnyH_take (i := 0) (v := ?_) rfl (by decide +kernel) (by decide +kernel) (by decide +kernel) (fun _ _ _ h => h) (Or.inl ⟨by rfl, ?_⟩) (by assumption) ?_
      rotate_left 1
      · (intro w hSw; (try dsimp only at hSw); go_simp; try (with_reducible rfl))
      try simp only [List.getElem_toArray, List.getElem_cons_zero, List.getElem_cons_succ, Act.put, List.setIfInBounds_toArray, List.set_cons_zero, List.set_cons_succ]
      refine wpAnyH_take (i := 1) (v := ?_) rfl (by decide +kernel) (by decide +kernel) (by decide +kernel) (fun _ _ _ h => h) (Or.inl ⟨by rfl, ?_⟩) (by assumption) ?_
      rotate_left 1
      · (intro w hSw; (try dsimp only at hSw); go_simp; try (with_reducible rfl))
      try simp only [List.getElem_toArray, List.getElem_cons_zero, List.getElem_cons_succ, Act.put, List.setIfInBounds_toArray, List.set_cons_zero, List.set_cons_succ]
      refine wpAnyH_take (i := 2) (v := ?_) rfl (by decide +kernel) (by decide +kernel) (by decide +kernel) (fun _ _ _ h => h) (Or.inl ⟨by rfl, ?_⟩) (by assumption) ?_
      rotate_left 1
      · (intro w hSw; (try dsimp only at hSw); go_simp; try (with_reducible rfl))
      try simp only [List.getElem_toArray, List.getElem_cons_zero, List.getElem_cons_succ, Act.put, List.setIfInBounds_toArray, List.set_cons_zero, List.set_cons_succ]
      refine wpAnyH_take (i := 3) (v := ?_) rfl (by decide +kernel) (by decide +kernel) (by decide +kernel) (fun _ _ _ h => h) (Or.inl ⟨by rfl, ?_⟩) (by assumption) ?_
      rotate_left 1
      · (intro w hSw; (try dsimp only at hSw); go_simp; try (with_reducible rfl))
      try simp only [List.getElem_toArray, List.getElem_cons_zero, List.getElem_cons_succ, Act.put, List.setIfInBounds_toArray, List.set_cons_zero, List.set_cons_succ]
      refine wpAnyH_take (i := 4) (v := ?_) rfl (by decide +kernel) (by decide +kernel) (by decide +kernel) (fun _ _ _ h => h) (Or.inl ⟨by rfl, ?_⟩) (by assumption) ?_
      rotate_left 1
      · (intro w hSw; (try dsimp only at hSw); go_simp; try (with_reducible rfl))
      try simp only [List.getElem_toArray, List.getElem_cons_zero, List.getElem_cons_succ, Act.put, List.setIfInBounds_toArray, List.set_cons_zero, List.set_cons_succ]
      refine wpAnyH_take (i := 5) (v := ?_) rfl (by decide +kernel) (by decide +kernel) (by decide +kernel) (fun _ _ _ h => h) (Or.inl ⟨by rfl, ?_⟩) (by assumption) ?_
      rotate_left 1
      · (intro w hSw; (try dsimp only at hSw); go_simp; try (with_reducible rfl))
      try simp only [List.getElem_toArray, List.getElem_cons_zero, List.getElem_cons_succ, Act.put, List.setIfInBounds_toArray, List.set_cons_zero, List.set_cons_succ]
      refine wpAnyH_take (i := 6) (v := ?_) rfl (by decide +kernel) (by decide +kernel) (by decide +kernel) (fun _ _ _ h => h) (Or.inl ⟨by rfl, ?_⟩) (by assumption) ?_
      rotate_left 1
      · (intro w hSw; (try dsimp only at hSw); go_simp; try (with_reducible rfl))
      try simp only [List.getElem_toArray, List.getElem_cons_zero, List.getElem_cons_succ, Act.put, List.setIfInBounds_toArray, List.set_cons_zero, List.set_cons_succ]
      refine wpAnyH_take (i := 7) (v := ?_) rfl (by decide +kernel) (by decide +kernel) (by decide +kernel) (fun _ _ _ h => h) (Or.inl ⟨by rfl, ?_⟩) (by assumption) ?_
      rotate_left 1
      · (intro w hSw; (try dsimp only at hSw); go_simp; try (with_reducible rfl))
      try simp only [List.getElem_toArray, List.getElem_cons_zero, List.getElem_cons_succ, Act.put, List.setIfInBounds_toArray, List.set_cons_zero, List.set_cons_succ]
      refine wpAnyH_take (i := 8) (v := ?_) rfl (by decide +kernel) (by decide +kernel) (by decide +kernel) (fun _ _ _ h => h) (Or.inl ⟨by rfl, ?_⟩) (by assumption) ?_
      rotate_left 1
      · (intro w hSw; (try dsimp only at hSw); go_simp; try (with_reducible rfl))
      try simp only [List.getElem_toArray, List.getElem_cons_zero, List.getElem_cons_succ, Act.put, List.setIfInBounds_toArray, List.set_cons_zero, List.set_cons_succ]
      refine wpAnyH_take (i := 9) (v := ?_) rfl (by decide +kernel) (by decide +kernel) (by decide +kernel) (fun _ _ _ h => h) (Or.inl ⟨by rfl, ?_⟩) (by assumption) ?_
      rotate_left 1
      · (intro w hSw; (try dsimp only at hSw); go_simp; simp only [hwr.out]; rfl)
      try simp only [List.getElem_toArray, List.getElem_cons_zero, List.getElem_cons_succ, Act.put, List.setIfInBounds_toArray, List.set_cons_zero, List.set_cons_succ]
      refine wpAnyH_take (i := 10) (v := ?_) rfl (by decide +kernel) (by decide +kernel) (by decide +kernel) (fun _ _ _ h => h) (Or.inl ⟨by rfl, ?_⟩) (by assumption) ?_
      rotate_left 1
      · (intro w hSw; (try dsimp only at hSw); go_simp; try (with_reducible rfl))
      try simp only [List.getElem_toArray, List.getElem_cons_zero, List.getElem_cons_succ, Act.put, List.setIfInBounds_toArray, List.set_cons_zero, List.set_cons_succ]
      refine wpAnyH_ready (rs := [11]) (by decide +kernel) (by simp) ?_
      refine AllReadyH.cons rfl (fun K hK => ?_) AllReadyH.nil
      have HXd := Lib.hid (HX.out.drewN 1 : DiskAt wr.drew w.heap.size p none 0 _)
      refine step_copy_rd rfl rfl elemU8 bv_one (dLen := 128) (dCap := 128) (off := k * 128) (l := imgK img many k) (k := img.drop (k * 128)) (L := imgK img many (k + 1)) rfl rfl (fun _ => rfl) HXd.out.bk (Rd.drew' HR.out.rd) (by rw [imgK_len (by rw [hlen]; exact hl)]; omega) hfirst.out ?_
      intro w2 hb2 hg2 hs2
      have h2 := HXd.out.turnKept (w' := w2) (Keep.one hg2) hb2 hli.out
      have b2 : Below w.heap.size w w2 := (Below.drew hbel).trans (HXd.out.belowK ((Keep.one hg2).mono (fun g _ e => .inr (.inl e))) hbs)
      have e02 := h2.cells.1
      change w2.cell? _ = some (.slice (some ⟨p.gk, 0, none⟩) many many) at e02
      have H2 := Lib.hid h2
      clear h2
      refine hK.out _ _ (e02) (fun hHeld => ?_)
      clear hK K
      try simp only [List.getElem_toArray, List.getElem_cons_zero, List.getElem_cons_succ, Act.put, List.setIfInBounds_toArray, List.set_cons_zero, List.set_cons_succ]
      refine wpAnyH_done (by decide +kernel) ?_ _
      have hks2 := w2.heap.size
      obtain ⟨f0, f1, f2, f3, f4⟩ := H2.out.ldS (k := k)
      have hsl : Hid (((secOf (imgK img many (k + 1)) (k : Int)).map bv).length = 128) := by show _ = _; rw [List.length_map, secOf_len (s := many) hli.out (by omega) (by omega)]
      have hsm := Lib.hid (mem_bv (l := secOf (imgK img many (k + 1)) (k : Int)))
      change w2.cell? _ = some (.slice (some ⟨p.gk, 0, none⟩) many many) at f0
      change w2.cell? _ = some (.slice (some ⟨p.gn, 0, none⟩) many many) at f1
      change w2.cell? _ = some (.slice (some ⟨p.gi, 0, none⟩) many many) at f2
      change w2.cell? _ = some (.slice (some ⟨p.gm, 0, none⟩) many many) at f3
      change w2.rangeAt p.gk (k * 128) ((secOf (imgK img many (k + 1)) (k : Int)).map bv) at f4
      obtain ⟨SV, hSV⟩ : ∃ SV, SV = (secOf (imgK img many (k + 1)) (k : Int)).map bv := ⟨_, rfl⟩
      rw [← hSV] at hsl hsm f4
      have HSV := Lib.hid hSV
      clear hSV
      go_wp2
      refine wp_region_held_drew (S := fun w' => w'.cell? ⟨p.d, 0, none⟩ = some (.slice (some ⟨p.gk, 0, none⟩) many many) ∧ w'.cell? ⟨p.d, 1, none⟩ = some (.slice (some ⟨p.gn, 0, none⟩) many many) ∧ w'.cell? ⟨p.d, 2, none⟩ = some (.slice (some ⟨p.gi, 0, none⟩) many many) ∧ w'.cell? ⟨p.d, 3, none⟩ = some (.slice (some ⟨p.gm, 0, none⟩) many many) ∧ w'.rangeAt p.gk (k * 128) SV) (by kernel_rfl) ⟨f0, f1, f2, f3, f4⟩ (fun hHeld => ?_)
      refine wpAnyH_take (i := 0) (v := ?_) rfl (by decide +kernel) (by decide +kernel) (by decide +kernel) (fun _ _ _ h => h) (Or.inl ⟨by rfl, ?_⟩) (by assumption) ?_
      rotate_left 1
      · (intro w hSw; (try dsimp only at hSw); go_simp; try (with_reducible rfl))
      try simp only [List.getElem_toArray, List.getElem_cons_zero, List.getElem_cons_succ, Act.put, List.setIfInBounds_toArray, List.set_cons_zero, List.set_cons_succ]
      refine wpAnyH_take (i := 1) (v := ?_) rfl (by decide +kernel) (by decide +kernel) (by decide +kernel) (fun _ _ _ h => h) (Or.inl ⟨by rfl, ?_⟩) (by assumption) ?_
      rotate_left 1
      · (intro w hSw; (try dsimp only at hSw); go_simp; try (with_reducible rfl))
      try simp only [List.getElem_toArray, List.getElem_cons_zero, List.getElem_cons_succ, Act.put, List.setIfInBounds_toArray, List.set_cons_zero, List.set_cons_succ]
      refine wpAnyH_take (i := 2) (v := ?_) rfl (by decide +kernel) (by decide +kernel) (by decide +kernel) (fun _ _ _ h => h) (Or.inl ⟨by rfl, ?_⟩) (by assumption) ?_
      rotate_left 1
      · (intro w hSw; (try dsimp only at hSw); go_simp; try (with_reducible rfl))
      try simp only [List.getElem_toArray, List.getElem_cons_zero, List.getElem_cons_succ, Act.put, List.setIfInBounds_toArray, List.set_cons_zero, List.set_cons_succ]
      refine wpAnyH_take (i := 3) (v := ?_) rfl (by decide +kernel) (by decide +kernel) (by decide +kernel) (fun _ _ _ h => h) (Or.inl ⟨by rfl, ?_⟩) (by assumption) ?_
      rotate_left 1
      · (intro w hSw; (try dsimp only at hSw); obtain ⟨s0, s1, s2, s3, s4⟩ := hSw; go_simp; rfl)
      try simp only [List.getElem_toArray, List.getElem_cons_zero, List.getElem_cons_succ, Act.put, List.setIfInBounds_toArray, List.set_cons_zero, List.set_cons_succ]
      refine wpAnyH_take (i := 4) (v := ?_) rfl (by decide +kernel) (by decide +kernel) (by decide +kernel) (fun _ _ _ h => h) (Or.inl ⟨by rfl, ?_⟩) (by assumption) ?_
      rotate_left 1
      · (intro w hSw; (try dsimp only at hSw); go_simp; try (with_reducible rfl))
      try simp only [List.getElem_toArray, List.getElem_cons_zero, List.getElem_cons_succ, Act.put, List.setIfInBounds_toArray, List.set_cons_zero, List.set_cons_succ]
      refine wpAnyH_take (i := 5) (v := ?_) rfl (by decide +kernel) (by decide +kernel) (by decide +kernel) (fun _ _ _ h => h) (Or.inl ⟨by rfl, ?_⟩) (by assumption) ?_
      rotate_left 1
      · (intro w hSw; (try dsimp only at hSw); go_simp; try (with_reducible rfl))
      try simp only [List.getElem_toArray, List.getElem_cons_zero, List.getElem_cons_succ, Act.put, List.setIfInBounds_toArray, List.set_cons_zero, List.set_cons_succ]
      refine wpAnyH_take (i := 6) (v := ?_) rfl (by decide +kernel) (by decide +kernel) (by decide +kernel) (fun _ _ _ h => h) (Or.inl ⟨by rfl, ?_⟩) (by assumption) ?_
      rotate_left 1
      · (intro w hSw; (try dsimp only at hSw); go_simp; try (with_reducible rfl))
      try simp only [List.getElem_toArray, List.getElem_cons_zero, List.getElem_cons_succ, Act.put, List.setIfInBounds_toArray, List.set_cons_zero, List.set_cons_succ]
      refine wpAnyH_take (i := 7) (v := ?_) rfl (by decide +kernel) (by decide +kernel) (by decide +kernel) (fun _ _ _ h => h) (Or.inl ⟨by rfl, ?_⟩) (by assumption) ?_
      rotate_left 1
      · (intro w hSw; (try dsimp only at hSw); go_simp; try (with_reducible rfl))
      try simp only [List.getElem_toArray, List.getElem_cons_zero, List.getElem_cons_succ, Act.put, List.setIfInBounds_toArray, List.set_cons_zero, List.set_cons_succ]
      refine wpAnyH_take (i := 8) (v := ?_) rfl (by decide +kernel) (by decide +kernel) (by decide +kernel) (fun _ _ _ h => h) (Or.inl ⟨by rfl, ?_⟩) (by assumption) ?_
      rotate_left 1
      · (intro w hSw; (try dsimp only at hSw); obtain ⟨s0, s1, s2, s3, s4⟩ := hSw; go_simp; rfl)
      try simp only [List.getElem_toArray, List.getElem_cons_zero, List.getElem_cons_succ, Act.put, List.setIfInBounds_toArray, List.set_cons_zero, List.set_cons_succ]
      refine wpAnyH_take (i := 9) (v := ?_) rfl (by decide +kernel) (by decide +kernel) (by decide +kernel) (fun _ _ _ h => h) (Or.inl ⟨by rfl, ?_⟩) (by assumption) ?_
      rotate_left 1
      · (intro w hSw; (try dsimp only at hSw); go_simp; try (with_reducible rfl))
      try simp only [List.getElem_toArray, List.getElem_cons_zero, List.getElem_cons_succ, Act.put, List.setIfInBounds_toArray, List.set_cons_zero, List.set_cons_succ]
      refine wpAnyH_take (i := 10) (v := ?_) rfl (by decide +kernel) (by decide +kernel) (by decide +kernel) (fun _ _ _ h => h) (Or.inl ⟨by rfl, ?_⟩) (by assumption) ?_
      rotate_left 1
      · (intro w hSw; (try dsimp only at hSw); go_simp; try (with_reducible rfl))
      try simp only [List.getElem_toArray, List.getElem_cons_zero, List.getElem_cons_succ, Act.put, List.setIfInBounds_toArray, List.set_cons_zero, List.set_cons_succ]
      refine wpAnyH_take (i := 11) (v := ?_) rfl (by decide +kernel) (by decide +kernel) (by decide +kernel) (fun _ _ _ h => h) (Or.inl ⟨by rfl, ?_⟩) (by assumption) ?_
      rotate_left 1
      · (intro w hSw; (try dsimp only at hSw); go_simp; try (with_reducible rfl))
      try simp only [List.getElem_toArray, List.getElem_cons_zero, List.getElem_cons_succ, Act.put, List.setIfInBounds_toArray, List.set_cons_zero, List.set_cons_succ]
      refine wpAnyH_take (i := 12) (v := ?_) rfl (by decide +kernel) (by decide +kernel) (by decide +kernel) (fun _ _ _ h => h) (Or.inl ⟨by rfl, ?_⟩) (by assumption) ?_
      rotate_left 1
      · (intro w hSw; (try dsimp only at hSw); go_simp; try (with_reducible rfl))
      try simp only [List.getElem_toArray, List.getElem_cons_zero, List.getElem_cons_succ, Act.put, List.setIfInBounds_toArray, List.set_cons_zero, List.set_cons_succ]
      refine wpAnyH_take (i := 13) (v := ?_) rfl (by decide +kernel) (by decide +kernel) (by decide +kernel) (fun _ _ _ h => h) (Or.inl ⟨by rfl, ?_⟩) (by assumption) ?_
      rotate_left 1
      · (intro w hSw; (try dsimp only at hSw); obtain ⟨s0, s1, s2, s3, s4⟩ := hSw; go_simp; rfl)
      try simp only [List.getElem_toArray, List.getElem_cons_zero, List.getElem_cons_succ, Act.put, List.setIfInBounds_toArray, List.set_cons_zero, List.set_cons_succ]
      refine wpAnyH_take (i := 14) (v := ?_) rfl (by decide +kernel) (by decide +kernel) (by decide +kernel) (fun _ _ _ h => h) (Or.inl ⟨by rfl, ?_⟩) (by assumption) ?_
      rotate_left 1
      · (intro w hSw; (try dsimp only at hSw); go_simp; try (with_reducible rfl))
      try simp only [List.getElem_toArray, List.getElem_cons_zero, List.getElem_cons_succ, Act.put, List.setIfInBounds_toArray, List.set_cons_zero, List.set_cons_succ]
      refine wpAnyH_take (i := 15) (v := ?_) rfl (by decide +kernel) (by decide +kernel) (by decide +kernel) (fun _ _ _ h => h) (Or.inl ⟨by rfl, ?_⟩) (by assumption) ?_
      rotate_left 1
      · (intro w hSw; (try dsimp only at hSw); go_simp; try (with_reducible rfl))
      try simp only [List.getElem_toArray, List.getElem_cons_zero, List.getElem_cons_succ, Act.put, List.setIfInBounds_toArray, List.set_cons_zero, List.set_cons_succ]
      refine wpAnyH_take (i := 16) (v := ?_) rfl (by decide +kernel) (by decide +kernel) (by decide +kernel) (fun _ _ _ h => h) (Or.inl ⟨by rfl, ?_⟩) (by assumption) ?_
      rotate_left 1
      · (intro w hSw; (try dsimp only at hSw); go_simp; try (with_reducible rfl))
      try simp only [List.getElem_toArray, List.getElem_cons_zero, List.getElem_cons_succ, Act.put, List.setIfInBounds_toArray, List.set_cons_zero, List.set_cons_succ]
      refine wpAnyH_take (i := 17) (v := ?_) rfl (by decide +kernel) (by decide +kernel) (by decide +kernel) (fun _ _ _ h => h) (Or.inl ⟨by rfl, ?_⟩) (by assumption) ?_
      rotate_left 1
      · (intro w hSw; (try dsimp only at hSw); go_simp; try (with_reducible rfl))
      try simp only [List.getElem_toArray, List.getElem_cons_zero, List.getElem_cons_succ, Act.put, List.setIfInBounds_toArray, List.set_cons_zero, List.set_cons_succ]
      refine wpAnyH_take (i := 18) (v := ?_) rfl (by decide +kernel) (by decide +kernel) (by decide +kernel) (fun _ _ _ h => h) (Or.inl ⟨by rfl, ?_⟩) (by assumption) ?_
      rotate_left 1
      · (intro w hSw; (try dsimp only at hSw); obtain ⟨s0, s1, s2, s3, s4⟩ := hSw; go_simp; rfl)
      try simp only [List.getElem_toArray, List.getElem_cons_zero, List.getElem_cons_succ, Act.put, List.setIfInBounds_toArray, List.set_cons_zero, List.set_cons_succ]
      refine wpAnyH_take (i := 19) (v := ?_) rfl (by decide +kernel) (by decide +kernel) (by decide +kernel) (fun _ _ _ h => h) (Or.inl ⟨by rfl, ?_⟩) (by assumption) ?_
      rotate_left 1
      · (intro w hSw; (try dsimp only at hSw); go_simp; try (with_reducible rfl))
      try simp only [List.getElem_toArray, List.getElem_cons_zero, List.getElem_cons_succ, Act.put, List.setIfInBounds_toArray, List.set_cons_zero, List.set_cons_succ]
      refine wpAnyH_take (i := 20) (v := ?_) rfl (by decide +kernel) (by decide +kernel) (by decide +kernel) (fun _ _ _ h => h) (Or.inl ⟨by rfl, ?_⟩) (by assumption) ?_
      rotate_left 1
      · (intro w hSw; (try dsimp only at hSw); go_simp; try (with_reducible rfl))
      try simp only [List.getElem_toArray, List.getElem_cons_zero, List.getElem_cons_succ, Act.put, List.setIfInBounds_toArray, List.set_cons_zero, List.set_cons_succ]
      refine wpAnyH_take (i := 21) (v := _) rfl (by decide +kernel) (by decide +kernel) (by decide +kernel) (fun _ _ _ h => h) (yieldsIf_load_mid (by rfl) _ _ rfl _ _ rfl SV _ (fun _ h => h.2.2.2.2) Try.underlying128 rfl (by rw [hsl.out]; exact Hi.out)) (by assumption) ?_
      try simp only [List.getElem_toArray, List.getElem_cons_zero, List.getElem_cons_succ, Act.put, List.setIfInBounds_toArray, List.set_cons_zero, List.set_cons_succ]
      refine wpAnyH_take (i := 22) (v := ?_) rfl (by decide +kernel) (by decide +kernel) (by decide +kernel) (fun _ _ _ h => h) (Or.inl ⟨by rfl, ?_⟩) (by assumption) ?_
      rotate_left 1
      · (intro w hSw; (try dsimp only at hSw); go_simp; try (with_reducible rfl))
      try simp only [List.getElem_toArray, List.getElem_cons_zero, List.getElem_cons_succ, Act.put, List.setIfInBounds_toArray, List.set_cons_zero, List.set_cons_succ]
      refine wpAnyH_ready (rs := [23]) (by decide +kernel) (by simp) ?_
      refine AllReadyH.cons rfl (fun K hK => ?_) AllReadyH.nil
      rw [if_pos (by rfl)]
      refine wp_store_mid 128 (.tmp 74) (.tmp 73) rfl p.gn (k * 128) SV.toArray rfl rfl (by rw [List.size_toArray, hsl.out]; exact (H2.out.drewN 1).bn.there (k * 128) 128 (by rw [List.length_map]; show k * 128 + 128 ≤ (imgK img many k).length; rw [imgK_len (by rw [hlen]; exact hl)]; omega)) (by rw [List.size_toArray, hsl.out]; exact Hi.out) (all_oneCell_toArray hsm.out) ?_
      have hD3 : DiskAt w2.drew w.heap.size p none 0 _ := H2.out.drewN 1
      have hbn3 := Blk.setCells SV (k * 128) w2.drew _ hD3.bn (by rw [List.length_map, hsl.out]; show k * 128 + 128 ≤ (imgK img many k).length; rw [imgK_len (by rw [hlen]; exact hl)]; omega)
      have kn3 : Keep (· = p.gn) w2.drew (w2.drew.setCells p.gn (k * 128) SV) := Keep.one (grown_setCells _ _ _ _)
      rw [HSV.out] at hbn3
      have hspl : splice (((imgK img many k)).map bv) (k * 128) ((secOf (imgK img many (k + 1)) (k : Int)).map bv) = (imgK img many (k + 1)).map bv := by rw [splice_map, hsec.out]
      have h3 := DiskAt.turnNow (w' := w2.drew.setCells p.gn (k * 128) SV) (l := imgK img many (k + 1)) hD3 kn3 (by rw [HSV.out]; unfold BlkB; rw [← hspl]; exact hbn3) hli.out
      obtain ⟨f0, f1, f2, f3, f4⟩ := h3.ldS (k := k)
      change (w2.drew.setCells p.gn (k * 128) SV).rangeAt p.gk (k * 128) ((secOf (imgK img many (k + 1)) (k : Int)).map bv) at f4
      rw [← HSV.out] at f4
      have b3 : Below w.heap.size w (w2.drew.setCells p.gn (k * 128) SV) := (Below.drew b2).trans (hD3.belowK (kn3.mono (fun g _ e => .inr (.inr (.inl e)))) (show w.heap.size ≤ w2.heap.size from b2.size))
      have H3 := Lib.hid h3
      have B3 := Lib.hid b3
      simp only [List.toList_toArray]
      clear h3 b3 hbn3 hspl
      generalize w2.drew.setCells p.gn (k * 128) SV = w3 at *
      refine hK.out _ _ (⟨f0, f1, f2, f3, f4⟩) (fun hHeld => ?_)
      clear hK K
      try simp only [List.getElem_toArray, List.getElem_cons_zero, List.getElem_cons_succ, Act.put, List.setIfInBounds_toArray, List.set_cons_zero, List.set_cons_succ]
      refine wpAnyH_take (i := 24) (v := ?_) rfl (by decide +kernel) (by decide +kernel) (by decide +kernel) (fun _ _ _ h => h) (Or.inl ⟨by rfl, ?_⟩) (by assumption) ?_
      rotate_left 1
      · (intro w hSw; (try dsimp only at hSw); go_simp; try (with_reducible rfl))
      try simp only [List.getElem_toArray, List.getElem_cons_zero, List.getElem_cons_succ, Act.put, List.setIfInBounds_toArray, List.set_cons_zero, List.set_cons_succ]
      refine wpAnyH_ready (rs := [25]) (by decide +kernel) (by simp) ?_
      refine AllReadyH.cons rfl (fun K hK => ?_) AllReadyH.nil
      have ei := boolCell H3.out.bi k (show k < (trueK many k).length by rw [trueK_len (by omega)]; omega)
      have fi := H3.out.bi.frozen k
      go_simp
      have h4 := H3.out.setIn' k true (L := trueK many (k + 1)) htr.out
      obtain ⟨f0, f1, f2, f3, f4⟩ := h4.ldS (k := k)
      change (w3.setCell ⟨p.gi, k, none⟩ (.bool true)).rangeAt p.gk (k * 128) ((secOf (imgK img many (k + 1)) (k : Int)).map bv) at f4
      rw [← HSV.out] at f4
      have H4 := Lib.hid h4
      have hg0 := H3.out.bs p.gi (.inr (.inr (.inr (.inl rfl))))
      have B4 := Lib.hid (Below.setCell B3.out (p := ⟨p.gi, k, none⟩) hg0 (.bool true))
      clear h4
      refine hK.out _ _ (⟨f0, f1, f2, f3, f4⟩) (fun hHeld => ?_)
      clear hK K
      try simp only [List.getElem_toArray, List.getElem_cons_zero, List.getElem_cons_succ, Act.put, List.setIfInBounds_toArray, List.set_cons_zero, List.set_cons_succ]
      refine wpAnyH_take (i := 26) (v := ?_) rfl (by decide +kernel) (by decide +kernel) (by decide +kernel) (fun _ _ _ h => h) (Or.inl ⟨by rfl, ?_⟩) (by assumption) ?_
      rotate_left 1
      · (intro w hSw; (try dsimp only at hSw); go_simp; try (with_reducible rfl))
      try simp only [List.getElem_toArray, List.getElem_cons_zero, List.getElem_cons_succ, Act.put, List.setIfInBounds_toArray, List.set_cons_zero, List.set_cons_succ]
      refine wpAnyH_ready (rs := [27]) (by decide +kernel) (by simp) ?_
      refine AllReadyH.cons rfl (fun K hK => ?_) AllReadyH.nil
      have em := boolCell H4.out.bm k (show k < (trueK many k).length by rw [trueK_len (by omega)]; omega)
      have fm := H4.out.bm.frozen k
      go_simp
      have h5 := H4.out.setMight' k true (L := trueK many (k + 1)) htr.out
      obtain ⟨f0, f1, f2, f3, f4⟩ := h5.ldS (k := k)
      change ((w3.setCell ⟨p.gi, k, none⟩ (.bool true)).setCell ⟨p.gm, k, none⟩ (.bool true)).rangeAt p.gk (k * 128) ((secOf (imgK img many (k + 1)) (k : Int)).map bv) at f4
      rw [← HSV.out] at f4
      have h6 : DiskAt ((w3.setCell ⟨p.gi, k, none⟩ (.bool true)).setCell ⟨p.gm, k, none⟩ (.bool true)) w.heap.size p none 0 (loadD many room img (k + 1)) := h5
      have H6 := Lib.hid h6
      have hg1 := H3.out.bs p.gm (.inr (.inr (.inr (.inr (.inl rfl)))))
      have B6 := Lib.hid (Below.setCell B4.out (p := ⟨p.gm, k, none⟩) hg1 (.bool true))
      clear h5 h6
      refine hK.out _ _ (⟨f0, f1, f2, f3, f4⟩) (fun hHeld => ?_)
      clear hK K
      try simp only [List.getElem_toArray, List.getElem_cons_zero, List.getElem_cons_succ, Act.put, List.setIfInBounds_toArray, List.set_cons_zero, List.set_cons_succ]
      refine wpAnyH_done (by decide +kernel) ?_ _
      go_wp2
      go_roundw
      case rel => first
        | exact ⟨k + 1, by omega, by go_num, H6.out, B6.out⟩
        | ((repeat apply Exists.intro); exact ⟨⟨k + 1, by omega, by go_num, H6.out, B6.out⟩, rfl⟩)
      case measure => simp [intOf]; omega
    · have hk9 : k = N := by omega
      subst hk9
      have HX := Lib.hid hX
      clear hX hus
      go_wp2
      go_ret2
      exact ⟨p, rfl, HX.out.s, hbel⟩
set_option maxRecDepth 100000 in
theorem load_arg (B : Option Addr) (n d : Nat) (many room : Int) (w : World) (h : many < 1 ∨ 4096 < many ∨ room < 0 ∨ many < room ∨ many * 128 < n) (hn : n ≤ maxLen) (hmx : many ≤ 9223372036854775807) :
    Calls Try.prog 45 #[.slice B n d, .int .i64 many, .int .i64 room] w fun e w' => e = .returned (.tuple #[.pointer none, .int .i64 2]) ∧ Below w.heap.size w w' := by
  by_cases h1 : many < 1 ∨ 4096 < many ∨ room < 0 ∨ many < room
  · have hnew := new_no many room w h1
    clear h h1
    go_enter Try.func45, Try.ntmps45
    go_wp2_with (first
      | (go_at_call 78; (with_reducible refine (hnew).mono ?_); rintro e w1 ⟨rfl, rfl⟩)
      | fail "no arm")
    go_ret2
    exact ⟨rfl, Below.refl _ _⟩
  · obtain ⟨N, rfl⟩ : ∃ k : Nat, many = (k : Int) := ⟨many.toNat, by omega⟩
    have hnew := new_ok N room w (by omega) (by omega) (by omega) (by omega)
    have hb : (N : Int) * 128 < n := by omega
    have hN : N ≤ 4096 := by omega
    clear h h1
    unfold maxLen at hn
    go_enter Try.func45, Try.ntmps45
    go_wp2_with (first
      | ((go_at_call 78; (with_reducible refine (hnew).mono ?_); rintro e w1 ⟨p, rfl, hd1, hb1⟩); clear hd1)
      | fail "no arm")
    go_ret2
    exact ⟨rfl, hb1⟩
set_option maxRecDepth 100000 in
theorem load_full (B : Option Addr) (n d : Nat) (many : Nat) (room : Int) (w : World) (h0 : 1 ≤ many) (h1 : many ≤ 4096) (r0 : 0 ≤ room) (r1 : room ≤ many) (hl : n ≤ many * 128) (hu : room < ((n + 127) / 128 : Nat)) :
    Calls Try.prog 45 #[.slice B n d, .int .i64 (many : Int), .int .i64 room] w fun e w' => e = .returned (.tuple #[.pointer none, .int .i64 52]) ∧ Below w.heap.size w w' := by
  have hnew := new_ok many room w h0 h1 r0 r1
  have hq : room < ((n : Int) + 127) / 128 := by omega
  go_enter Try.func45, Try.ntmps45
  go_wp2_with (first
    | ((go_at_call 78; (with_reducible refine (hnew).mono ?_); rintro e w1 ⟨p, rfl, hd1, hb1⟩); clear hd1)
    | fail "no arm")
  go_ret2
  exact ⟨rfl, hb1⟩
end Go.Proofs.Ytalmdccgpigppaa
