/- DiskDoes: what is done to both disks. -/
import Derived.Test.YtninidpbchcliaaBothA
import Derived.Deep.DeepCutAuto
namespace Go.Proofs.Ytninidpbchcliaa
open Go.RowKit
set_option linter.unusedVariables false
set_option linter.unusedSimpArgs false
/-- What is done. -/
def stepD (D : DiskV) (x : DoV) : DiskV :=
  if x.kind = 1 then (writeV D x.n (fullL x.b)).1 else if x.kind = 2 then (flushV D).1 else if x.kind = 3 then (readV D x.n).1 else if x.kind = 4 then { D with cut := max x.n (-1) } else if x.kind = 5 then crashV D x.b else D
def OnePost (w : World) (base : Nat) (p : DiskP) (q : RDiskP) (D : DiskV) (e : Ending) (w' : World) : Prop := e = .returned (.bool true) ∧ Both w' base p q D ∧ Below base w w'
section
variable {w w' : World} {base : Nat} {p : DiskP} {q : RDiskP} {D : DiskV}
set_option maxRecDepth 100000 in
set_option maxHeartbeats 8000000 in
theorem one6_two (h : Both w base p q D) (hs : base ≤ w.heap.size) (x : DoV) (B : Option Addr) (m d : Nat) (hk : x.kind = 2) : Calls Try.prog 33 #[.pointer (some ⟨p.d, 0, none⟩), .pointer (some ⟨q.d, 0, none⟩), .agg #[.int .i64 x.kind, .int .i64 x.n, .slice B m d]] w (OnePost w base p q (flushV D).1) := by
  rw [hk]
  have bA : Below w.heap.size w (w.alloc (.cells #[.int .i64 2, .int .i64 x.n, .slice B m d] 31)) := (Below.refl _ _).alloc (Nat.le_refl _) _
  have sA : base ≤ (w.alloc (.cells #[.int .i64 2, .int .i64 x.n, .slice B m d] 31)).heap.size := by have := bA.size; omega
  have D1 := Lib.hid (h.d.below bA)
  have R1 := Lib.hid (h.r.below bA)
  have BA := Lib.hid bA
  have n1 := h.n1
  have n2 := h.n2
  have c1 := s_flush D1.out sA
  have c2 := fun {w : World} (hr : RDiskS w base q D) (hs : base ≤ w.heap.size) => r_flush hr hs
  generalize flushV D = R at *
  obtain ⟨D', z⟩ := R
  clear h bA hk
  go_enter Try.func33, Try.ntmps33
  go_wp2_with (first
    | ((go_at_call 20; (with_reducible refine (c1).mono ?_); rintro e w2 ⟨rfl, d2, st2⟩); have D2 := Lib.hid d2; have R2 := Lib.hid (R1.out.step D1.out st2 n1 n2 (by decide) (by decide)); have B2 := Lib.hid ((BA.out.mono hs).trans st2.bel); have s2 := st2.size; clear d2 st2)
    | ((go_at_call 74; (with_reducible refine (c2 R2.out (by omega)).mono ?_); rintro e w3 ⟨rfl, r3, k3⟩); have R3 := Lib.hid r3; have D3 := Lib.hid (D2.out.rstep R2.out k3 n1 n2); have B3 := Lib.hid (B2.out.trans k3.bel); clear r3 k3)
    | fail "no arm")
  go_ret
  exact ⟨by first | rfl | exact ret_bool (by simp), ⟨D3.out, R3.out, n1, n2⟩, B3.out⟩
set_option maxRecDepth 100000 in
set_option maxHeartbeats 8000000 in
theorem one6_four (h : Both w base p q D) (hs : base ≤ w.heap.size) (x : DoV) (B : Option Addr) (m d : Nat) (hk : x.kind = 4) (hn : x.n ≤ 9223372036854775807) : Calls Try.prog 33 #[.pointer (some ⟨p.d, 0, none⟩), .pointer (some ⟨q.d, 0, none⟩), .agg #[.int .i64 x.kind, .int .i64 x.n, .slice B m d]] w (OnePost w base p q { D with cut := max x.n (-1) }) := by
  rw [hk]
  have bA : Below w.heap.size w (w.alloc (.cells #[.int .i64 4, .int .i64 x.n, .slice B m d] 31)) := (Below.refl _ _).alloc (Nat.le_refl _) _
  have sA : base ≤ (w.alloc (.cells #[.int .i64 4, .int .i64 x.n, .slice B m d] 31)).heap.size := by have := bA.size; omega
  have HX : Blk (w.alloc (.cells #[.int .i64 4, .int .i64 x.n, .slice B m d] 31)) w.heap.size 31 [.int .i64 4, .int .i64 x.n, .slice B m d] := Blk.top _ rfl rfl
  have X1 := Lib.hid HX
  have D1 := Lib.hid (h.d.below bA)
  have R1 := Lib.hid (h.r.below bA)
  have BA := Lib.hid bA
  have n1 := h.n1
  have n2 := h.n2
  have c1 := s_cut D1.out sA x.n hn
  have c2 := fun {w : World} (hr : RDiskS w base q D) (hs : base ≤ w.heap.size) => r_cut hr hs x.n hn
  generalize ({ D with cut := max x.n (-1) } : DiskV) = D' at *
  clear h bA hk HX
  go_enter Try.func33, Try.ntmps33
  go_wp2_with (first
    | ((go_at_call 27; (with_reducible refine (c1).mono ?_); rintro e w2 ⟨rfl, d2, st2⟩); have D2 := Lib.hid d2; have R2 := Lib.hid (R1.out.step D1.out st2 n1 n2 (by decide) (by decide)); have B2 := Lib.hid ((BA.out.mono hs).trans st2.bel); have y2 : w2.cell? ⟨w.heap.size, 1, none⟩ = some (.int .i64 x.n) := (D1.out.blk X1.out st2.tch (by decide)).cell 1; have s2 := st2.size; clear d2 st2)
    | ((go_at_call 76; (with_reducible refine (c2 R2.out (by omega)).mono ?_); rintro e w3 ⟨rfl, r3, k3⟩); have R3 := Lib.hid r3; have D3 := Lib.hid (D2.out.rstep R2.out k3 n1 n2); have B3 := Lib.hid (B2.out.trans k3.bel); clear r3 k3)
    | fail "no arm")
  go_ret
  exact ⟨rfl, ⟨D3.out, R3.out, n1, n2⟩, B3.out⟩
set_option maxRecDepth 100000 in
set_option maxHeartbeats 8000000 in
theorem one6_five (h : Both w base p q D) (hs : base ≤ w.heap.size) (x : DoV) (B : Option Addr) (m d : Nat) (hk : x.kind = 5) (hr : RB w B m x.b) (hB : 0 < m → ∀ g, B.map (·.block) = some g → g < base) (hm : m ≤ maxLen) : Calls Try.prog 33 #[.pointer (some ⟨p.d, 0, none⟩), .pointer (some ⟨q.d, 0, none⟩), .agg #[.int .i64 x.kind, .int .i64 x.n, .slice B m d]] w (OnePost w base p q (crashV D x.b)) := by
  rw [hk]
  have bA : Below w.heap.size w (w.alloc (.cells #[.int .i64 5, .int .i64 x.n, .slice B m d] 31)) := (Below.refl _ _).alloc (Nat.le_refl _) _
  have sA : base ≤ (w.alloc (.cells #[.int .i64 5, .int .i64 x.n, .slice B m d] 31)).heap.size := by have := bA.size; omega
  have HX : Blk (w.alloc (.cells #[.int .i64 5, .int .i64 x.n, .slice B m d] 31)) w.heap.size 31 [.int .i64 5, .int .i64 x.n, .slice B m d] := Blk.top _ rfl rfl
  have X1 := Lib.hid HX
  have D1 := Lib.hid (h.d.below bA)
  have R1 := Lib.hid (h.r.below bA)
  have BA := Lib.hid bA
  have n1 := h.n1
  have n2 := h.n2
  have c1 := s_crash D1.out sA B m d x.b (hr.below bA (Nat.le_refl _)) hB hm
  have low : ∀ {W : World}, Below base w W → RB W B m x.b := fun {W} hb => ⟨hr.1, fun h0 => (hr.2.sameB hb.size (fun b e _ => hb.block b (hB h0 b e))) h0⟩
  have c2 := fun {w' : World} (hr : RDiskS w' base q D) (hs : base ≤ w'.heap.size) (hb : Below base w w') => r_crash hr hs B m d x.b (low hb) hB hm
  generalize crashV D x.b = D' at *
  clear h bA hk HX hr hB low
  go_enter Try.func33, Try.ntmps33
  go_wp2_with (first
    | ((go_at_call 22; (with_reducible refine (c1).mono ?_); rintro e w2 ⟨rfl, d2, st2⟩); have D2 := Lib.hid d2; have R2 := Lib.hid (R1.out.step D1.out st2 n1 n2 (by decide) (by decide)); have B2 := Lib.hid ((BA.out.mono hs).trans st2.bel); have y2 : w2.cell? ⟨w.heap.size, 2, none⟩ = some (.slice B m d) := (D1.out.blk X1.out st2.tch (by decide)).cell 2; have s2 := st2.size; clear d2 st2)
    | ((go_at_call 77; (with_reducible refine (c2 R2.out (by omega) B2.out).mono ?_); rintro e w3 ⟨rfl, r3, k3⟩); have R3 := Lib.hid r3; have D3 := Lib.hid (D2.out.rstep R2.out k3 n1 n2); have B3 := Lib.hid (B2.out.trans k3.bel); clear r3 k3)
    | fail "no arm")
  go_ret
  exact ⟨rfl, ⟨D3.out, R3.out, n1, n2⟩, B3.out⟩
set_option maxRecDepth 100000 in
set_option maxHeartbeats 8000000 in
theorem one6_else (h : Both w base p q D) (hs : base ≤ w.heap.size) (x : DoV) (B : Option Addr) (m d : Nat) (h1 : x.kind ≠ 1) (h2 : x.kind ≠ 2) (h3 : x.kind ≠ 3) (h4 : x.kind ≠ 4) (h5 : x.kind ≠ 5) : Calls Try.prog 33 #[.pointer (some ⟨p.d, 0, none⟩), .pointer (some ⟨q.d, 0, none⟩), .agg #[.int .i64 x.kind, .int .i64 x.n, .slice B m d]] w (OnePost w base p q D) := by
  have b1 : (x.kind == 1) = false := by rw [beq_eq_false_iff_ne]; exact h1
  have b2 : (x.kind == 2) = false := by rw [beq_eq_false_iff_ne]; exact h2
  have b3 : (x.kind == 3) = false := by rw [beq_eq_false_iff_ne]; exact h3
  have b4 : (x.kind == 4) = false := by rw [beq_eq_false_iff_ne]; exact h4
  have b5 : (x.kind == 5) = false := by rw [beq_eq_false_iff_ne]; exact h5
  have bA : Below w.heap.size w (w.alloc (.cells #[.int .i64 x.kind, .int .i64 x.n, .slice B m d] 31)) := (Below.refl _ _).alloc (Nat.le_refl _) _
  have D1 := Lib.hid (h.d.below bA)
  have R1 := Lib.hid (h.r.below bA)
  have BA := Lib.hid bA
  have n1 := h.n1
  have n2 := h.n2
  clear h h1 h2 h3 h4 h5 bA
  go_enter Try.func33, Try.ntmps33
  go_wp2
  go_ret
  exact ⟨rfl, ⟨D1.out, R1.out, n1, n2⟩, BA.out.mono hs⟩
end
end Go.Proofs.Ytninidpbchcliaa
