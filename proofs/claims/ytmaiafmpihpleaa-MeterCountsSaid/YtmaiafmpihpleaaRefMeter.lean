/- The reference's counts: a list behind a pointer. -/
import Derived.Test.YtmaiafmpihpleaaMeterB
import Derived.Test.YtmaiafmpihpleaaRegion
namespace Go.Proofs.Ytmaiafmpihpleaa
open Go.RowKit

def RMeterAt (w : World) (gl g : Nat) (l : List Int) : Prop := l.length = 6 ∧ Blk w g 55 [.slice (some ⟨gl, 0, none⟩) 6 6] ∧ Blk w gl 3 (l.map iv)
section
variable {w w' : World} {gl g : Nat} {l : List Int}
theorem RMeterAt.alloc (h : RMeterAt w gl g l) (o : Obj) : RMeterAt (w.alloc o) gl g l := ⟨h.1, h.2.1.alloc o, h.2.2.alloc o⟩
theorem RMeterAt.grown {row : Option Nat} (h : RMeterAt w gl g l) (hb : w.grownBy w' row) (h1 : row ≠ some gl) (h2 : row ≠ some g) : RMeterAt w' gl g l := ⟨h.1, h.2.1.grown hb h2, h.2.2.grown hb h1⟩
theorem RMeterAt.cell (h : RMeterAt w gl g l) (k : Nat) (hk : k < 6) : w.cell? ⟨gl, k, none⟩ = some (.int .i64 (mGet l ((k : Int) + 1))) := by
  rw [h.2.2.cell]
  have : k < l.length := by rw [h.1]; exact hk
  unfold mGet iv
  rw [show ((k : Int) + 1 - 1).toNat = k from by omega]
  simp [List.getD_eq_getElem?_getD, this]
theorem RMeterAt.put (h : RMeterAt w gl g l) (hne : gl ≠ g) (k : Nat) (x : Int) : RMeterAt (w.setCell ⟨gl, k, none⟩ (.int .i64 x)) gl g (mPut l ((k : Int) + 1) x) := by
  refine ⟨by rw [mPut_len]; exact h.1, h.2.1.far (fun e => hne e.symm) _, ?_⟩
  unfold mPut
  rw [show ((k : Int) + 1 - 1).toNat = k from by omega, List.map_set]
  exact h.2.2.set_ k _
theorem RMeterAt.drew (h : RMeterAt w gl g l) : RMeterAt w.drew gl g l := h
end
theorem grown_drew {w w' : World} {row : Option Nat} (h : w.grownBy w' row) : w.grownBy w'.drew row := ⟨h.os, h.tape, h.output, h.size, h.block⟩

theorem refnew_any (w : World) : Calls Try.prog 29 #[] w fun e w' => e = .returned (.pointer (some ⟨w.heap.size + 1, 0, none⟩)) ∧ RMeterAt w' w.heap.size (w.heap.size + 1) [0, 0, 0, 0, 0, 0] ∧ Below w.heap.size w w' ∧ w'.heap.size = w.heap.size + 2 := by
  go_enter Try.func29, Try.ntmps29
  go_wp2
  go_ret
  exact ⟨rfl, ⟨rfl, (by (repeat' (first | (with_reducible assumption) | (with_reducible refine Blk.top _ (by first | rfl | omega | (simp; done) | (simp; omega)) rfl) | (with_reducible refine Blk.alloc ?_ _) | (with_reducible refine Blk.drew ?_) | (with_reducible refine Blk.drewN ?_ _) | (with_reducible refine Blk.far ?_ (by first | omega | (simp; done) | (simp; omega)) _)))), (by (repeat' (first | (with_reducible assumption) | (with_reducible refine Blk.top _ (by first | rfl | omega | (simp; done) | (simp; omega)) rfl) | (with_reducible refine Blk.alloc ?_ _) | (with_reducible refine Blk.drew ?_) | (with_reducible refine Blk.drewN ?_ _) | (with_reducible refine Blk.far ?_ (by first | omega | (simp; done) | (simp; omega)) _))))⟩, (by (repeat' (first | (with_reducible exact Below.refl _ _) | (with_reducible assumption) | (with_reducible refine Below.drew ?_) | (with_reducible refine below_drewN ?_ _) | (with_reducible refine Below.alloc ?_ ?_ _) | (with_reducible refine Below.setCell ?_ ?_ _) | omega | (simp; done) | (simp; omega)))), by simp⟩
theorem refhas_any (gl g : Nat) (l : List Int) (kind : Int) (w : World) (hm : RMeterAt w gl g l) : Calls Try.prog 73 #[.pointer (some ⟨g, 0, none⟩), .int .i64 kind] w fun e w' => e = .returned (.bool (inK kind)) ∧ w = w' := by
  have c := hm.2.1.cell 0
  have c0 : w.cell? ⟨g, 0, none⟩ = some (.slice (some ⟨gl, 0, none⟩) 6 6) := c
  clear c
  have hq : Hid (inK kind = decide (1 ≤ kind ∧ kind ≤ 6)) := rfl
  generalize inK kind = q at *
  by_cases h1 : 1 ≤ kind
  · go_enter Try.func73, Try.ntmps73
    go_wp2
    go_ret
    exact ⟨ret_bool (by rw [hq.out]; simp [h1]), rfl⟩
  · go_enter Try.func73, Try.ntmps73
    go_wp2
    go_ret
    exact ⟨ret_bool (by rw [hq.out]; simp; omega), rfl⟩
theorem refcount_any (gl g : Nat) (l : List Int) (kind : Int) (w : World) (hm : RMeterAt w gl g l) :
    Calls Try.prog 31 #[.pointer (some ⟨g, 0, none⟩), .int .i64 kind] w fun e w' => e = .returned (.int .i64 (mCnt l kind)) ∧ w = w' := by
  have hhas := Lib.hid (refhas_any gl g l kind w hm)
  unfold mCnt
  cases h : inK kind with
  | false =>
    rw [h] at hhas
    simp only [Bool.false_eq_true, if_false]
    go_enter Try.func31, Try.ntmps31
    go_wp2_with (go_at_call 73; (with_reducible refine (hhas.out).mono ?_); rintro e w1 ⟨rfl, rfl⟩)
    go_ret
    exact ⟨rfl, rfl⟩
  | true =>
    rw [h] at hhas
    simp only [if_true]
    have hk := inK_yes h
    obtain ⟨k, rfl⟩ : ∃ k : Nat, kind = (k : Int) + 1 := ⟨(kind - 1).toNat, by omega⟩
    have c0 : w.cell? ⟨g, 0, none⟩ = some (.slice (some ⟨gl, 0, none⟩) 6 6) := hm.2.1.cell 0
    have hc := hm.cell k (by omega)
    have hk6 : (k : Int) < 6 := by omega
    generalize mGet l ((k : Int) + 1) = x at *
    go_enter Try.func31, Try.ntmps31
    go_wp2_with (go_at_call 73; (with_reducible refine (hhas.out).mono ?_); rintro e w1 ⟨rfl, rfl⟩)
    go_ret
    exact ⟨rfl, rfl⟩
theorem reftake_any (gl g : Nat) (l : List Int) (kind : Int) (w : World) (hm : RMeterAt w gl g l) (hne : gl ≠ g) :
    Calls Try.prog 32 #[.pointer (some ⟨g, 0, none⟩), .int .i64 kind] w fun e w' => e = .returned (.int .i64 (mCnt l kind)) ∧ RMeterAt w' gl g (mTake l kind) ∧ w.grownBy w' (some gl) ∧ w'.heap.size = w.heap.size := by
  have hhas := Lib.hid (refhas_any gl g l kind w hm)
  have hcnt := Lib.hid (refcount_any gl g l kind w hm)
  generalize mCnt l kind = x at *
  unfold mTake
  cases h : inK kind with
  | false =>
    rw [h] at hhas
    simp only [Bool.false_eq_true, if_false]
    go_enter Try.func32, Try.ntmps32
    go_wp2_with (first
      | (go_at_call 73; (with_reducible refine (hhas.out).mono ?_); rintro e w1 ⟨rfl, rfl⟩)
      | (go_at_call 31; (with_reducible refine (hcnt.out).mono ?_); rintro e w1 ⟨rfl, rfl⟩))
    go_ret
    exact ⟨rfl, hm, World.grownBy.refl _ _, rfl⟩
  | true =>
    rw [h] at hhas
    simp only [if_true]
    have hk := inK_yes h
    obtain ⟨k, rfl⟩ : ∃ k : Nat, kind = (k : Int) + 1 := ⟨(kind - 1).toNat, by omega⟩
    have c0 : w.cell? ⟨g, 0, none⟩ = some (.slice (some ⟨gl, 0, none⟩) 6 6) := hm.2.1.cell 0
    have hc := hm.cell k (by omega)
    have hf := hm.2.2.frozen k
    have hk6 : (k : Int) < 6 := by omega
    have hput := Lib.hid (hm.put hne k 0)
    go_enter Try.func32, Try.ntmps32
    go_wp2_with (first
      | (go_at_call 73; (with_reducible refine (hhas.out).mono ?_); rintro e w1 ⟨rfl, rfl⟩)
      | (go_at_call 31; (with_reducible refine (hcnt.out).mono ?_); rintro e w1 ⟨rfl, rfl⟩))
    go_ret
    exact ⟨rfl, hput.out, grown_setCell _, by simp [World.setCell]⟩
theorem refadd_any (gl g : Nat) (l : List Int) (kind n : Int) (w : World) (hm : RMeterAt w gl g l) (hne : gl ≠ g) :
    Calls Try.prog 30 #[.pointer (some ⟨g, 0, none⟩), .int .i64 kind, .int .i64 n] w fun e w' => e = .returned (.bool (inK kind)) ∧ RMeterAt w' gl g (mAdd l kind n) ∧ w.grownBy w' (some gl) ∧ w'.heap.size = w.heap.size := by
  have hhas := Lib.hid (refhas_any gl g l kind w hm)
  unfold mAdd
  cases h : inK kind with
  | false =>
    rw [h] at hhas
    simp only [Bool.false_eq_true, if_false]
    go_enter Try.func30, Try.ntmps30
    go_wp2_with (go_at_call 73; (with_reducible refine (hhas.out).mono ?_); rintro e w1 ⟨rfl, rfl⟩)
    go_ret
    exact ⟨rfl, hm, World.grownBy.refl _ _, rfl⟩
  | true =>
    rw [h] at hhas
    simp only [if_true]
    have hk := inK_yes h
    obtain ⟨k, rfl⟩ : ∃ k : Nat, kind = (k : Int) + 1 := ⟨(kind - 1).toNat, by omega⟩
    have c0 : w.cell? ⟨g, 0, none⟩ = some (.slice (some ⟨gl, 0, none⟩) 6 6) := hm.2.1.cell 0
    have hc := hm.cell k (by omega)
    have hf := hm.2.2.frozen k
    have hk6 : (k : Int) < 6 := by omega
    have hput := Lib.hid (fun y => hm.put hne k y)
    generalize mGet l ((k : Int) + 1) = x at *
    go_enter Try.func30, Try.ntmps30
    go_wp2_with (go_at_call 73; (with_reducible refine (hhas.out).mono ?_); rintro e w1 ⟨rfl, rfl⟩)
    refine wp_region_quiet_tail 17 (by kernel_rfl) (by kernel_rfl) ?_
    simp only [List.take_succ_cons, List.take_zero, List.drop_succ_cons, List.drop_zero]
    repeat (go_big_quiet_step (fail))
    refine wpQuiet_nil ?_
    go_wp2
    go_ret
    exact ⟨rfl, hput.out _, grown_drew (grown_setCell _), by simp [World.setCell]⟩
theorem refraise_any (gl g : Nat) (l : List Int) (kind n : Int) (w : World) (hm : RMeterAt w gl g l) (hne : gl ≠ g) :
    Calls Try.prog 33 #[.pointer (some ⟨g, 0, none⟩), .int .i64 kind, .int .i64 n] w fun e w' => e = .returned (.bool (inK kind && decide (mGet l kind < n))) ∧ RMeterAt w' gl g (mRse l kind n) ∧ w.grownBy w' (some gl) ∧ w'.heap.size = w.heap.size := by
  have hhas := Lib.hid (refhas_any gl g l kind w hm)
  unfold mRse mRaise
  cases h : inK kind with
  | false =>
    rw [h] at hhas
    simp only [Bool.false_eq_true, if_false, Bool.false_and]
    go_enter Try.func33, Try.ntmps33
    go_wp2_with (go_at_call 73; (with_reducible refine (hhas.out).mono ?_); rintro e w1 ⟨rfl, rfl⟩)
    go_ret
    exact ⟨rfl, hm, World.grownBy.refl _ _, rfl⟩
  | true =>
    rw [h] at hhas
    simp only [if_true, Bool.true_and]
    have hk := inK_yes h
    obtain ⟨k, rfl⟩ : ∃ k : Nat, kind = (k : Int) + 1 := ⟨(kind - 1).toNat, by omega⟩
    have c0 : w.cell? ⟨g, 0, none⟩ = some (.slice (some ⟨gl, 0, none⟩) 6 6) := hm.2.1.cell 0
    have hc := hm.cell k (by omega)
    have hf := hm.2.2.frozen k
    have hk6 : (k : Int) < 6 := by omega
    have hput := Lib.hid (hm.put hne k n)
    have hm' := Lib.hid hm
    generalize mGet l ((k : Int) + 1) = x at *
    by_cases hx : x < n
    · have hr : Hid ((if x < n then mPut l ((k : Int) + 1) n else l) = mPut l ((k : Int) + 1) n) := if_pos hx
      rw [hr.out, show decide (x < n) = true from by simpa using hx]
      clear hm
      go_enter Try.func33, Try.ntmps33
      go_wp2_with (go_at_call 73; (with_reducible refine (hhas.out).mono ?_); rintro e w1 ⟨rfl, rfl⟩)
      go_ret
      exact ⟨rfl, hput.out, grown_setCell _, by simp [World.setCell]⟩
    · have hr : Hid ((if x < n then mPut l ((k : Int) + 1) n else l) = l) := if_neg hx
      rw [hr.out, show decide (x < n) = false from by simpa using hx]
      clear hm
      go_enter Try.func33, Try.ntmps33
      go_wp2_with (go_at_call 73; (with_reducible refine (hhas.out).mono ?_); rintro e w1 ⟨rfl, rfl⟩)
      go_ret
      exact ⟨rfl, hm'.out, World.grownBy.refl _ _, rfl⟩
end Go.Proofs.Ytmaiafmpihpleaa
