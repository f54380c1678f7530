/- An area in memory; what is done in it: Many, at, Read. -/
import Derived.Test.YtalmdccgpigppaaDiskL
namespace Go.Proofs.Ytalmdccgpigppaa
open Go.RowKit
set_option linter.unusedVariables false
set_option linter.unusedSimpArgs false

def AreaAt (w : World) (ga d f m : Nat) : Prop := Blk w ga 169 [.pointer (some ⟨d, 0, none⟩), .int .i64 (f : Int), .int .i64 (m : Int)]
/-- What a sector of a disk has; the error. -/
def readV (D : DiskV) (n : Int) : DiskV × List UInt8 × Int := if mayV D n ≠ 0 then (D, zerosL, mayV D n) else (readV' D, secOf D.now n, 0)
theorem readV_len {D : DiskV} (h : D.Ok) (n : Int) : (readV D n).2.1.length = 128 := by
  unfold readV
  split
  · exact zerosL_len
  · rename_i hm
    obtain ⟨_, h0, h1⟩ := mayV_zero (D := D) (n := n) (by omega)
    exact secOf_len h.now h0 h1
section
variable {w w' : World} {base ga f m : Nat} {p : DiskP} {A : Option Addr} {c : Nat} {D : DiskV}
theorem AreaAt.below {d : Nat} (h : AreaAt w ga d f m) (hb : Below w.heap.size w w') : AreaAt w' ga d f m := Blk.below h hb h.lt
theorem AreaAt.keep {d : Nat} {F : Nat → Prop} (h : AreaAt w ga d f m) (k : Keep F w w') (hF : ¬ F ga) : AreaAt w' ga d f m := Blk.keep h k hF
theorem AreaAt.notFoot {d : Nat} (h : AreaAt w ga d f m) (hd : DiskAt w base p A c D) : ¬ foot p A ga := fun e => by
  rcases hd.foot_ty h e with q | q | q | q | q <;> exact absurd q (by decide)
theorem AreaAt.spares {d : Nat} (h : AreaAt w ga d f m) (hd : DiskAt w base p A c D) (k : Keep (foot p A) w w') : AreaAt w' ga d f m := h.keep k (h.notFoot hd)
theorem dread_any (h : DiskAt w base p A c D) (n : Int) : Calls Try.prog 107 #[.pointer (some ⟨p.d, 0, none⟩), .int .i64 n] w fun e w' =>
    e = .returned (.tuple #[aggB (readV D n).2.1, .int .i64 (readV D n).2.2]) ∧ DiskAt w' base p A c (readV D n).1 ∧ Keep (foot p A) w w' := by
  unfold readV
  by_cases hn : mayV D n = 0
  · rw [if_neg (by omega)]; exact read_yes h n hn
  · rw [if_pos hn]; exact (read_no h n hn).mono fun e w' ⟨h1, h2⟩ => ⟨h1, h.below h2, Keep.of_below h2⟩
theorem many_any {d : Nat} (h : AreaAt w ga d f m) : Calls Try.prog 47 #[.pointer (some ⟨ga, 0, none⟩)] w fun e w' => e = .returned (.int .i64 (m : Nat)) ∧ w = w' := by
  have c2 : w.cell? ⟨ga, 2, none⟩ = some (.int .i64 (m : Int)) := Blk.cell h 2
  clear h
  go_enter Try.func47, Try.ntmps47
  go_wp2
  go_ret
  exact ⟨rfl, rfl⟩
theorem many_nil (w : World) : Calls Try.prog 47 #[.pointer none] w fun e w' => e = .returned (.int .i64 0) ∧ w = w' := by
  go_enter Try.func47, Try.ntmps47
  go_wp2
  go_ret
  exact ⟨rfl, rfl⟩
/-! 'at' within the area: what the closure does at the disk's sector. -/
set_option maxRecDepth 100000 in
theorem at_read {d : Nat} {x1 x2 : Value} {R : Int → World → Prop} (h : AreaAt w ga d f m) (n : Int) (h0 : 0 ≤ n) (h1 : n < m) (hfm : f + m ≤ 4096)
    (hF : Calls Try.prog 106 #[.int .i64 ((f : Int) + n), x1, x2] w (fun e w' => ∃ z, e = .returned (.int .i64 z) ∧ R z w')) :
    Calls Try.prog 105 #[.pointer (some ⟨ga, 0, none⟩), .int .i64 n, .func (.func 106) #[] #[x1, x2]] w fun e w' => ∃ z, e = .returned (.int .i64 z) ∧ R z w' := by
  have c0 : w.cell? ⟨ga, 0, none⟩ = some (.pointer (some ⟨d, 0, none⟩)) := Blk.cell h 0
  have c1 : w.cell? ⟨ga, 1, none⟩ = some (.int .i64 (f : Int)) := Blk.cell h 1
  have c2 : w.cell? ⟨ga, 2, none⟩ = some (.int .i64 (m : Int)) := Blk.cell h 2
  clear h
  go_enter Try.func105, Try.ntmps105
  go_wp2_with (first
    | ((go_at_call 106; (with_reducible refine (hF).mono ?_); rintro e w2 ⟨z, rfl, hR⟩))
    | fail "no arm")
  go_ret
  exact ⟨z, rfl, hR⟩
set_option maxRecDepth 100000 in
theorem at_write {d : Nat} {x1 x2 : Value} {R : Int → World → Prop} (h : AreaAt w ga d f m) (n : Int) (h0 : 0 ≤ n) (h1 : n < m) (hfm : f + m ≤ 4096)
    (hF : Calls Try.prog 109 #[.int .i64 ((f : Int) + n), x1, x2] w (fun e w' => ∃ z, e = .returned (.int .i64 z) ∧ R z w')) :
    Calls Try.prog 105 #[.pointer (some ⟨ga, 0, none⟩), .int .i64 n, .func (.func 109) #[] #[x1, x2]] w fun e w' => ∃ z, e = .returned (.int .i64 z) ∧ R z w' := by
  have c0 : w.cell? ⟨ga, 0, none⟩ = some (.pointer (some ⟨d, 0, none⟩)) := Blk.cell h 0
  have c1 : w.cell? ⟨ga, 1, none⟩ = some (.int .i64 (f : Int)) := Blk.cell h 1
  have c2 : w.cell? ⟨ga, 2, none⟩ = some (.int .i64 (m : Int)) := Blk.cell h 2
  clear h
  go_enter Try.func105, Try.ntmps105
  go_wp2_with (first
    | ((go_at_call 109; (with_reducible refine (hF).mono ?_); rintro e w2 ⟨z, rfl, hR⟩))
    | fail "no arm")
  go_ret
  exact ⟨z, rfl, hR⟩
set_option maxRecDepth 100000 in
theorem at_out {d k : Nat} {caps : Array Value} (h : AreaAt w ga d f m) (n : Int) (hn : n < 0 ∨ (m : Int) ≤ n) :
    Calls Try.prog 105 #[.pointer (some ⟨ga, 0, none⟩), .int .i64 n, .func (.func k) #[] caps] w fun e w' => e = .returned (.int .i64 51) ∧ w = w' := by
  have c0 : w.cell? ⟨ga, 0, none⟩ = some (.pointer (some ⟨d, 0, none⟩)) := Blk.cell h 0
  have c2 : w.cell? ⟨ga, 2, none⟩ = some (.int .i64 (m : Int)) := Blk.cell h 2
  clear h
  have hc : n < 0 ∨ (0 ≤ n ∧ (m : Int) ≤ n) := by omega
  clear hn
  rcases hc with h1 | ⟨h1, h2⟩
  all_goals
    go_enter Try.func105, Try.ntmps105
    go_wp2
    go_ret
    exact ⟨rfl, rfl⟩
set_option maxRecDepth 100000 in
theorem at_nil (w : World) (n : Int) (F : Value) :
    Calls Try.prog 105 #[.pointer none, .int .i64 n, F] w fun e w' => e = .returned (.int .i64 1) ∧ w = w' := by
  go_enter Try.func105, Try.ntmps105
  go_wp2
  go_ret
  exact ⟨rfl, rfl⟩
end
end Go.Proofs.Ytalmdccgpigppaa
