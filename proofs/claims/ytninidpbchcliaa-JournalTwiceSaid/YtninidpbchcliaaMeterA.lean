/- Contracts of package meter: counts behind atomics. -/
import Derived.Test.YtninidpbchcliaaBlk
import Derived.Laws.LoneSync
import Derived.Deep.WholeRow
namespace Go.Proofs.Ytninidpbchcliaa
open Go.RowKit

theorem zeroMeter : (Try.prog.info? 145).map (fun i => (i.zero, i.size)) = some (some (.agg #[.int .i64 0, .int .i64 0, .int .i64 0, .int .i64 0, .int .i64 0, .int .i64 0]), 6) := by kernel_rfl

section
variable {P : Program} {f : FuncId} {fn : Func}
theorem run_call_swap (hf : P.funcs[f]? = some fn) (hname : (fn.name == "runtime.NumGoroutine") = false) (hb : fn.body.isNone = true) (hn : Extern.findNext fn = none) (k : IntKind)
    (he : Extern.find fn = some (Extern.Atomic.swapT (.int k))) {a : Addr} {x y : Int} {w : World} (hc : w.cell? a = some (.int k x)) (hz : w.frozen? a = false) :
    (callFunc f #[.pointer (some a), .int k y]).run P w = .ok (.value (.int k x)) (w.setCell a (.int k y)) := by
  rw [run_callFunc_extern hf hname hb hn he]
  change (Sem.run P (do
    let a' ← asAddr (.pointer (some a))
    let old ← Extern.Atomic.read (.int k) a'
    store a' (.int k y) .atomic
    pure old) w).andThen _ = _
  simp [Extern.Atomic.read, asAddr, hc, hz, run_store P w a (.int k y) .atomic rfl, Result.andThen]
end

theorem aload_any (g k : Nat) (x : Int) (w : World) (hc : w.cell? ⟨g, k, none⟩ = some (.int .i64 x)) : Calls Try.prog 80 #[.pointer (some ⟨g, k, none⟩)] w fun e w' => e = .returned (.int .i64 x) ∧ w = w' := by
  have hl := run_call_load (P := Try.prog) Try.func107 (by kernel_rfl) (by kernel_rfl) (by kernel_rfl) .i64 (by kernel_rfl) hc
  go_enter Try.func80, Try.ntmps80
  go_wp2
  go_ret
  exact ⟨rfl, rfl⟩
theorem aadd_any (g k : Nat) (x y : Int) (w : World) (hc : w.cell? ⟨g, k, none⟩ = some (.int .i64 x)) (hz : w.frozen? ⟨g, k, none⟩ = false) :
    Calls Try.prog 104 #[.pointer (some ⟨g, k, none⟩), .int .i64 y] w fun e w' => e = .returned (.int .i64 (wrap64 (x + y))) ∧ w.setCell ⟨g, k, none⟩ (.int .i64 (wrap64 (x + y))) = w' := by
  have hl := run_call_add (P := Try.prog) Try.func119 (by kernel_rfl) (by kernel_rfl) (by kernel_rfl) .i64 (by kernel_rfl) (y := y) (s := wrap64 (x + y)) hc hz (by simp [go_sem, wrap64, IntKind.wrap_i64])
  generalize wrap64 (x + y) = z at *
  go_enter Try.func104, Try.ntmps104
  go_wp2
  go_ret
  exact ⟨rfl, rfl⟩
theorem has_yes (g : Nat) (kind : Int) (w : World) (h1 : 1 ≤ kind) (h2 : kind ≤ 6) : Calls Try.prog 79 #[.pointer (some ⟨g, 0, none⟩), .int .i64 kind] w fun e w' => e = .returned (.bool true) ∧ w = w' := by
  go_enter Try.func79, Try.ntmps79
  go_wp2
  go_ret
  exact ⟨rfl, rfl⟩
theorem has_no (g : Nat) (kind : Int) (w : World) (h : ¬ (1 ≤ kind ∧ kind ≤ 6)) : Calls Try.prog 79 #[.pointer (some ⟨g, 0, none⟩), .int .i64 kind] w fun e w' => e = .returned (.bool false) ∧ w = w' := by
  have h' : kind < 1 ∨ (1 ≤ kind ∧ 6 < kind) := by omega
  clear h
  rcases h' with h | ⟨h1, h2⟩
  all_goals
    go_enter Try.func79, Try.ntmps79
    go_wp2
    go_ret
    exact ⟨ret_bool (by first | (simp; done) | (simp; omega)), rfl⟩
theorem has_nil (kind : Int) (w : World) : Calls Try.prog 79 #[.pointer none, .int .i64 kind] w fun e w' => e = .returned (.bool false) ∧ w = w' := by
  go_enter Try.func79, Try.ntmps79
  go_wp2
  go_ret
  exact ⟨rfl, rfl⟩

def MeterAt (w : World) (g : Nat) (l : List Int) : Prop := l.length = 6 ∧ Blk w g 145 (l.map iv)
def mPut (l : List Int) (kind x : Int) : List Int := l.set (kind - 1).toNat x
def mGet (l : List Int) (kind : Int) : Int := l.getD (kind - 1).toNat 0
theorem mPut_len (l : List Int) (kind x : Int) : (mPut l kind x).length = l.length := by simp [mPut]
theorem MeterAt.cell {w : World} {g : Nat} {l : List Int} (h : MeterAt w g l) (k : Nat) (hk : k < 6) : w.cell? ⟨g, k, none⟩ = some (.int .i64 (mGet l ((k : Int) + 1))) := by
  rw [h.2.cell]
  have : k < l.length := by rw [h.1]; exact hk
  unfold mGet iv
  rw [show ((k : Int) + 1 - 1).toNat = k from by omega]
  simp [List.getD_eq_getElem?_getD, this]
theorem MeterAt.put {w : World} {g : Nat} {l : List Int} (h : MeterAt w g l) (k : Nat) (x : Int) : MeterAt (w.setCell ⟨g, k, none⟩ (.int .i64 x)) g (mPut l ((k : Int) + 1) x) := by
  refine ⟨by rw [mPut_len]; exact h.1, ?_⟩
  unfold mPut
  rw [show ((k : Int) + 1 - 1).toNat = k from by omega, List.map_set]
  exact h.2.set_ k _
theorem newmeter_any (w : World) : Calls Try.prog 68 #[] w fun e w' => e = .returned (.pointer (some ⟨w.heap.size, 0, none⟩)) ∧ MeterAt w' w.heap.size [0, 0, 0, 0, 0, 0] ∧ Below w.heap.size w w' ∧ w'.heap.size = w.heap.size + 1 := by
  have hbu : ∀ w : World, (Instr.build 145 #[]).run Try.prog w = .ok (.agg #[.int .i64 0, .int .i64 0, .int .i64 0, .int .i64 0, .int .i64 0, .int .i64 0]) w := fun w => run_build w _ _ _ (by kernel_rfl)
  go_enter Try.func68, Try.ntmps68
  go_wp2
  go_ret
  exact ⟨rfl, ⟨rfl, Blk.top _ rfl rfl⟩, (by (repeat' (first | (with_reducible exact Below.refl _ _) | (with_reducible assumption) | (with_reducible refine Below.drew ?_) | (with_reducible refine below_drewN ?_ _) | (with_reducible refine Below.alloc ?_ ?_ _) | (with_reducible refine Below.setCell ?_ ?_ _) | omega | (simp; done) | (simp; omega)))), by simp⟩

theorem add_yes (g : Nat) (l : List Int) (kind n : Int) (w : World) (hm : MeterAt w g l) (h1 : 1 ≤ kind) (h2 : kind ≤ 6) :
    Calls Try.prog 71 #[.pointer (some ⟨g, 0, none⟩), .int .i64 kind, .int .i64 n] w fun e w' => e = .returned (.bool true) ∧ MeterAt w' g (mPut l kind (wrap64 (mGet l kind + n))) ∧ w.grownBy w' (some g) ∧ w'.heap.size = w.heap.size := by
  obtain ⟨k, rfl⟩ : ∃ k : Nat, kind = (k : Int) + 1 := ⟨(kind - 1).toNat, by omega⟩
  have hk : k < 6 := by omega
  have hc := hm.cell k hk
  have hz := hm.2.frozen k
  have hp := fun x => Lib.hid (hm.put k x)
  generalize mGet l ((k : Int) + 1) = x at *
  have hput : ∀ x, Hid (MeterAt (w.setCell ⟨g, k, none⟩ (.int .i64 x)) g (mPut l ((k : Int) + 1) x)) := hp
  clear hp
  go_enter Try.func71, Try.ntmps71
  go_wp2_with (first
    | (go_at_call 79; (with_reducible refine (has_yes _ _ _ h1 h2).mono ?_); rintro e w1 ⟨rfl, rfl⟩)
    | (go_at_call 104; (with_reducible refine (aadd_any _ _ _ _ _ hc hz).mono ?_); rintro e w1 ⟨rfl, rfl⟩))
  go_ret
  exact ⟨rfl, (hput _).out, grown_setCell _, by simp [World.setCell]⟩
theorem count_yes (g : Nat) (l : List Int) (kind : Int) (w : World) (hm : MeterAt w g l) (h1 : 1 ≤ kind) (h2 : kind ≤ 6) :
    Calls Try.prog 36 #[.pointer (some ⟨g, 0, none⟩), .int .i64 kind] w fun e w' => e = .returned (.int .i64 (mGet l kind)) ∧ w = w' := by
  obtain ⟨k, rfl⟩ : ∃ k : Nat, kind = (k : Int) + 1 := ⟨(kind - 1).toNat, by omega⟩
  have hk : k < 6 := by omega
  have hc := hm.cell k hk
  generalize mGet l ((k : Int) + 1) = x at *
  go_enter Try.func36, Try.ntmps36
  go_wp2_with (first
    | (go_at_call 79; (with_reducible refine (has_yes _ _ _ h1 h2).mono ?_); rintro e w1 ⟨rfl, rfl⟩)
    | (go_at_call 80; (with_reducible refine (aload_any _ _ _ _ hc).mono ?_); rintro e w1 ⟨rfl, rfl⟩))
  go_ret
  exact ⟨rfl, rfl⟩
def mRaise (l : List Int) (kind n : Int) : List Int := if mGet l kind < n then mPut l kind n else l
/-- A kind that there is not, or a meter that is none. -/
def NoKind (A : Option Addr) (kind : Int) : Prop := (∃ g, A = some ⟨g, 0, none⟩ ∧ ¬ (1 ≤ kind ∧ kind ≤ 6)) ∨ A = none
theorem has_not (A : Option Addr) (kind : Int) (w : World) (h : NoKind A kind) : Calls Try.prog 79 #[.pointer A, .int .i64 kind] w fun e w' => e = .returned (.bool false) ∧ w = w' := by
  rcases h with ⟨g, rfl, h⟩ | rfl
  · exact has_no g kind w h
  · exact has_nil kind w
theorem add_no (A : Option Addr) (kind n : Int) (w : World) (h : NoKind A kind) : Calls Try.prog 71 #[.pointer A, .int .i64 kind, .int .i64 n] w fun e w' => e = .returned (.bool false) ∧ w = w' := by
  go_enter Try.func71, Try.ntmps71
  go_wp2_with (go_at_call 79; (with_reducible refine (has_not _ _ _ h).mono ?_); rintro e w1 ⟨rfl, rfl⟩)
  go_ret
  exact ⟨rfl, rfl⟩
theorem count_no (A : Option Addr) (kind : Int) (w : World) (h : NoKind A kind) : Calls Try.prog 36 #[.pointer A, .int .i64 kind] w fun e w' => e = .returned (.int .i64 0) ∧ w = w' := by
  go_enter Try.func36, Try.ntmps36
  go_wp2_with (go_at_call 79; (with_reducible refine (has_not _ _ _ h).mono ?_); rintro e w1 ⟨rfl, rfl⟩)
  go_ret
  exact ⟨rfl, rfl⟩
end Go.Proofs.Ytninidpbchcliaa
