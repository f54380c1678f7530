/- Contracts of package meter: counts behind atomics. Counts whatever the kind; the example of chapter 5. -/
import Derived.Test.YtalmdccgpigppaaMem
import Derived.Laws.LoneSync
import Derived.Deep.WholeRow
import Derived.Test.YtalmdccgpigppaaFrame
namespace Go.Proofs.Ytalmdccgpigppaa
open Go.RowKit

theorem zeroMeter : (Try.prog.info? 217).map (fun i => (i.zero, i.size)) = some (some (.agg #[.int .i64 0, .int .i64 0, .int .i64 0, .int .i64 0, .int .i64 0, .int .i64 0]), 6) := by kernel_rfl

section
variable {P : Program} {f : FuncId} {fn : Func}
theorem run_call_swap (hf : P.funcs[f]? = some fn) (hname : (fn.name == "runtime.NumGoroutine") = false) (hb : fn.body.isNone = true) (hn : Extern.findNext fn = none) (k : IntKind)
    (he : Extern.find fn = some (Extern.Atomic.swapT (.int k))) {a : Addr} {x y : Int} {w : World} (hc : w.cell? a = some (.int k x)) (hz : w.frozen? a = false) :
    (callFunc f #[.pointer (some a), .int k y]).run P w = .ok (.value (.int k x)) (w.setCell a (.int k y)) := by
  rw [run_callFunc_extern hf hname hb hn he]
  change (Sem.run P (do
    let a' ← asAddr (.pointer (some a))
    let old ← Extern.Atomic.read (.int k) a'
    store a' (.int k y) .atomic
    pure old) w).andThen _ = _
  simp [Extern.Atomic.read, asAddr, hc, hz, run_store P w a (.int k y) .atomic rfl, Result.andThen]
end

theorem aadd_any (g k : Nat) (x y : Int) (w : World) (hc : w.cell? ⟨g, k, none⟩ = some (.int .i64 x)) (hz : w.frozen? ⟨g, k, none⟩ = false) :
    Calls Try.prog 148 #[.pointer (some ⟨g, k, none⟩), .int .i64 y] w fun e w' => e = .returned (.int .i64 (wrap64 (x + y))) ∧ w.setCell ⟨g, k, none⟩ (.int .i64 (wrap64 (x + y))) = w' := by
  have hl := run_call_add (P := Try.prog) Try.func150 (by kernel_rfl) (by kernel_rfl) (by kernel_rfl) .i64 (by kernel_rfl) (y := y) (s := wrap64 (x + y)) hc hz (by simp [go_sem, wrap64, IntKind.wrap_i64])
  generalize wrap64 (x + y) = z at *
  go_enter Try.func148, Try.ntmps148
  go_wp2
  go_ret
  exact ⟨rfl, rfl⟩
theorem has_yes (g : Nat) (kind : Int) (w : World) (h1 : 1 ≤ kind) (h2 : kind ≤ 6) : Calls Try.prog 147 #[.pointer (some ⟨g, 0, none⟩), .int .i64 kind] w fun e w' => e = .returned (.bool true) ∧ w = w' := by
  go_enter Try.func147, Try.ntmps147
  go_wp2
  go_ret
  exact ⟨rfl, rfl⟩
theorem has_no (g : Nat) (kind : Int) (w : World) (h : ¬ (1 ≤ kind ∧ kind ≤ 6)) : Calls Try.prog 147 #[.pointer (some ⟨g, 0, none⟩), .int .i64 kind] w fun e w' => e = .returned (.bool false) ∧ w = w' := by
  have h' : kind < 1 ∨ (1 ≤ kind ∧ 6 < kind) := by omega
  clear h
  rcases h' with h | ⟨h1, h2⟩
  all_goals
    go_enter Try.func147, Try.ntmps147
    go_wp2
    go_ret
    exact ⟨ret_bool (by first | (simp; done) | (simp; omega)), rfl⟩
theorem has_nil (kind : Int) (w : World) : Calls Try.prog 147 #[.pointer none, .int .i64 kind] w fun e w' => e = .returned (.bool false) ∧ w = w' := by
  go_enter Try.func147, Try.ntmps147
  go_wp2
  go_ret
  exact ⟨rfl, rfl⟩

def MeterAt (w : World) (g : Nat) (l : List Int) : Prop := l.length = 6 ∧ Blk w g 217 (l.map iv)
def mPut (l : List Int) (kind x : Int) : List Int := l.set (kind - 1).toNat x
def mGet (l : List Int) (kind : Int) : Int := l.getD (kind - 1).toNat 0
theorem mPut_len (l : List Int) (kind x : Int) : (mPut l kind x).length = l.length := by simp [mPut]
theorem MeterAt.cell {w : World} {g : Nat} {l : List Int} (h : MeterAt w g l) (k : Nat) (hk : k < 6) : w.cell? ⟨g, k, none⟩ = some (.int .i64 (mGet l ((k : Int) + 1))) := by
  rw [h.2.cell]
  have : k < l.length := by rw [h.1]; exact hk
  unfold mGet iv
  rw [show ((k : Int) + 1 - 1).toNat = k from by omega]
  simp [List.getD_eq_getElem?_getD, this]
theorem MeterAt.put {w : World} {g : Nat} {l : List Int} (h : MeterAt w g l) (k : Nat) (x : Int) : MeterAt (w.setCell ⟨g, k, none⟩ (.int .i64 x)) g (mPut l ((k : Int) + 1) x) := by
  refine ⟨by rw [mPut_len]; exact h.1, ?_⟩
  unfold mPut
  rw [show ((k : Int) + 1 - 1).toNat = k from by omega, List.map_set]
  exact h.2.set_ k _
theorem newmeter_any (w : World) : Calls Try.prog 108 #[] w fun e w' => e = .returned (.pointer (some ⟨w.heap.size, 0, none⟩)) ∧ MeterAt w' w.heap.size [0, 0, 0, 0, 0, 0] ∧ Below w.heap.size w w' ∧ w'.heap.size = w.heap.size + 1 := by
  have hbu : ∀ w : World, (Instr.build 217 #[]).run Try.prog w = .ok (.agg #[.int .i64 0, .int .i64 0, .int .i64 0, .int .i64 0, .int .i64 0, .int .i64 0]) w := fun w => run_build w _ _ _ (by kernel_rfl)
  go_enter Try.func108, Try.ntmps108
  go_wp2
  go_ret
  exact ⟨rfl, ⟨rfl, Blk.top _ rfl rfl⟩, (by (repeat' (first | (with_reducible exact Below.refl _ _) | (with_reducible assumption) | (with_reducible refine Below.drew ?_) | (with_reducible refine below_drewN ?_ _) | (with_reducible refine Below.alloc ?_ ?_ _) | (with_reducible refine Below.setCell ?_ ?_ _) | omega | (simp; done) | (simp; omega)))), by simp⟩

theorem add_yes (g : Nat) (l : List Int) (kind n : Int) (w : World) (hm : MeterAt w g l) (h1 : 1 ≤ kind) (h2 : kind ≤ 6) :
    Calls Try.prog 133 #[.pointer (some ⟨g, 0, none⟩), .int .i64 kind, .int .i64 n] w fun e w' => e = .returned (.bool true) ∧ MeterAt w' g (mPut l kind (wrap64 (mGet l kind + n))) ∧ w.grownBy w' (some g) ∧ w'.heap.size = w.heap.size := by
  obtain ⟨k, rfl⟩ : ∃ k : Nat, kind = (k : Int) + 1 := ⟨(kind - 1).toNat, by omega⟩
  have hk : k < 6 := by omega
  have hc := hm.cell k hk
  have hz := hm.2.frozen k
  have hp := fun x => Lib.hid (hm.put k x)
  generalize mGet l ((k : Int) + 1) = x at *
  have hput : ∀ x, Hid (MeterAt (w.setCell ⟨g, k, none⟩ (.int .i64 x)) g (mPut l ((k : Int) + 1) x)) := hp
  clear hp
  go_enter Try.func133, Try.ntmps133
  go_wp2_with (first
    | (go_at_call 147; (with_reducible refine (has_yes _ _ _ h1 h2).mono ?_); rintro e w1 ⟨rfl, rfl⟩)
    | (go_at_call 148; (with_reducible refine (aadd_any _ _ _ _ _ hc hz).mono ?_); rintro e w1 ⟨rfl, rfl⟩))
  go_ret
  exact ⟨rfl, (hput _).out, grown_setCell _, by simp [World.setCell]⟩
def mRaise (l : List Int) (kind n : Int) : List Int := if mGet l kind < n then mPut l kind n else l
/-- A kind that there is not, or a meter that is none. -/
def NoKind (A : Option Addr) (kind : Int) : Prop := (∃ g, A = some ⟨g, 0, none⟩ ∧ ¬ (1 ≤ kind ∧ kind ≤ 6)) ∨ A = none
theorem has_not (A : Option Addr) (kind : Int) (w : World) (h : NoKind A kind) : Calls Try.prog 147 #[.pointer A, .int .i64 kind] w fun e w' => e = .returned (.bool false) ∧ w = w' := by
  rcases h with ⟨g, rfl, h⟩ | rfl
  · exact has_no g kind w h
  · exact has_nil kind w
theorem add_no (A : Option Addr) (kind n : Int) (w : World) (h : NoKind A kind) : Calls Try.prog 133 #[.pointer A, .int .i64 kind, .int .i64 n] w fun e w' => e = .returned (.bool false) ∧ w = w' := by
  go_enter Try.func133, Try.ntmps133
  go_wp2_with (go_at_call 147; (with_reducible refine (has_not _ _ _ h).mono ?_); rintro e w1 ⟨rfl, rfl⟩)
  go_ret
  exact ⟨rfl, rfl⟩
end Go.Proofs.Ytalmdccgpigppaa
namespace Go.Proofs.Ytalmdccgpigppaa
open Go.RowKit
theorem MeterAt.alloc {w : World} {g : Nat} {l : List Int} (h : MeterAt w g l) (o : Obj) : MeterAt (w.alloc o) g l := ⟨h.1, h.2.alloc o⟩
theorem MeterAt.below {w w' : World} {g B : Nat} {l : List Int} (h : MeterAt w g l) (hb : Below B w w') (hg : g < B) : MeterAt w' g l := ⟨h.1, h.2.below hb hg⟩
theorem MeterAt.grown {w w' : World} {g : Nat} {row : Option Nat} {l : List Int} (h : MeterAt w g l) (hb : w.grownBy w' row) (hg : row ≠ some g) : MeterAt w' g l := ⟨h.1, h.2.grown hb hg⟩
theorem MeterAt.drewN {w : World} {g : Nat} {l : List Int} (h : MeterAt w g l) (n : Nat) : MeterAt (w.drewN n) g l := ⟨h.1, h.2.drewN n⟩
/-- Counts whatever the kind. -/
def inK (kind : Int) : Bool := decide (1 ≤ kind ∧ kind ≤ 6)
def mAdd (l : List Int) (kind n : Int) : List Int := if inK kind then mPut l kind (wrap64 (mGet l kind + n)) else l
def mCnt (l : List Int) (kind : Int) : Int := if inK kind then mGet l kind else 0
def mTake (l : List Int) (kind : Int) : List Int := if inK kind then mPut l kind 0 else l
def mRse (l : List Int) (kind n : Int) : List Int := if inK kind then mRaise l kind n else l
theorem inK_yes {kind : Int} (h : inK kind = true) : 1 ≤ kind ∧ kind ≤ 6 := by simpa [inK] using h
theorem inK_no {kind : Int} {g : Nat} (h : inK kind = false) : NoKind (some ⟨g, 0, none⟩) kind := .inl ⟨g, rfl, by simpa [inK] using h⟩
theorem add_any (g : Nat) (l : List Int) (kind n : Int) (w : World) (hm : MeterAt w g l) :
    Calls Try.prog 133 #[.pointer (some ⟨g, 0, none⟩), .int .i64 kind, .int .i64 n] w fun e w' => e = .returned (.bool (inK kind)) ∧ MeterAt w' g (mAdd l kind n) ∧ w.grownBy w' (some g) ∧ w'.heap.size = w.heap.size := by
  cases h : inK kind with
  | true => unfold mAdd; rw [if_pos h]; exact add_yes g l kind n w hm (inK_yes h).1 (inK_yes h).2
  | false => unfold mAdd; rw [if_neg (by simp [h])]; exact (add_no _ kind n w (inK_no h)).mono fun e w' ⟨he, hw⟩ => by subst hw; exact ⟨he, hm, World.grownBy.refl _ _, rfl⟩
theorem mGet_put {l : List Int} {kind x : Int} (hl : l.length = 6) (h : inK kind = true) : mGet (mPut l kind x) kind = x := by
  have := inK_yes h
  unfold mGet mPut
  have hk : (kind - 1).toNat < l.length := by omega
  generalize (kind - 1).toNat = q at *
  simp [List.getD_eq_getElem?_getD, hk]
theorem mGet_far {l : List Int} {k1 k2 x : Int} (h1 : inK k1 = true) (h2 : inK k2 = true) (hne : k1 ≠ k2) : mGet (mPut l k1 x) k2 = mGet l k2 := by
  have a := inK_yes h1
  have b := inK_yes h2
  unfold mGet mPut
  have hk : (k1 - 1).toNat ≠ (k2 - 1).toNat := by omega
  generalize (k1 - 1).toNat = q at *
  generalize (k2 - 1).toNat = r at *
  simp [List.getD_eq_getElem?_getD, List.getElem?_set_ne hk]
theorem mCnt_far {l : List Int} {k1 k2 : Int} (hne : k1 ≠ k2) (n m : Int) : mCnt (mTake (mRse (mAdd l k1 n) k1 m) k1) k2 = mCnt l k2 := by
  unfold mCnt
  cases h2 : inK k2 with
  | false => simp
  | true =>
    simp only [if_true]
    unfold mTake mRse mAdd mRaise
    cases h1 : inK k1 with
    | false => simp
    | true =>
      simp only [if_true]
      rw [mGet_far h1 h2 hne]
      split
      · rw [mGet_far h1 h2 hne, mGet_far h1 h2 hne]
      · rw [mGet_far h1 h2 hne]
theorem mCnt_take {l : List Int} (hl : l.length = 6) (kind : Int) : mCnt (mTake l kind) kind = 0 := by
  unfold mCnt mTake
  cases h : inK kind with
  | false => simp
  | true => simp only [if_true]; exact mGet_put hl h
theorem mCnt_add {l : List Int} (hl : l.length = 6) (kind n : Int) : mCnt (mAdd l kind n) kind = if inK kind then wrap64 (mCnt l kind + n) else 0 := by
  unfold mCnt mAdd
  cases h : inK kind with
  | false => simp
  | true => simp only [if_true]; exact mGet_put hl h
theorem wrap_take (s t c : Int) (h : c = wrap64 (s - t)) : 0 = wrap64 (s - wrap64 (t + c)) := by subst h; unfold wrap64; omega
theorem wrap_add (s t c n : Int) (h : c = wrap64 (s - t)) : wrap64 (c + n) = wrap64 (wrap64 (s + n) - t) := by subst h; unfold wrap64; omega

end Go.Proofs.Ytalmdccgpigppaa
