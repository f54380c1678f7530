/- Contracts of package stat. -/
import Derived.Test.YtalmdccgpigppaaPlainStat
import Derived.Test.YtalmdccgpigppaaMem
import Derived.Deep.RegionHeld3
import Derived.Deep.DeepCutAuto
import Derived.Deep.CutBlock
namespace Go.Proofs.Ytalmdccgpigppaa
open Go.RowKit
set_option linter.unusedVariables false
set_option linter.unusedSimpArgs false

theorem blk10 {w : World} {g : Nat} {t : TypeId} {T : Nat → Int} (h : Blk w g t [.int .i64 (T 0), .int .i64 (T 1), .int .i64 (T 2), .int .i64 (T 3), .int .i64 (T 4), .int .i64 (T 5), .int .i64 (T 6), .int .i64 (T 7), .int .i64 (T 8), .int .i64 (T 9)]) : w.cell? ⟨g, 0, none⟩ = some (.int .i64 (T 0)) ∧ w.cell? ⟨g, 1, none⟩ = some (.int .i64 (T 1)) ∧ w.cell? ⟨g, 2, none⟩ = some (.int .i64 (T 2)) ∧ w.cell? ⟨g, 3, none⟩ = some (.int .i64 (T 3)) ∧ w.cell? ⟨g, 4, none⟩ = some (.int .i64 (T 4)) ∧
    w.cell? ⟨g, 5, none⟩ = some (.int .i64 (T 5)) ∧ w.cell? ⟨g, 6, none⟩ = some (.int .i64 (T 6)) ∧ w.cell? ⟨g, 7, none⟩ = some (.int .i64 (T 7)) ∧ w.cell? ⟨g, 8, none⟩ = some (.int .i64 (T 8)) ∧ w.cell? ⟨g, 9, none⟩ = some (.int .i64 (T 9)) :=
  ⟨h.cell 0, h.cell 1, h.cell 2, h.cell 3, h.cell 4, h.cell 5, h.cell 6, h.cell 7, h.cell 8, h.cell 9⟩
theorem Blk.cell10 {w : World} {g : Nat} {t : TypeId} {T : Nat → Int} (h : Blk w g t [.int .i64 (T 0), .int .i64 (T 1), .int .i64 (T 2), .int .i64 (T 3), .int .i64 (T 4), .int .i64 (T 5), .int .i64 (T 6), .int .i64 (T 7), .int .i64 (T 8), .int .i64 (T 9)]) {k : Nat} (hk : k < 10) : w.cell? ⟨g, k, none⟩ = some (.int .i64 (T k)) := by
  rw [h.cell]
  match k, hk with
  | 0, _ | 1, _ | 2, _ | 3, _ | 4, _ | 5, _ | 6, _ | 7, _ | 8, _ | 9, _ => rfl
theorem Blk.set10 {w : World} {g : Nat} {t : TypeId} {T T' : Nat → Int} (h : Blk w g t [.int .i64 (T 0), .int .i64 (T 1), .int .i64 (T 2), .int .i64 (T 3), .int .i64 (T 4), .int .i64 (T 5), .int .i64 (T 6), .int .i64 (T 7), .int .i64 (T 8), .int .i64 (T 9)]) {k : Nat} (hk : k < 10) {v : Int} (hv : T' k = v) (ht : ∀ j, j < 10 → j ≠ k → T' j = T j) : Blk (w.setCell ⟨g, k, none⟩ (.int .i64 v)) g t [.int .i64 (T' 0), .int .i64 (T' 1), .int .i64 (T' 2), .int .i64 (T' 3), .int .i64 (T' 4), .int .i64 (T' 5), .int .i64 (T' 6), .int .i64 (T' 7), .int .i64 (T' 8), .int .i64 (T' 9)] := by
  have e : [.int .i64 (T 0), .int .i64 (T 1), .int .i64 (T 2), .int .i64 (T 3), .int .i64 (T 4), .int .i64 (T 5), .int .i64 (T 6), .int .i64 (T 7), .int .i64 (T 8), .int .i64 (T 9)].set k (Value.int .i64 v) = [.int .i64 (T' 0), .int .i64 (T' 1), .int .i64 (T' 2), .int .i64 (T' 3), .int .i64 (T' 4), .int .i64 (T' 5), .int .i64 (T' 6), .int .i64 (T' 7), .int .i64 (T' 8), .int .i64 (T' 9)] := by
    subst hv
    have h0 := ht 0 (by omega)
    have h1 := ht 1 (by omega)
    have h2 := ht 2 (by omega)
    have h3 := ht 3 (by omega)
    have h4 := ht 4 (by omega)
    have h5 := ht 5 (by omega)
    have h6 := ht 6 (by omega)
    have h7 := ht 7 (by omega)
    have h8 := ht 8 (by omega)
    have h9 := ht 9 (by omega)
    clear ht h
    match k, hk with
    | 0, _ | 1, _ | 2, _ | 3, _ | 4, _ | 5, _ | 6, _ | 7, _ | 8, _ | 9, _ => simp_all
  exact e ▸ h.set_ k _

theorem Blk.setAll {w : World} {g : Nat} {t : TypeId} {cs xs : List Value} (h : Blk w g t cs) (hl : xs.length = cs.length) : Blk (w.setCells g 0 xs) g t xs := by
  have := Blk.setCells xs 0 w cs h (by omega)
  rw [splice_all _ _ (by omega)] at this
  exact this
theorem below_setCells {B : Nat} {w0 w : World} {g : Nat} (h : Below B w0 w) (hg : B ≤ g) : ∀ (o : Nat) (xs : List Value), Below B w0 (w.setCells g o xs) := by
  intro o xs
  induction xs generalizing o w with
  | nil => exact h
  | cons x xs ih => exact ih (h.setCell (p := ⟨g, o, none⟩) hg x) (o + 1)
theorem wp_store_eq {P : Program} {op : Oper} {a : Act} {w : World} {K : Act → World → Prop} {Q : Exit → Act → World → Prop} (ty : TypeId) (x y : Operand) (ho : op.op = .store ty x y)
    (b o : Nat) (cells : Array Value) (hx : a.eval x = .pointer (some ⟨b, o, none⟩)) (hy : a.eval y = .agg cells)
    (ht : w.there b o cells.size) (hi : (P.info? ty).map (·.size) = some cells.size) (h1 : cells.all (·.oneCell') = true)
    (h : ∀ w', w' = w.setCells b o cells.toList → K (a.put op.dst undef) w') : op.wp P a w K Q := wp_store_mid ty x y ho b o cells hx hy ht hi h1 (h _ rfl)
theorem tl_one (T : Nat → Int) : ∀ v ∈ ([.int .i64 (T 0), .int .i64 (T 1), .int .i64 (T 2), .int .i64 (T 3), .int .i64 (T 4), .int .i64 (T 5), .int .i64 (T 6), .int .i64 (T 7), .int .i64 (T 8), .int .i64 (T 9)] : List Value), v.oneCell' = true := by
  intro v hv
  simp only [List.mem_cons, List.not_mem_nil, or_false] at hv
  rcases hv with rfl | rfl | rfl | rfl | rfl | rfl | rfl | rfl | rfl | rfl <;> rfl
theorem numbers_any (T : Nat → Int) (w : World) : Calls Try.prog 58 #[.agg #[.int .i64 (T 0), .int .i64 (T 1), .int .i64 (T 2), .int .i64 (T 3), .int .i64 (T 4), .int .i64 (T 5), .int .i64 (T 6), .int .i64 (T 7), .int .i64 (T 8), .int .i64 (T 9)]] w fun e w' => e = .returned (.agg #[.int .i64 (T 0), .int .i64 (T 1), .int .i64 (T 2), .int .i64 (T 3), .int .i64 (T 4), .int .i64 (T 5), .int .i64 (T 6), .int .i64 (T 7), .int .i64 (T 8), .int .i64 (T 9)]) ∧ Below w.heap.size w w' := by
  go_enter Try.func58, Try.ntmps58
  go_wp2
  refine bodyPost_ret (v := .agg #[.int .i64 (T 0), .int .i64 (T 1), .int .i64 (T 2), .int .i64 (T 3), .int .i64 (T 4), .int .i64 (T 5), .int .i64 (T 6), .int .i64 (T 7), .int .i64 (T 8), .int .i64 (T 9)]) (by simp [results, Try.results58, go_sem ]) rfl ?_
  exact ⟨rfl, (by (repeat' (first | (with_reducible exact Below.refl _ _) | (with_reducible assumption) | (with_reducible refine Below.drew ?_) | (with_reducible refine below_drewN ?_ _) | (with_reducible refine Below.alloc ?_ ?_ _) | (with_reducible refine Below.setCell ?_ ?_ _) | omega | (simp; done) | (simp; omega))))⟩
theorem tally_any (T : Nat → Int) (w : World) : Calls Try.prog 59 #[.agg #[.int .i64 (T 0), .int .i64 (T 1), .int .i64 (T 2), .int .i64 (T 3), .int .i64 (T 4), .int .i64 (T 5), .int .i64 (T 6), .int .i64 (T 7), .int .i64 (T 8), .int .i64 (T 9)]] w fun e w' => e = .returned (.agg #[.int .i64 (T 0), .int .i64 (T 1), .int .i64 (T 2), .int .i64 (T 3), .int .i64 (T 4), .int .i64 (T 5), .int .i64 (T 6), .int .i64 (T 7), .int .i64 (T 8), .int .i64 (T 9)]) ∧ Below w.heap.size w w' := by
  go_enter Try.func59, Try.ntmps59
  go_wp2
  refine bodyPost_ret (v := .agg #[.int .i64 (T 0), .int .i64 (T 1), .int .i64 (T 2), .int .i64 (T 3), .int .i64 (T 4), .int .i64 (T 5), .int .i64 (T 6), .int .i64 (T 7), .int .i64 (T 8), .int .i64 (T 9)]) (by simp [results, Try.results59, go_sem ]) rfl ?_
  exact ⟨rfl, (by (repeat' (first | (with_reducible exact Below.refl _ _) | (with_reducible assumption) | (with_reducible refine Below.drew ?_) | (with_reducible refine below_drewN ?_ _) | (with_reducible refine Below.alloc ?_ ?_ _) | (with_reducible refine Below.setCell ?_ ?_ _) | omega | (simp; done) | (simp; omega))))⟩

/-- The first k of ten are both's. -/
def mixT (X Y : Nat → Int) (k j : Nat) : Int := if j < k then bothT X Y j else X j
def noT : Nat → Int := fun _ => 0
set_option maxRecDepth 100000 in
set_option maxHeartbeats 20000000 in
theorem both_any (X Y : Nat → Int) (w : World) : Calls Try.prog 19 #[.agg #[.int .i64 (X 0), .int .i64 (X 1), .int .i64 (X 2), .int .i64 (X 3), .int .i64 (X 4), .int .i64 (X 5), .int .i64 (X 6), .int .i64 (X 7), .int .i64 (X 8), .int .i64 (X 9)], .agg #[.int .i64 (Y 0), .int .i64 (Y 1), .int .i64 (Y 2), .int .i64 (Y 3), .int .i64 (Y 4), .int .i64 (Y 5), .int .i64 (Y 6), .int .i64 (Y 7), .int .i64 (Y 8), .int .i64 (Y 9)]] w fun e w' => e = .returned (.agg #[.int .i64 ((bothT X Y) 0), .int .i64 ((bothT X Y) 1), .int .i64 ((bothT X Y) 2), .int .i64 ((bothT X Y) 3), .int .i64 ((bothT X Y) 4), .int .i64 ((bothT X Y) 5), .int .i64 ((bothT X Y) 6), .int .i64 ((bothT X Y) 7), .int .i64 ((bothT X Y) 8), .int .i64 ((bothT X Y) 9)]) ∧ Below w.heap.size w w' := by
  have hnx := fun w => numbers_any X w
  have hny := fun w => numbers_any Y w
  have hta := fun w => tally_any (bothT X Y) w
  have hmax : ∀ w : World, (Builtin.max_ #[3, 3] 3 #[.int .i64 (X 7), .int .i64 (Y 7)]).run Try.prog w = .ok (.int .i64 (bothT X Y 7)) w := fun w => (run_max_int2 (P := Try.prog) (w := w) _ _ _ _ _ _).trans (by rw [show bothT X Y 7 = max (X 7) (Y 7) from rfl]; congr 2; omega)
  go_enter Try.func19, Try.ntmps19
  go_upto_region 1 with fail
  go_cut [5, 6] (fun x5 x6 wx => ∃ g5 g6, x5 = .pointer (some ⟨g5, 0, none⟩) ∧ x6 = .pointer (some ⟨g6, 0, none⟩) ∧ g5 ≠ g6 ∧ Blk wx g5 134 [.int .i64 (X 0), .int .i64 (X 1), .int .i64 (X 2), .int .i64 (X 3), .int .i64 (X 4), .int .i64 (X 5), .int .i64 (X 6), .int .i64 (X 7), .int .i64 (X 8), .int .i64 (X 9)] ∧ Blk wx g6 134 [.int .i64 (Y 0), .int .i64 (Y 1), .int .i64 (Y 2), .int .i64 (Y 3), .int .i64 (Y 4), .int .i64 (Y 5), .int .i64 (Y 6), .int .i64 (Y 7), .int .i64 (Y 8), .int .i64 (Y 9)] ∧ w.heap.size + 3 ≤ g5 ∧ w.heap.size + 3 ≤ g6 ∧ Blk wx (w.heap.size + 2) 49 [.int .i64 (noT 0), .int .i64 (noT 1), .int .i64 (noT 2), .int .i64 (noT 3), .int .i64 (noT 4), .int .i64 (noT 5), .int .i64 (noT 6), .int .i64 (noT 7), .int .i64 (noT 8), .int .i64 (noT 9)] ∧ Below w.heap.size w wx)
  case first =>
    have hx : Blk (((w.alloc (.cells #[.int .i64 (X 0), .int .i64 (X 1), .int .i64 (X 2), .int .i64 (X 3), .int .i64 (X 4), .int .i64 (X 5), .int .i64 (X 6), .int .i64 (X 7), .int .i64 (X 8), .int .i64 (X 9)] 49)).alloc (.cells #[.int .i64 (Y 0), .int .i64 (Y 1), .int .i64 (Y 2), .int .i64 (Y 3), .int .i64 (Y 4), .int .i64 (Y 5), .int .i64 (Y 6), .int .i64 (Y 7), .int .i64 (Y 8), .int .i64 (Y 9)] 49)).alloc (.cells #[.int .i64 0, .int .i64 0, .int .i64 0, .int .i64 0, .int .i64 0, .int .i64 0, .int .i64 0, .int .i64 0, .int .i64 0, .int .i64 0] 49)) w.heap.size 49 [.int .i64 (X 0), .int .i64 (X 1), .int .i64 (X 2), .int .i64 (X 3), .int .i64 (X 4), .int .i64 (X 5), .int .i64 (X 6), .int .i64 (X 7), .int .i64 (X 8), .int .i64 (X 9)] := (by (repeat' (first | (with_reducible assumption) | (with_reducible refine Blk.top _ (by first | rfl | omega | (simp; done) | (simp; omega)) rfl) | (with_reducible refine Blk.alloc ?_ _) | (with_reducible refine Blk.drew ?_) | (with_reducible refine Blk.drewN ?_ _) | (with_reducible refine Blk.far ?_ (by first | omega | (simp; done) | (simp; omega)) _))))
    have hy : Blk (((w.alloc (.cells #[.int .i64 (X 0), .int .i64 (X 1), .int .i64 (X 2), .int .i64 (X 3), .int .i64 (X 4), .int .i64 (X 5), .int .i64 (X 6), .int .i64 (X 7), .int .i64 (X 8), .int .i64 (X 9)] 49)).alloc (.cells #[.int .i64 (Y 0), .int .i64 (Y 1), .int .i64 (Y 2), .int .i64 (Y 3), .int .i64 (Y 4), .int .i64 (Y 5), .int .i64 (Y 6), .int .i64 (Y 7), .int .i64 (Y 8), .int .i64 (Y 9)] 49)).alloc (.cells #[.int .i64 0, .int .i64 0, .int .i64 0, .int .i64 0, .int .i64 0, .int .i64 0, .int .i64 0, .int .i64 0, .int .i64 0, .int .i64 0] 49)) (w.heap.size + 1) 49 [.int .i64 (Y 0), .int .i64 (Y 1), .int .i64 (Y 2), .int .i64 (Y 3), .int .i64 (Y 4), .int .i64 (Y 5), .int .i64 (Y 6), .int .i64 (Y 7), .int .i64 (Y 8), .int .i64 (Y 9)] := (by (repeat' (first | (with_reducible assumption) | (with_reducible refine Blk.top _ (by first | rfl | omega | (simp; done) | (simp; omega)) rfl) | (with_reducible refine Blk.alloc ?_ _) | (with_reducible refine Blk.drew ?_) | (with_reducible refine Blk.drewN ?_ _) | (with_reducible refine Blk.far ?_ (by first | omega | (simp; done) | (simp; omega)) _))))
    have hz : Blk (((w.alloc (.cells #[.int .i64 (X 0), .int .i64 (X 1), .int .i64 (X 2), .int .i64 (X 3), .int .i64 (X 4), .int .i64 (X 5), .int .i64 (X 6), .int .i64 (X 7), .int .i64 (X 8), .int .i64 (X 9)] 49)).alloc (.cells #[.int .i64 (Y 0), .int .i64 (Y 1), .int .i64 (Y 2), .int .i64 (Y 3), .int .i64 (Y 4), .int .i64 (Y 5), .int .i64 (Y 6), .int .i64 (Y 7), .int .i64 (Y 8), .int .i64 (Y 9)] 49)).alloc (.cells #[.int .i64 0, .int .i64 0, .int .i64 0, .int .i64 0, .int .i64 0, .int .i64 0, .int .i64 0, .int .i64 0, .int .i64 0, .int .i64 0] 49)) (w.heap.size + 2) 49 [.int .i64 (noT 0), .int .i64 (noT 1), .int .i64 (noT 2), .int .i64 (noT 3), .int .i64 (noT 4), .int .i64 (noT 5), .int .i64 (noT 6), .int .i64 (noT 7), .int .i64 (noT 8), .int .i64 (noT 9)] := (by (repeat' (first | (with_reducible assumption) | (with_reducible refine Blk.top _ (by first | rfl | omega | (simp; done) | (simp; omega)) rfl) | (with_reducible refine Blk.alloc ?_ _) | (with_reducible refine Blk.drew ?_) | (with_reducible refine Blk.drewN ?_ _) | (with_reducible refine Blk.far ?_ (by first | omega | (simp; done) | (simp; omega)) _))))
    have hb : Below w.heap.size w (((w.alloc (.cells #[.int .i64 (X 0), .int .i64 (X 1), .int .i64 (X 2), .int .i64 (X 3), .int .i64 (X 4), .int .i64 (X 5), .int .i64 (X 6), .int .i64 (X 7), .int .i64 (X 8), .int .i64 (X 9)] 49)).alloc (.cells #[.int .i64 (Y 0), .int .i64 (Y 1), .int .i64 (Y 2), .int .i64 (Y 3), .int .i64 (Y 4), .int .i64 (Y 5), .int .i64 (Y 6), .int .i64 (Y 7), .int .i64 (Y 8), .int .i64 (Y 9)] 49)).alloc (.cells #[.int .i64 0, .int .i64 0, .int .i64 0, .int .i64 0, .int .i64 0, .int .i64 0, .int .i64 0, .int .i64 0, .int .i64 0, .int .i64 0] 49)) := (by (repeat' (first | (with_reducible exact Below.refl _ _) | (with_reducible assumption) | (with_reducible refine Below.drew ?_) | (with_reducible refine below_drewN ?_ _) | (with_reducible refine Below.alloc ?_ ?_ _) | (with_reducible refine Below.setCell ?_ ?_ _) | omega | (simp; done) | (simp; omega))))
    have hs : w.heap.size + 3 ≤ (((w.alloc (.cells #[.int .i64 (X 0), .int .i64 (X 1), .int .i64 (X 2), .int .i64 (X 3), .int .i64 (X 4), .int .i64 (X 5), .int .i64 (X 6), .int .i64 (X 7), .int .i64 (X 8), .int .i64 (X 9)] 49)).alloc (.cells #[.int .i64 (Y 0), .int .i64 (Y 1), .int .i64 (Y 2), .int .i64 (Y 3), .int .i64 (Y 4), .int .i64 (Y 5), .int .i64 (Y 6), .int .i64 (Y 7), .int .i64 (Y 8), .int .i64 (Y 9)] 49)).alloc (.cells #[.int .i64 0, .int .i64 0, .int .i64 0, .int .i64 0, .int .i64 0, .int .i64 0, .int .i64 0, .int .i64 0, .int .i64 0, .int .i64 0] 49)).heap.size := by simp
    refine wp_region_held_drew (S := fun w' => Blk w' w.heap.size 49 [.int .i64 (X 0), .int .i64 (X 1), .int .i64 (X 2), .int .i64 (X 3), .int .i64 (X 4), .int .i64 (X 5), .int .i64 (X 6), .int .i64 (X 7), .int .i64 (X 8), .int .i64 (X 9)] ∧ Blk w' (w.heap.size + 1) 49 [.int .i64 (Y 0), .int .i64 (Y 1), .int .i64 (Y 2), .int .i64 (Y 3), .int .i64 (Y 4), .int .i64 (Y 5), .int .i64 (Y 6), .int .i64 (Y 7), .int .i64 (Y 8), .int .i64 (Y 9)]) (by kernel_rfl) ⟨hx.drew, hy.drew⟩ (fun hHeld => ?_)
    replace hx := hx.drew
    replace hy := hy.drew
    replace hz := hz.drew
    replace hb := hb.drew
    replace hs : w.heap.size + 3 ≤ (World.drew (((w.alloc (.cells #[.int .i64 (X 0), .int .i64 (X 1), .int .i64 (X 2), .int .i64 (X 3), .int .i64 (X 4), .int .i64 (X 5), .int .i64 (X 6), .int .i64 (X 7), .int .i64 (X 8), .int .i64 (X 9)] 49)).alloc (.cells #[.int .i64 (Y 0), .int .i64 (Y 1), .int .i64 (Y 2), .int .i64 (Y 3), .int .i64 (Y 4), .int .i64 (Y 5), .int .i64 (Y 6), .int .i64 (Y 7), .int .i64 (Y 8), .int .i64 (Y 9)] 49)).alloc (.cells #[.int .i64 0, .int .i64 0, .int .i64 0, .int .i64 0, .int .i64 0, .int .i64 0, .int .i64 0, .int .i64 0, .int .i64 0, .int .i64 0] 49))).heap.size := hs
    generalize World.drew (((w.alloc (.cells #[.int .i64 (X 0), .int .i64 (X 1), .int .i64 (X 2), .int .i64 (X 3), .int .i64 (X 4), .int .i64 (X 5), .int .i64 (X 6), .int .i64 (X 7), .int .i64 (X 8), .int .i64 (X 9)] 49)).alloc (.cells #[.int .i64 (Y 0), .int .i64 (Y 1), .int .i64 (Y 2), .int .i64 (Y 3), .int .i64 (Y 4), .int .i64 (Y 5), .int .i64 (Y 6), .int .i64 (Y 7), .int .i64 (Y 8), .int .i64 (Y 9)] 49)).alloc (.cells #[.int .i64 0, .int .i64 0, .int .i64 0, .int .i64 0, .int .i64 0, .int .i64 0, .int .i64 0, .int .i64 0, .int .i64 0, .int .i64 0] 49)) = W0 at *
    refine wpAnyH_take (i := 0) (v := ?_) rfl (by decide +kernel) (by decide +kernel) (by decide +kernel) (fun _ _ _ h => h) (Or.inl ⟨by rfl, ?_⟩) (by assumption) ?_
    rotate_left 1
    · (intro w hSw; (try dsimp only at hSw); obtain ⟨hX, hY⟩ := hSw; obtain ⟨c0, c1, c2, c3, c4, c5, c6, c7, c8, c9⟩ := blk10 hX; go_simp; rfl)
    try simp only [List.getElem_toArray, List.getElem_cons_zero, List.getElem_cons_succ, Act.put, List.setIfInBounds_toArray, List.set_cons_zero, List.set_cons_succ]
    refine wpAnyH_take (i := 2) (v := ?_) rfl (by decide +kernel) (by decide +kernel) (by decide +kernel) (fun _ _ _ h => h) (Or.inl ⟨by rfl, ?_⟩) (by assumption) ?_
    rotate_left 1
    · (intro w hSw; (try dsimp only at hSw); obtain ⟨hX, hY⟩ := hSw; obtain ⟨c0, c1, c2, c3, c4, c5, c6, c7, c8, c9⟩ := blk10 hY; go_simp; rfl)
    try simp only [List.getElem_toArray, List.getElem_cons_zero, List.getElem_cons_succ, Act.put, List.setIfInBounds_toArray, List.set_cons_zero, List.set_cons_succ]
--GEN
    refine wpAnyH_ready (rs := [1, 4, 5]) (by decide +kernel) (by simp) ?_
    refine AllReadyH.cons rfl (fun K hK => ?_) (AllReadyH.cons rfl (fun K hK => ?_) (AllReadyH.cons rfl (fun K hK => ?_) AllReadyH.nil))
    · go_simp
      (go_at_call 58; (with_reducible refine (hnx _).mono ?_); rintro e w0 ⟨rfl, hb0⟩)
      replace hx := hx.below hb0 hx.lt
      replace hy := hy.below hb0 hy.lt
      replace hz := hz.below hb0 hz.lt
      replace hb := hb.trans (hb0.mono (by omega))
      replace hs := Nat.le_trans hs hb0.size
      clear hb0
      refine hK.out _ _ (⟨hx, hy⟩) (fun hHeld => ?_)
      clear hK K
      try simp only [List.getElem_toArray, List.getElem_cons_zero, List.getElem_cons_succ, Act.put, List.setIfInBounds_toArray, List.set_cons_zero, List.set_cons_succ]
      refine wpAnyH_ready (rs := [3, 4, 5]) (by decide +kernel) (by simp) ?_
      refine AllReadyH.cons rfl (fun K hK => ?_) (AllReadyH.cons rfl (fun K hK => ?_) (AllReadyH.cons rfl (fun K hK => ?_) AllReadyH.nil))
      · go_simp
        (go_at_call 58; (with_reducible refine (hny _).mono ?_); rintro e w1 ⟨rfl, hb1⟩)
        replace hx := hx.below hb1 hx.lt
        replace hy := hy.below hb1 hy.lt
        replace hz := hz.below hb1 hz.lt
        replace hb := hb.trans (hb1.mono (by omega))
        replace hs := Nat.le_trans hs hb1.size
        clear hb1
        refine hK.out _ _ (⟨hx, hy⟩) (fun hHeld => ?_)
        clear hK K
        try simp only [List.getElem_toArray, List.getElem_cons_zero, List.getElem_cons_succ, Act.put, List.setIfInBounds_toArray, List.set_cons_zero, List.set_cons_succ]
        refine wpAnyH_ready (rs := [4, 5]) (by decide +kernel) (by simp) ?_
        refine AllReadyH.cons rfl (fun K hK => ?_) (AllReadyH.cons rfl (fun K hK => ?_) AllReadyH.nil)
        · go_simp
          have h5 := Blk.top (g := (w1).heap.size) (t := 134) (cs := [.int .i64 0, .int .i64 0, .int .i64 0, .int .i64 0, .int .i64 0, .int .i64 0, .int .i64 0, .int .i64 0, .int .i64 0, .int .i64 0]) w1 rfl rfl
          replace hx := hx.alloc (.cells #[.int .i64 0, .int .i64 0, .int .i64 0, .int .i64 0, .int .i64 0, .int .i64 0, .int .i64 0, .int .i64 0, .int .i64 0, .int .i64 0] 134)
          replace hy := hy.alloc (.cells #[.int .i64 0, .int .i64 0, .int .i64 0, .int .i64 0, .int .i64 0, .int .i64 0, .int .i64 0, .int .i64 0, .int .i64 0, .int .i64 0] 134)
          replace hz := hz.alloc (.cells #[.int .i64 0, .int .i64 0, .int .i64 0, .int .i64 0, .int .i64 0, .int .i64 0, .int .i64 0, .int .i64 0, .int .i64 0, .int .i64 0] 134)
          have hge2 : w.heap.size + 3 ≤ (w1).heap.size := hs
          replace hb := hb.alloc (by omega) (.cells #[.int .i64 0, .int .i64 0, .int .i64 0, .int .i64 0, .int .i64 0, .int .i64 0, .int .i64 0, .int .i64 0, .int .i64 0, .int .i64 0] 134)
          obtain ⟨W2, hW2⟩ : ∃ W2, (w1).alloc (.cells #[.int .i64 0, .int .i64 0, .int .i64 0, .int .i64 0, .int .i64 0, .int .i64 0, .int .i64 0, .int .i64 0, .int .i64 0, .int .i64 0] 134) = W2 := ⟨_, rfl⟩
          have hsz2 : (w1).heap.size < W2.heap.size := by rw [← hW2]; simp
          have hs2 : w.heap.size + 3 ≤ W2.heap.size := by omega
          obtain ⟨G2, hG2⟩ : ∃ G2, (w1).heap.size = G2 := ⟨_, rfl⟩
          simp only [hW2, hG2] at *
          clear hW2
          clear hG2
          replace hs : w.heap.size + 3 ≤ W2.heap.size := by omega
          refine hK.out _ _ (⟨hx, hy⟩) (fun hHeld => ?_)
          clear hK K
          try simp only [List.getElem_toArray, List.getElem_cons_zero, List.getElem_cons_succ, Act.put, List.setIfInBounds_toArray, List.set_cons_zero, List.set_cons_succ]
          refine wpAnyH_ready (rs := [5]) (by decide +kernel) (by simp) ?_
          refine AllReadyH.cons rfl (fun K hK => ?_) AllReadyH.nil
          · go_simp
            have hlt3 := h5.lt
            have h6 := Blk.top (g := (W2).heap.size) (t := 134) (cs := [.int .i64 0, .int .i64 0, .int .i64 0, .int .i64 0, .int .i64 0, .int .i64 0, .int .i64 0, .int .i64 0, .int .i64 0, .int .i64 0]) W2 rfl rfl
            replace hx := hx.alloc (.cells #[.int .i64 0, .int .i64 0, .int .i64 0, .int .i64 0, .int .i64 0, .int .i64 0, .int .i64 0, .int .i64 0, .int .i64 0, .int .i64 0] 134)
            replace hy := hy.alloc (.cells #[.int .i64 0, .int .i64 0, .int .i64 0, .int .i64 0, .int .i64 0, .int .i64 0, .int .i64 0, .int .i64 0, .int .i64 0, .int .i64 0] 134)
            replace hz := hz.alloc (.cells #[.int .i64 0, .int .i64 0, .int .i64 0, .int .i64 0, .int .i64 0, .int .i64 0, .int .i64 0, .int .i64 0, .int .i64 0, .int .i64 0] 134)
            replace h5 := h5.alloc (.cells #[.int .i64 0, .int .i64 0, .int .i64 0, .int .i64 0, .int .i64 0, .int .i64 0, .int .i64 0, .int .i64 0, .int .i64 0, .int .i64 0] 134)
            have hge3 : w.heap.size + 3 ≤ (W2).heap.size := hs
            replace hb := hb.alloc (by omega) (.cells #[.int .i64 0, .int .i64 0, .int .i64 0, .int .i64 0, .int .i64 0, .int .i64 0, .int .i64 0, .int .i64 0, .int .i64 0, .int .i64 0] 134)
            obtain ⟨W3, hW3⟩ : ∃ W3, (W2).alloc (.cells #[.int .i64 0, .int .i64 0, .int .i64 0, .int .i64 0, .int .i64 0, .int .i64 0, .int .i64 0, .int .i64 0, .int .i64 0, .int .i64 0] 134) = W3 := ⟨_, rfl⟩
            have hsz3 : (W2).heap.size < W3.heap.size := by rw [← hW3]; simp
            have hs3 : w.heap.size + 3 ≤ W3.heap.size := by omega
            obtain ⟨G3, hG3⟩ : ∃ G3, (W2).heap.size = G3 := ⟨_, rfl⟩
            simp only [hW3, hG3] at *
            clear hW3
            clear hG3
            replace hs : w.heap.size + 3 ≤ W3.heap.size := by omega
            refine hK.out _ _ (⟨hx, hy⟩) (fun hHeld => ?_)
            clear hK K
            try simp only [List.getElem_toArray, List.getElem_cons_zero, List.getElem_cons_succ, Act.put, List.setIfInBounds_toArray, List.set_cons_zero, List.set_cons_succ]
            refine wpAnyH_ready (rs := [6]) (by decide +kernel) (by simp) ?_
            refine AllReadyH.cons rfl (fun K hK => ?_) AllReadyH.nil
            rw [if_pos (by rfl)]
            refine wp_store_eq 134 (.tmp 5) (.tmp 9) rfl G2 0 #[.int .i64 (X 0), .int .i64 (X 1), .int .i64 (X 2), .int .i64 (X 3), .int .i64 (X 4), .int .i64 (X 5), .int .i64 (X 6), .int .i64 (X 7), .int .i64 (X 8), .int .i64 (X 9)] rfl rfl (h5.there 0 10 (by simp)) (by kernel_rfl) (all_oneCell_toArray (tl_one X)) ?_
            intro S4 hS4
            replace h5 : Blk S4 G2 134 [.int .i64 (X 0), .int .i64 (X 1), .int .i64 (X 2), .int .i64 (X 3), .int .i64 (X 4), .int .i64 (X 5), .int .i64 (X 6), .int .i64 (X 7), .int .i64 (X 8), .int .i64 (X 9)] := by rw [hS4]; exact h5.setAll rfl
            replace h6 : Blk S4 G3 134 [.int .i64 0, .int .i64 0, .int .i64 0, .int .i64 0, .int .i64 0, .int .i64 0, .int .i64 0, .int .i64 0, .int .i64 0, .int .i64 0] := by rw [hS4]; exact Blk.setCellsFar (by omega) _ _ _ h6
            replace hx : Blk S4 w.heap.size 49 [.int .i64 (X 0), .int .i64 (X 1), .int .i64 (X 2), .int .i64 (X 3), .int .i64 (X 4), .int .i64 (X 5), .int .i64 (X 6), .int .i64 (X 7), .int .i64 (X 8), .int .i64 (X 9)] := by rw [hS4]; exact Blk.setCellsFar (by omega) _ _ _ hx
            replace hy : Blk S4 (w.heap.size + 1) 49 [.int .i64 (Y 0), .int .i64 (Y 1), .int .i64 (Y 2), .int .i64 (Y 3), .int .i64 (Y 4), .int .i64 (Y 5), .int .i64 (Y 6), .int .i64 (Y 7), .int .i64 (Y 8), .int .i64 (Y 9)] := by rw [hS4]; exact Blk.setCellsFar (by omega) _ _ _ hy
            replace hz : Blk S4 (w.heap.size + 2) 49 [.int .i64 (noT 0), .int .i64 (noT 1), .int .i64 (noT 2), .int .i64 (noT 3), .int .i64 (noT 4), .int .i64 (noT 5), .int .i64 (noT 6), .int .i64 (noT 7), .int .i64 (noT 8), .int .i64 (noT 9)] := by rw [hS4]; exact Blk.setCellsFar (by omega) _ _ _ hz
            replace hb : Below w.heap.size w S4 := by rw [hS4]; exact below_setCells hb (by omega) _ _
            clear hS4
            refine hK.out _ _ (⟨hx, hy⟩) (fun hHeld => ?_)
            clear hK K
            try simp only [List.getElem_toArray, List.getElem_cons_zero, List.getElem_cons_succ, Act.put, List.setIfInBounds_toArray, List.set_cons_zero, List.set_cons_succ]
            refine wpAnyH_ready (rs := [7]) (by decide +kernel) (by simp) ?_
            refine AllReadyH.cons rfl (fun K hK => ?_) AllReadyH.nil
            rw [if_pos (by rfl)]
            refine wp_store_eq 134 (.tmp 6) (.tmp 11) rfl G3 0 #[.int .i64 (Y 0), .int .i64 (Y 1), .int .i64 (Y 2), .int .i64 (Y 3), .int .i64 (Y 4), .int .i64 (Y 5), .int .i64 (Y 6), .int .i64 (Y 7), .int .i64 (Y 8), .int .i64 (Y 9)] rfl rfl (h6.there 0 10 (by simp)) (by kernel_rfl) (all_oneCell_toArray (tl_one Y)) ?_
            intro V4 hV4
            replace h6 : Blk V4 G3 134 [.int .i64 (Y 0), .int .i64 (Y 1), .int .i64 (Y 2), .int .i64 (Y 3), .int .i64 (Y 4), .int .i64 (Y 5), .int .i64 (Y 6), .int .i64 (Y 7), .int .i64 (Y 8), .int .i64 (Y 9)] := by rw [hV4]; exact h6.setAll rfl
            replace h5 : Blk V4 G2 134 [.int .i64 (X 0), .int .i64 (X 1), .int .i64 (X 2), .int .i64 (X 3), .int .i64 (X 4), .int .i64 (X 5), .int .i64 (X 6), .int .i64 (X 7), .int .i64 (X 8), .int .i64 (X 9)] := by rw [hV4]; exact Blk.setCellsFar (by omega) _ _ _ h5
            replace hx : Blk V4 w.heap.size 49 [.int .i64 (X 0), .int .i64 (X 1), .int .i64 (X 2), .int .i64 (X 3), .int .i64 (X 4), .int .i64 (X 5), .int .i64 (X 6), .int .i64 (X 7), .int .i64 (X 8), .int .i64 (X 9)] := by rw [hV4]; exact Blk.setCellsFar (by omega) _ _ _ hx
            replace hy : Blk V4 (w.heap.size + 1) 49 [.int .i64 (Y 0), .int .i64 (Y 1), .int .i64 (Y 2), .int .i64 (Y 3), .int .i64 (Y 4), .int .i64 (Y 5), .int .i64 (Y 6), .int .i64 (Y 7), .int .i64 (Y 8), .int .i64 (Y 9)] := by rw [hV4]; exact Blk.setCellsFar (by omega) _ _ _ hy
            replace hz : Blk V4 (w.heap.size + 2) 49 [.int .i64 (noT 0), .int .i64 (noT 1), .int .i64 (noT 2), .int .i64 (noT 3), .int .i64 (noT 4), .int .i64 (noT 5), .int .i64 (noT 6), .int .i64 (noT 7), .int .i64 (noT 8), .int .i64 (noT 9)] := by rw [hV4]; exact Blk.setCellsFar (by omega) _ _ _ hz
            replace hb : Below w.heap.size w V4 := by rw [hV4]; exact below_setCells hb (by omega) _ _
            clear hV4
            refine hK.out _ _ (⟨hx, hy⟩) (fun hHeld => ?_)
            clear hK K
            try simp only [List.getElem_toArray, List.getElem_cons_zero, List.getElem_cons_succ, Act.put, List.setIfInBounds_toArray, List.set_cons_zero, List.set_cons_succ]
            refine wpAnyH_done (by decide +kernel) ?_ _
            go_wp2
            go_meet
            exact ⟨G2, G3, rfl, rfl, by omega, h5, h6, by omega, by omega, hz, hb⟩
        · go_simp
          have h6 := Blk.top (g := (w1).heap.size) (t := 134) (cs := [.int .i64 0, .int .i64 0, .int .i64 0, .int .i64 0, .int .i64 0, .int .i64 0, .int .i64 0, .int .i64 0, .int .i64 0, .int .i64 0]) w1 rfl rfl
          replace hx := hx.alloc (.cells #[.int .i64 0, .int .i64 0, .int .i64 0, .int .i64 0, .int .i64 0, .int .i64 0, .int .i64 0, .int .i64 0, .int .i64 0, .int .i64 0] 134)
          replace hy := hy.alloc (.cells #[.int .i64 0, .int .i64 0, .int .i64 0, .int .i64 0, .int .i64 0, .int .i64 0, .int .i64 0, .int .i64 0, .int .i64 0, .int .i64 0] 134)
          replace hz := hz.alloc (.cells #[.int .i64 0, .int .i64 0, .int .i64 0, .int .i64 0, .int .i64 0, .int .i64 0, .int .i64 0, .int .i64 0, .int .i64 0, .int .i64 0] 134)
          have hge5 : w.heap.size + 3 ≤ (w1).heap.size := hs
          replace hb := hb.alloc (by omega) (.cells #[.int .i64 0, .int .i64 0, .int .i64 0, .int .i64 0, .int .i64 0, .int .i64 0, .int .i64 0, .int .i64 0, .int .i64 0, .int .i64 0] 134)
          obtain ⟨W5, hW5⟩ : ∃ W5, (w1).alloc (.cells #[.int .i64 0, .int .i64 0, .int .i64 0, .int .i64 0, .int .i64 0, .int .i64 0, .int .i64 0, .int .i64 0, .int .i64 0, .int .i64 0] 134) = W5 := ⟨_, rfl⟩
          have hsz5 : (w1).heap.size < W5.heap.size := by rw [← hW5]; simp
          have hs5 : w.heap.size + 3 ≤ W5.heap.size := by omega
          obtain ⟨G5, hG5⟩ : ∃ G5, (w1).heap.size = G5 := ⟨_, rfl⟩
          simp only [hW5, hG5] at *
          clear hW5
          clear hG5
          replace hs : w.heap.size + 3 ≤ W5.heap.size := by omega
          refine hK.out _ _ (⟨hx, hy⟩) (fun hHeld => ?_)
          clear hK K
          try simp only [List.getElem_toArray, List.getElem_cons_zero, List.getElem_cons_succ, Act.put, List.setIfInBounds_toArray, List.set_cons_zero, List.set_cons_succ]
          refine wpAnyH_ready (rs := [4]) (by decide +kernel) (by simp) ?_
          refine AllReadyH.cons rfl (fun K hK => ?_) AllReadyH.nil
          · go_simp
            have hlt6 := h6.lt
            have h5 := Blk.top (g := (W5).heap.size) (t := 134) (cs := [.int .i64 0, .int .i64 0, .int .i64 0, .int .i64 0, .int .i64 0, .int .i64 0, .int .i64 0, .int .i64 0, .int .i64 0, .int .i64 0]) W5 rfl rfl
            replace hx := hx.alloc (.cells #[.int .i64 0, .int .i64 0, .int .i64 0, .int .i64 0, .int .i64 0, .int .i64 0, .int .i64 0, .int .i64 0, .int .i64 0, .int .i64 0] 134)
            replace hy := hy.alloc (.cells #[.int .i64 0, .int .i64 0, .int .i64 0, .int .i64 0, .int .i64 0, .int .i64 0, .int .i64 0, .int .i64 0, .int .i64 0, .int .i64 0] 134)
            replace hz := hz.alloc (.cells #[.int .i64 0, .int .i64 0, .int .i64 0, .int .i64 0, .int .i64 0, .int .i64 0, .int .i64 0, .int .i64 0, .int .i64 0, .int .i64 0] 134)
            replace h6 := h6.alloc (.cells #[.int .i64 0, .int .i64 0, .int .i64 0, .int .i64 0, .int .i64 0, .int .i64 0, .int .i64 0, .int .i64 0, .int .i64 0, .int .i64 0] 134)
            have hge6 : w.heap.size + 3 ≤ (W5).heap.size := hs
            replace hb := hb.alloc (by omega) (.cells #[.int .i64 0, .int .i64 0, .int .i64 0, .int .i64 0, .int .i64 0, .int .i64 0, .int .i64 0, .int .i64 0, .int .i64 0, .int .i64 0] 134)
            obtain ⟨W6, hW6⟩ : ∃ W6, (W5).alloc (.cells #[.int .i64 0, .int .i64 0, .int .i64 0, .int .i64 0, .int .i64 0, .int .i64 0, .int .i64 0, .int .i64 0, .int .i64 0, .int .i64 0] 134) = W6 := ⟨_, rfl⟩
            have hsz6 : (W5).heap.size < W6.heap.size := by rw [← hW6]; simp
            have hs6 : w.heap.size + 3 ≤ W6.heap.size := by omega
            obtain ⟨G6, hG6⟩ : ∃ G6, (W5).heap.size = G6 := ⟨_, rfl⟩
            simp only [hW6, hG6] at *
            clear hW6
            clear hG6
            replace hs : w.heap.size + 3 ≤ W6.heap.size := by omega
            refine hK.out _ _ (⟨hx, hy⟩) (fun hHeld => ?_)
            clear hK K
            try simp only [List.getElem_toArray, List.getElem_cons_zero, List.getElem_cons_succ, Act.put, List.setIfInBounds_toArray, List.set_cons_zero, List.set_cons_succ]
            refine wpAnyH_ready (rs := [6]) (by decide +kernel) (by simp) ?_
            refine AllReadyH.cons rfl (fun K hK => ?_) AllReadyH.nil
            rw [if_pos (by rfl)]
            refine wp_store_eq 134 (.tmp 5) (.tmp 9) rfl G6 0 #[.int .i64 (X 0), .int .i64 (X 1), .int .i64 (X 2), .int .i64 (X 3), .int .i64 (X 4), .int .i64 (X 5), .int .i64 (X 6), .int .i64 (X 7), .int .i64 (X 8), .int .i64 (X 9)] rfl rfl (h5.there 0 10 (by simp)) (by kernel_rfl) (all_oneCell_toArray (tl_one X)) ?_
            intro S7 hS7
            replace h5 : Blk S7 G6 134 [.int .i64 (X 0), .int .i64 (X 1), .int .i64 (X 2), .int .i64 (X 3), .int .i64 (X 4), .int .i64 (X 5), .int .i64 (X 6), .int .i64 (X 7), .int .i64 (X 8), .int .i64 (X 9)] := by rw [hS7]; exact h5.setAll rfl
            replace h6 : Blk S7 G5 134 [.int .i64 0, .int .i64 0, .int .i64 0, .int .i64 0, .int .i64 0, .int .i64 0, .int .i64 0, .int .i64 0, .int .i64 0, .int .i64 0] := by rw [hS7]; exact Blk.setCellsFar (by omega) _ _ _ h6
            replace hx : Blk S7 w.heap.size 49 [.int .i64 (X 0), .int .i64 (X 1), .int .i64 (X 2), .int .i64 (X 3), .int .i64 (X 4), .int .i64 (X 5), .int .i64 (X 6), .int .i64 (X 7), .int .i64 (X 8), .int .i64 (X 9)] := by rw [hS7]; exact Blk.setCellsFar (by omega) _ _ _ hx
            replace hy : Blk S7 (w.heap.size + 1) 49 [.int .i64 (Y 0), .int .i64 (Y 1), .int .i64 (Y 2), .int .i64 (Y 3), .int .i64 (Y 4), .int .i64 (Y 5), .int .i64 (Y 6), .int .i64 (Y 7), .int .i64 (Y 8), .int .i64 (Y 9)] := by rw [hS7]; exact Blk.setCellsFar (by omega) _ _ _ hy
            replace hz : Blk S7 (w.heap.size + 2) 49 [.int .i64 (noT 0), .int .i64 (noT 1), .int .i64 (noT 2), .int .i64 (noT 3), .int .i64 (noT 4), .int .i64 (noT 5), .int .i64 (noT 6), .int .i64 (noT 7), .int .i64 (noT 8), .int .i64 (noT 9)] := by rw [hS7]; exact Blk.setCellsFar (by omega) _ _ _ hz
            replace hb : Below w.heap.size w S7 := by rw [hS7]; exact below_setCells hb (by omega) _ _
            clear hS7
            refine hK.out _ _ (⟨hx, hy⟩) (fun hHeld => ?_)
            clear hK K
            try simp only [List.getElem_toArray, List.getElem_cons_zero, List.getElem_cons_succ, Act.put, List.setIfInBounds_toArray, List.set_cons_zero, List.set_cons_succ]
            refine wpAnyH_ready (rs := [7]) (by decide +kernel) (by simp) ?_
            refine AllReadyH.cons rfl (fun K hK => ?_) AllReadyH.nil
            rw [if_pos (by rfl)]
            refine wp_store_eq 134 (.tmp 6) (.tmp 11) rfl G5 0 #[.int .i64 (Y 0), .int .i64 (Y 1), .int .i64 (Y 2), .int .i64 (Y 3), .int .i64 (Y 4), .int .i64 (Y 5), .int .i64 (Y 6), .int .i64 (Y 7), .int .i64 (Y 8), .int .i64 (Y 9)] rfl rfl (h6.there 0 10 (by simp)) (by kernel_rfl) (all_oneCell_toArray (tl_one Y)) ?_
            intro V7 hV7
            replace h6 : Blk V7 G5 134 [.int .i64 (Y 0), .int .i64 (Y 1), .int .i64 (Y 2), .int .i64 (Y 3), .int .i64 (Y 4), .int .i64 (Y 5), .int .i64 (Y 6), .int .i64 (Y 7), .int .i64 (Y 8), .int .i64 (Y 9)] := by rw [hV7]; exact h6.setAll rfl
            replace h5 : Blk V7 G6 134 [.int .i64 (X 0), .int .i64 (X 1), .int .i64 (X 2), .int .i64 (X 3), .int .i64 (X 4), .int .i64 (X 5), .int .i64 (X 6), .int .i64 (X 7), .int .i64 (X 8), .int .i64 (X 9)] := by rw [hV7]; exact Blk.setCellsFar (by omega) _ _ _ h5
            replace hx : Blk V7 w.heap.size 49 [.int .i64 (X 0), .int .i64 (X 1), .int .i64 (X 2), .int .i64 (X 3), .int .i64 (X 4), .int .i64 (X 5), .int .i64 (X 6), .int .i64 (X 7), .int .i64 (X 8), .int .i64 (X 9)] := by rw [hV7]; exact Blk.setCellsFar (by omega) _ _ _ hx
            replace hy : Blk V7 (w.heap.size + 1) 49 [.int .i64 (Y 0), .int .i64 (Y 1), .int .i64 (Y 2), .int .i64 (Y 3), .int .i64 (Y 4), .int .i64 (Y 5), .int .i64 (Y 6), .int .i64 (Y 7), .int .i64 (Y 8), .int .i64 (Y 9)] := by rw [hV7]; exact Blk.setCellsFar (by omega) _ _ _ hy
            replace hz : Blk V7 (w.heap.size + 2) 49 [.int .i64 (noT 0), .int .i64 (noT 1), .int .i64 (noT 2), .int .i64 (noT 3), .int .i64 (noT 4), .int .i64 (noT 5), .int .i64 (noT 6), .int .i64 (noT 7), .int .i64 (noT 8), .int .i64 (noT 9)] := by rw [hV7]; exact Blk.setCellsFar (by omega) _ _ _ hz
            replace hb : Below w.heap.size w V7 := by rw [hV7]; exact below_setCells hb (by omega) _ _
            clear hV7
            refine hK.out _ _ (⟨hx, hy⟩) (fun hHeld => ?_)
            clear hK K
            try simp only [List.getElem_toArray, List.getElem_cons_zero, List.getElem_cons_succ, Act.put, List.setIfInBounds_toArray, List.set_cons_zero, List.set_cons_succ]
            refine wpAnyH_done (by decide +kernel) ?_ _
            go_wp2
            go_meet
            exact ⟨G6, G5, rfl, rfl, by omega, h5, h6, by omega, by omega, hz, hb⟩
      · go_simp
        have h5 := Blk.top (g := (w0).heap.size) (t := 134) (cs := [.int .i64 0, .int .i64 0, .int .i64 0, .int .i64 0, .int .i64 0, .int .i64 0, .int .i64 0, .int .i64 0, .int .i64 0, .int .i64 0]) w0 rfl rfl
        replace hx := hx.alloc (.cells #[.int .i64 0, .int .i64 0, .int .i64 0, .int .i64 0, .int .i64 0, .int .i64 0, .int .i64 0, .int .i64 0, .int .i64 0, .int .i64 0] 134)
        replace hy := hy.alloc (.cells #[.int .i64 0, .int .i64 0, .int .i64 0, .int .i64 0, .int .i64 0, .int .i64 0, .int .i64 0, .int .i64 0, .int .i64 0, .int .i64 0] 134)
        replace hz := hz.alloc (.cells #[.int .i64 0, .int .i64 0, .int .i64 0, .int .i64 0, .int .i64 0, .int .i64 0, .int .i64 0, .int .i64 0, .int .i64 0, .int .i64 0] 134)
        have hge8 : w.heap.size + 3 ≤ (w0).heap.size := hs
        replace hb := hb.alloc (by omega) (.cells #[.int .i64 0, .int .i64 0, .int .i64 0, .int .i64 0, .int .i64 0, .int .i64 0, .int .i64 0, .int .i64 0, .int .i64 0, .int .i64 0] 134)
        obtain ⟨W8, hW8⟩ : ∃ W8, (w0).alloc (.cells #[.int .i64 0, .int .i64 0, .int .i64 0, .int .i64 0, .int .i64 0, .int .i64 0, .int .i64 0, .int .i64 0, .int .i64 0, .int .i64 0] 134) = W8 := ⟨_, rfl⟩
        have hsz8 : (w0).heap.size < W8.heap.size := by rw [← hW8]; simp
        have hs8 : w.heap.size + 3 ≤ W8.heap.size := by omega
        obtain ⟨G8, hG8⟩ : ∃ G8, (w0).heap.size = G8 := ⟨_, rfl⟩
        simp only [hW8, hG8] at *
        clear hW8
        clear hG8
        replace hs : w.heap.size + 3 ≤ W8.heap.size := by omega
        refine hK.out _ _ (⟨hx, hy⟩) (fun hHeld => ?_)
        clear hK K
        try simp only [List.getElem_toArray, List.getElem_cons_zero, List.getElem_cons_succ, Act.put, List.setIfInBounds_toArray, List.set_cons_zero, List.set_cons_succ]
        refine wpAnyH_ready (rs := [3, 5]) (by decide +kernel) (by simp) ?_
        refine AllReadyH.cons rfl (fun K hK => ?_) (AllReadyH.cons rfl (fun K hK => ?_) AllReadyH.nil)
        · go_simp
          (go_at_call 58; (with_reducible refine (hny _).mono ?_); rintro e w9 ⟨rfl, hb9⟩)
          replace hx := hx.below hb9 hx.lt
          replace hy := hy.below hb9 hy.lt
          replace hz := hz.below hb9 hz.lt
          replace h5 := h5.below hb9 h5.lt
          replace hb := hb.trans (hb9.mono (by omega))
          replace hs := Nat.le_trans hs hb9.size
          clear hb9
          refine hK.out _ _ (⟨hx, hy⟩) (fun hHeld => ?_)
          clear hK K
          try simp only [List.getElem_toArray, List.getElem_cons_zero, List.getElem_cons_succ, Act.put, List.setIfInBounds_toArray, List.set_cons_zero, List.set_cons_succ]
          refine wpAnyH_ready (rs := [5]) (by decide +kernel) (by simp) ?_
          refine AllReadyH.cons rfl (fun K hK => ?_) AllReadyH.nil
          · go_simp
            have hlt10 := h5.lt
            have h6 := Blk.top (g := (w9).heap.size) (t := 134) (cs := [.int .i64 0, .int .i64 0, .int .i64 0, .int .i64 0, .int .i64 0, .int .i64 0, .int .i64 0, .int .i64 0, .int .i64 0, .int .i64 0]) w9 rfl rfl
            replace hx := hx.alloc (.cells #[.int .i64 0, .int .i64 0, .int .i64 0, .int .i64 0, .int .i64 0, .int .i64 0, .int .i64 0, .int .i64 0, .int .i64 0, .int .i64 0] 134)
            replace hy := hy.alloc (.cells #[.int .i64 0, .int .i64 0, .int .i64 0, .int .i64 0, .int .i64 0, .int .i64 0, .int .i64 0, .int .i64 0, .int .i64 0, .int .i64 0] 134)
            replace hz := hz.alloc (.cells #[.int .i64 0, .int .i64 0, .int .i64 0, .int .i64 0, .int .i64 0, .int .i64 0, .int .i64 0, .int .i64 0, .int .i64 0, .int .i64 0] 134)
            replace h5 := h5.alloc (.cells #[.int .i64 0, .int .i64 0, .int .i64 0, .int .i64 0, .int .i64 0, .int .i64 0, .int .i64 0, .int .i64 0, .int .i64 0, .int .i64 0] 134)
            have hge10 : w.heap.size + 3 ≤ (w9).heap.size := hs
            replace hb := hb.alloc (by omega) (.cells #[.int .i64 0, .int .i64 0, .int .i64 0, .int .i64 0, .int .i64 0, .int .i64 0, .int .i64 0, .int .i64 0, .int .i64 0, .int .i64 0] 134)
            obtain ⟨W10, hW10⟩ : ∃ W10, (w9).alloc (.cells #[.int .i64 0, .int .i64 0, .int .i64 0, .int .i64 0, .int .i64 0, .int .i64 0, .int .i64 0, .int .i64 0, .int .i64 0, .int .i64 0] 134) = W10 := ⟨_, rfl⟩
            have hsz10 : (w9).heap.size < W10.heap.size := by rw [← hW10]; simp
            have hs10 : w.heap.size + 3 ≤ W10.heap.size := by omega
            obtain ⟨G10, hG10⟩ : ∃ G10, (w9).heap.size = G10 := ⟨_, rfl⟩
            simp only [hW10, hG10] at *
            clear hW10
            clear hG10
            replace hs : w.heap.size + 3 ≤ W10.heap.size := by omega
            refine hK.out _ _ (⟨hx, hy⟩) (fun hHeld => ?_)
            clear hK K
            try simp only [List.getElem_toArray, List.getElem_cons_zero, List.getElem_cons_succ, Act.put, List.setIfInBounds_toArray, List.set_cons_zero, List.set_cons_succ]
            refine wpAnyH_ready (rs := [6]) (by decide +kernel) (by simp) ?_
            refine AllReadyH.cons rfl (fun K hK => ?_) AllReadyH.nil
            rw [if_pos (by rfl)]
            refine wp_store_eq 134 (.tmp 5) (.tmp 9) rfl G8 0 #[.int .i64 (X 0), .int .i64 (X 1), .int .i64 (X 2), .int .i64 (X 3), .int .i64 (X 4), .int .i64 (X 5), .int .i64 (X 6), .int .i64 (X 7), .int .i64 (X 8), .int .i64 (X 9)] rfl rfl (h5.there 0 10 (by simp)) (by kernel_rfl) (all_oneCell_toArray (tl_one X)) ?_
            intro S11 hS11
            replace h5 : Blk S11 G8 134 [.int .i64 (X 0), .int .i64 (X 1), .int .i64 (X 2), .int .i64 (X 3), .int .i64 (X 4), .int .i64 (X 5), .int .i64 (X 6), .int .i64 (X 7), .int .i64 (X 8), .int .i64 (X 9)] := by rw [hS11]; exact h5.setAll rfl
            replace h6 : Blk S11 G10 134 [.int .i64 0, .int .i64 0, .int .i64 0, .int .i64 0, .int .i64 0, .int .i64 0, .int .i64 0, .int .i64 0, .int .i64 0, .int .i64 0] := by rw [hS11]; exact Blk.setCellsFar (by omega) _ _ _ h6
            replace hx : Blk S11 w.heap.size 49 [.int .i64 (X 0), .int .i64 (X 1), .int .i64 (X 2), .int .i64 (X 3), .int .i64 (X 4), .int .i64 (X 5), .int .i64 (X 6), .int .i64 (X 7), .int .i64 (X 8), .int .i64 (X 9)] := by rw [hS11]; exact Blk.setCellsFar (by omega) _ _ _ hx
            replace hy : Blk S11 (w.heap.size + 1) 49 [.int .i64 (Y 0), .int .i64 (Y 1), .int .i64 (Y 2), .int .i64 (Y 3), .int .i64 (Y 4), .int .i64 (Y 5), .int .i64 (Y 6), .int .i64 (Y 7), .int .i64 (Y 8), .int .i64 (Y 9)] := by rw [hS11]; exact Blk.setCellsFar (by omega) _ _ _ hy
            replace hz : Blk S11 (w.heap.size + 2) 49 [.int .i64 (noT 0), .int .i64 (noT 1), .int .i64 (noT 2), .int .i64 (noT 3), .int .i64 (noT 4), .int .i64 (noT 5), .int .i64 (noT 6), .int .i64 (noT 7), .int .i64 (noT 8), .int .i64 (noT 9)] := by rw [hS11]; exact Blk.setCellsFar (by omega) _ _ _ hz
            replace hb : Below w.heap.size w S11 := by rw [hS11]; exact below_setCells hb (by omega) _ _
            clear hS11
            refine hK.out _ _ (⟨hx, hy⟩) (fun hHeld => ?_)
            clear hK K
            try simp only [List.getElem_toArray, List.getElem_cons_zero, List.getElem_cons_succ, Act.put, List.setIfInBounds_toArray, List.set_cons_zero, List.set_cons_succ]
            refine wpAnyH_ready (rs := [7]) (by decide +kernel) (by simp) ?_
            refine AllReadyH.cons rfl (fun K hK => ?_) AllReadyH.nil
            rw [if_pos (by rfl)]
            refine wp_store_eq 134 (.tmp 6) (.tmp 11) rfl G10 0 #[.int .i64 (Y 0), .int .i64 (Y 1), .int .i64 (Y 2), .int .i64 (Y 3), .int .i64 (Y 4), .int .i64 (Y 5), .int .i64 (Y 6), .int .i64 (Y 7), .int .i64 (Y 8), .int .i64 (Y 9)] rfl rfl (h6.there 0 10 (by simp)) (by kernel_rfl) (all_oneCell_toArray (tl_one Y)) ?_
            intro V11 hV11
            replace h6 : Blk V11 G10 134 [.int .i64 (Y 0), .int .i64 (Y 1), .int .i64 (Y 2), .int .i64 (Y 3), .int .i64 (Y 4), .int .i64 (Y 5), .int .i64 (Y 6), .int .i64 (Y 7), .int .i64 (Y 8), .int .i64 (Y 9)] := by rw [hV11]; exact h6.setAll rfl
            replace h5 : Blk V11 G8 134 [.int .i64 (X 0), .int .i64 (X 1), .int .i64 (X 2), .int .i64 (X 3), .int .i64 (X 4), .int .i64 (X 5), .int .i64 (X 6), .int .i64 (X 7), .int .i64 (X 8), .int .i64 (X 9)] := by rw [hV11]; exact Blk.setCellsFar (by omega) _ _ _ h5
            replace hx : Blk V11 w.heap.size 49 [.int .i64 (X 0), .int .i64 (X 1), .int .i64 (X 2), .int .i64 (X 3), .int .i64 (X 4), .int .i64 (X 5), .int .i64 (X 6), .int .i64 (X 7), .int .i64 (X 8), .int .i64 (X 9)] := by rw [hV11]; exact Blk.setCellsFar (by omega) _ _ _ hx
            replace hy : Blk V11 (w.heap.size + 1) 49 [.int .i64 (Y 0), .int .i64 (Y 1), .int .i64 (Y 2), .int .i64 (Y 3), .int .i64 (Y 4), .int .i64 (Y 5), .int .i64 (Y 6), .int .i64 (Y 7), .int .i64 (Y 8), .int .i64 (Y 9)] := by rw [hV11]; exact Blk.setCellsFar (by omega) _ _ _ hy
            replace hz : Blk V11 (w.heap.size + 2) 49 [.int .i64 (noT 0), .int .i64 (noT 1), .int .i64 (noT 2), .int .i64 (noT 3), .int .i64 (noT 4), .int .i64 (noT 5), .int .i64 (noT 6), .int .i64 (noT 7), .int .i64 (noT 8), .int .i64 (noT 9)] := by rw [hV11]; exact Blk.setCellsFar (by omega) _ _ _ hz
            replace hb : Below w.heap.size w V11 := by rw [hV11]; exact below_setCells hb (by omega) _ _
            clear hV11
            refine hK.out _ _ (⟨hx, hy⟩) (fun hHeld => ?_)
            clear hK K
            try simp only [List.getElem_toArray, List.getElem_cons_zero, List.getElem_cons_succ, Act.put, List.setIfInBounds_toArray, List.set_cons_zero, List.set_cons_succ]
            refine wpAnyH_done (by decide +kernel) ?_ _
            go_wp2
            go_meet
            exact ⟨G8, G10, rfl, rfl, by omega, h5, h6, by omega, by omega, hz, hb⟩
        · go_simp
          have hlt12 := h5.lt
          have h6 := Blk.top (g := (W8).heap.size) (t := 134) (cs := [.int .i64 0, .int .i64 0, .int .i64 0, .int .i64 0, .int .i64 0, .int .i64 0, .int .i64 0, .int .i64 0, .int .i64 0, .int .i64 0]) W8 rfl rfl
          replace hx := hx.alloc (.cells #[.int .i64 0, .int .i64 0, .int .i64 0, .int .i64 0, .int .i64 0, .int .i64 0, .int .i64 0, .int .i64 0, .int .i64 0, .int .i64 0] 134)
          replace hy := hy.alloc (.cells #[.int .i64 0, .int .i64 0, .int .i64 0, .int .i64 0, .int .i64 0, .int .i64 0, .int .i64 0, .int .i64 0, .int .i64 0, .int .i64 0] 134)
          replace hz := hz.alloc (.cells #[.int .i64 0, .int .i64 0, .int .i64 0, .int .i64 0, .int .i64 0, .int .i64 0, .int .i64 0, .int .i64 0, .int .i64 0, .int .i64 0] 134)
          replace h5 := h5.alloc (.cells #[.int .i64 0, .int .i64 0, .int .i64 0, .int .i64 0, .int .i64 0, .int .i64 0, .int .i64 0, .int .i64 0, .int .i64 0, .int .i64 0] 134)
          have hge12 : w.heap.size + 3 ≤ (W8).heap.size := hs
          replace hb := hb.alloc (by omega) (.cells #[.int .i64 0, .int .i64 0, .int .i64 0, .int .i64 0, .int .i64 0, .int .i64 0, .int .i64 0, .int .i64 0, .int .i64 0, .int .i64 0] 134)
          obtain ⟨W12, hW12⟩ : ∃ W12, (W8).alloc (.cells #[.int .i64 0, .int .i64 0, .int .i64 0, .int .i64 0, .int .i64 0, .int .i64 0, .int .i64 0, .int .i64 0, .int .i64 0, .int .i64 0] 134) = W12 := ⟨_, rfl⟩
          have hsz12 : (W8).heap.size < W12.heap.size := by rw [← hW12]; simp
          have hs12 : w.heap.size + 3 ≤ W12.heap.size := by omega
          obtain ⟨G12, hG12⟩ : ∃ G12, (W8).heap.size = G12 := ⟨_, rfl⟩
          simp only [hW12, hG12] at *
          clear hW12
          clear hG12
          replace hs : w.heap.size + 3 ≤ W12.heap.size := by omega
          refine hK.out _ _ (⟨hx, hy⟩) (fun hHeld => ?_)
          clear hK K
          try simp only [List.getElem_toArray, List.getElem_cons_zero, List.getElem_cons_succ, Act.put, List.setIfInBounds_toArray, List.set_cons_zero, List.set_cons_succ]
          refine wpAnyH_ready (rs := [3]) (by decide +kernel) (by simp) ?_
          refine AllReadyH.cons rfl (fun K hK => ?_) AllReadyH.nil
          · go_simp
            (go_at_call 58; (with_reducible refine (hny _).mono ?_); rintro e w13 ⟨rfl, hb13⟩)
            replace hx := hx.below hb13 hx.lt
            replace hy := hy.below hb13 hy.lt
            replace hz := hz.below hb13 hz.lt
            replace h5 := h5.below hb13 h5.lt
            replace h6 := h6.below hb13 h6.lt
            replace hb := hb.trans (hb13.mono (by omega))
            replace hs := Nat.le_trans hs hb13.size
            clear hb13
            refine hK.out _ _ (⟨hx, hy⟩) (fun hHeld => ?_)
            clear hK K
            try simp only [List.getElem_toArray, List.getElem_cons_zero, List.getElem_cons_succ, Act.put, List.setIfInBounds_toArray, List.set_cons_zero, List.set_cons_succ]
            refine wpAnyH_ready (rs := [6]) (by decide +kernel) (by simp) ?_
            refine AllReadyH.cons rfl (fun K hK => ?_) AllReadyH.nil
            rw [if_pos (by rfl)]
            refine wp_store_eq 134 (.tmp 5) (.tmp 9) rfl G8 0 #[.int .i64 (X 0), .int .i64 (X 1), .int .i64 (X 2), .int .i64 (X 3), .int .i64 (X 4), .int .i64 (X 5), .int .i64 (X 6), .int .i64 (X 7), .int .i64 (X 8), .int .i64 (X 9)] rfl rfl (h5.there 0 10 (by simp)) (by kernel_rfl) (all_oneCell_toArray (tl_one X)) ?_
            intro S14 hS14
            replace h5 : Blk S14 G8 134 [.int .i64 (X 0), .int .i64 (X 1), .int .i64 (X 2), .int .i64 (X 3), .int .i64 (X 4), .int .i64 (X 5), .int .i64 (X 6), .int .i64 (X 7), .int .i64 (X 8), .int .i64 (X 9)] := by rw [hS14]; exact h5.setAll rfl
            replace h6 : Blk S14 G12 134 [.int .i64 0, .int .i64 0, .int .i64 0, .int .i64 0, .int .i64 0, .int .i64 0, .int .i64 0, .int .i64 0, .int .i64 0, .int .i64 0] := by rw [hS14]; exact Blk.setCellsFar (by omega) _ _ _ h6
            replace hx : Blk S14 w.heap.size 49 [.int .i64 (X 0), .int .i64 (X 1), .int .i64 (X 2), .int .i64 (X 3), .int .i64 (X 4), .int .i64 (X 5), .int .i64 (X 6), .int .i64 (X 7), .int .i64 (X 8), .int .i64 (X 9)] := by rw [hS14]; exact Blk.setCellsFar (by omega) _ _ _ hx
            replace hy : Blk S14 (w.heap.size + 1) 49 [.int .i64 (Y 0), .int .i64 (Y 1), .int .i64 (Y 2), .int .i64 (Y 3), .int .i64 (Y 4), .int .i64 (Y 5), .int .i64 (Y 6), .int .i64 (Y 7), .int .i64 (Y 8), .int .i64 (Y 9)] := by rw [hS14]; exact Blk.setCellsFar (by omega) _ _ _ hy
            replace hz : Blk S14 (w.heap.size + 2) 49 [.int .i64 (noT 0), .int .i64 (noT 1), .int .i64 (noT 2), .int .i64 (noT 3), .int .i64 (noT 4), .int .i64 (noT 5), .int .i64 (noT 6), .int .i64 (noT 7), .int .i64 (noT 8), .int .i64 (noT 9)] := by rw [hS14]; exact Blk.setCellsFar (by omega) _ _ _ hz
            replace hb : Below w.heap.size w S14 := by rw [hS14]; exact below_setCells hb (by omega) _ _
            clear hS14
            refine hK.out _ _ (⟨hx, hy⟩) (fun hHeld => ?_)
            clear hK K
            try simp only [List.getElem_toArray, List.getElem_cons_zero, List.getElem_cons_succ, Act.put, List.setIfInBounds_toArray, List.set_cons_zero, List.set_cons_succ]
            refine wpAnyH_ready (rs := [7]) (by decide +kernel) (by simp) ?_
            refine AllReadyH.cons rfl (fun K hK => ?_) AllReadyH.nil
            rw [if_pos (by rfl)]
            refine wp_store_eq 134 (.tmp 6) (.tmp 11) rfl G12 0 #[.int .i64 (Y 0), .int .i64 (Y 1), .int .i64 (Y 2), .int .i64 (Y 3), .int .i64 (Y 4), .int .i64 (Y 5), .int .i64 (Y 6), .int .i64 (Y 7), .int .i64 (Y 8), .int .i64 (Y 9)] rfl rfl (h6.there 0 10 (by simp)) (by kernel_rfl) (all_oneCell_toArray (tl_one Y)) ?_
            intro V14 hV14
            replace h6 : Blk V14 G12 134 [.int .i64 (Y 0), .int .i64 (Y 1), .int .i64 (Y 2), .int .i64 (Y 3), .int .i64 (Y 4), .int .i64 (Y 5), .int .i64 (Y 6), .int .i64 (Y 7), .int .i64 (Y 8), .int .i64 (Y 9)] := by rw [hV14]; exact h6.setAll rfl
            replace h5 : Blk V14 G8 134 [.int .i64 (X 0), .int .i64 (X 1), .int .i64 (X 2), .int .i64 (X 3), .int .i64 (X 4), .int .i64 (X 5), .int .i64 (X 6), .int .i64 (X 7), .int .i64 (X 8), .int .i64 (X 9)] := by rw [hV14]; exact Blk.setCellsFar (by omega) _ _ _ h5
            replace hx : Blk V14 w.heap.size 49 [.int .i64 (X 0), .int .i64 (X 1), .int .i64 (X 2), .int .i64 (X 3), .int .i64 (X 4), .int .i64 (X 5), .int .i64 (X 6), .int .i64 (X 7), .int .i64 (X 8), .int .i64 (X 9)] := by rw [hV14]; exact Blk.setCellsFar (by omega) _ _ _ hx
            replace hy : Blk V14 (w.heap.size + 1) 49 [.int .i64 (Y 0), .int .i64 (Y 1), .int .i64 (Y 2), .int .i64 (Y 3), .int .i64 (Y 4), .int .i64 (Y 5), .int .i64 (Y 6), .int .i64 (Y 7), .int .i64 (Y 8), .int .i64 (Y 9)] := by rw [hV14]; exact Blk.setCellsFar (by omega) _ _ _ hy
            replace hz : Blk V14 (w.heap.size + 2) 49 [.int .i64 (noT 0), .int .i64 (noT 1), .int .i64 (noT 2), .int .i64 (noT 3), .int .i64 (noT 4), .int .i64 (noT 5), .int .i64 (noT 6), .int .i64 (noT 7), .int .i64 (noT 8), .int .i64 (noT 9)] := by rw [hV14]; exact Blk.setCellsFar (by omega) _ _ _ hz
            replace hb : Below w.heap.size w V14 := by rw [hV14]; exact below_setCells hb (by omega) _ _
            clear hV14
            refine hK.out _ _ (⟨hx, hy⟩) (fun hHeld => ?_)
            clear hK K
            try simp only [List.getElem_toArray, List.getElem_cons_zero, List.getElem_cons_succ, Act.put, List.setIfInBounds_toArray, List.set_cons_zero, List.set_cons_succ]
            refine wpAnyH_done (by decide +kernel) ?_ _
            go_wp2
            go_meet
            exact ⟨G8, G12, rfl, rfl, by omega, h5, h6, by omega, by omega, hz, hb⟩
      · go_simp
        have h6 := Blk.top (g := (w0).heap.size) (t := 134) (cs := [.int .i64 0, .int .i64 0, .int .i64 0, .int .i64 0, .int .i64 0, .int .i64 0, .int .i64 0, .int .i64 0, .int .i64 0, .int .i64 0]) w0 rfl rfl
        replace hx := hx.alloc (.cells #[.int .i64 0, .int .i64 0, .int .i64 0, .int .i64 0, .int .i64 0, .int .i64 0, .int .i64 0, .int .i64 0, .int .i64 0, .int .i64 0] 134)
        replace hy := hy.alloc (.cells #[.int .i64 0, .int .i64 0, .int .i64 0, .int .i64 0, .int .i64 0, .int .i64 0, .int .i64 0, .int .i64 0, .int .i64 0, .int .i64 0] 134)
        replace hz := hz.alloc (.cells #[.int .i64 0, .int .i64 0, .int .i64 0, .int .i64 0, .int .i64 0, .int .i64 0, .int .i64 0, .int .i64 0, .int .i64 0, .int .i64 0] 134)
        have hge15 : w.heap.size + 3 ≤ (w0).heap.size := hs
        replace hb := hb.alloc (by omega) (.cells #[.int .i64 0, .int .i64 0, .int .i64 0, .int .i64 0, .int .i64 0, .int .i64 0, .int .i64 0, .int .i64 0, .int .i64 0, .int .i64 0] 134)
        obtain ⟨W15, hW15⟩ : ∃ W15, (w0).alloc (.cells #[.int .i64 0, .int .i64 0, .int .i64 0, .int .i64 0, .int .i64 0, .int .i64 0, .int .i64 0, .int .i64 0, .int .i64 0, .int .i64 0] 134) = W15 := ⟨_, rfl⟩
        have hsz15 : (w0).heap.size < W15.heap.size := by rw [← hW15]; simp
        have hs15 : w.heap.size + 3 ≤ W15.heap.size := by omega
        obtain ⟨G15, hG15⟩ : ∃ G15, (w0).heap.size = G15 := ⟨_, rfl⟩
        simp only [hW15, hG15] at *
        clear hW15
        clear hG15
        replace hs : w.heap.size + 3 ≤ W15.heap.size := by omega
        refine hK.out _ _ (⟨hx, hy⟩) (fun hHeld => ?_)
        clear hK K
        try simp only [List.getElem_toArray, List.getElem_cons_zero, List.getElem_cons_succ, Act.put, List.setIfInBounds_toArray, List.set_cons_zero, List.set_cons_succ]
        refine wpAnyH_ready (rs := [3, 4]) (by decide +kernel) (by simp) ?_
        refine AllReadyH.cons rfl (fun K hK => ?_) (AllReadyH.cons rfl (fun K hK => ?_) AllReadyH.nil)
        · go_simp
          (go_at_call 58; (with_reducible refine (hny _).mono ?_); rintro e w16 ⟨rfl, hb16⟩)
          replace hx := hx.below hb16 hx.lt
          replace hy := hy.below hb16 hy.lt
          replace hz := hz.below hb16 hz.lt
          replace h6 := h6.below hb16 h6.lt
          replace hb := hb.trans (hb16.mono (by omega))
          replace hs := Nat.le_trans hs hb16.size
          clear hb16
          refine hK.out _ _ (⟨hx, hy⟩) (fun hHeld => ?_)
          clear hK K
          try simp only [List.getElem_toArray, List.getElem_cons_zero, List.getElem_cons_succ, Act.put, List.setIfInBounds_toArray, List.set_cons_zero, List.set_cons_succ]
          refine wpAnyH_ready (rs := [4]) (by decide +kernel) (by simp) ?_
          refine AllReadyH.cons rfl (fun K hK => ?_) AllReadyH.nil
          · go_simp
            have hlt17 := h6.lt
            have h5 := Blk.top (g := (w16).heap.size) (t := 134) (cs := [.int .i64 0, .int .i64 0, .int .i64 0, .int .i64 0, .int .i64 0, .int .i64 0, .int .i64 0, .int .i64 0, .int .i64 0, .int .i64 0]) w16 rfl rfl
            replace hx := hx.alloc (.cells #[.int .i64 0, .int .i64 0, .int .i64 0, .int .i64 0, .int .i64 0, .int .i64 0, .int .i64 0, .int .i64 0, .int .i64 0, .int .i64 0] 134)
            replace hy := hy.alloc (.cells #[.int .i64 0, .int .i64 0, .int .i64 0, .int .i64 0, .int .i64 0, .int .i64 0, .int .i64 0, .int .i64 0, .int .i64 0, .int .i64 0] 134)
            replace hz := hz.alloc (.cells #[.int .i64 0, .int .i64 0, .int .i64 0, .int .i64 0, .int .i64 0, .int .i64 0, .int .i64 0, .int .i64 0, .int .i64 0, .int .i64 0] 134)
            replace h6 := h6.alloc (.cells #[.int .i64 0, .int .i64 0, .int .i64 0, .int .i64 0, .int .i64 0, .int .i64 0, .int .i64 0, .int .i64 0, .int .i64 0, .int .i64 0] 134)
            have hge17 : w.heap.size + 3 ≤ (w16).heap.size := hs
            replace hb := hb.alloc (by omega) (.cells #[.int .i64 0, .int .i64 0, .int .i64 0, .int .i64 0, .int .i64 0, .int .i64 0, .int .i64 0, .int .i64 0, .int .i64 0, .int .i64 0] 134)
            obtain ⟨W17, hW17⟩ : ∃ W17, (w16).alloc (.cells #[.int .i64 0, .int .i64 0, .int .i64 0, .int .i64 0, .int .i64 0, .int .i64 0, .int .i64 0, .int .i64 0, .int .i64 0, .int .i64 0] 134) = W17 := ⟨_, rfl⟩
            have hsz17 : (w16).heap.size < W17.heap.size := by rw [← hW17]; simp
            have hs17 : w.heap.size + 3 ≤ W17.heap.size := by omega
            obtain ⟨G17, hG17⟩ : ∃ G17, (w16).heap.size = G17 := ⟨_, rfl⟩
            simp only [hW17, hG17] at *
            clear hW17
            clear hG17
            replace hs : w.heap.size + 3 ≤ W17.heap.size := by omega
            refine hK.out _ _ (⟨hx, hy⟩) (fun hHeld => ?_)
            clear hK K
            try simp only [List.getElem_toArray, List.getElem_cons_zero, List.getElem_cons_succ, Act.put, List.setIfInBounds_toArray, List.set_cons_zero, List.set_cons_succ]
            refine wpAnyH_ready (rs := [6]) (by decide +kernel) (by simp) ?_
            refine AllReadyH.cons rfl (fun K hK => ?_) AllReadyH.nil
            rw [if_pos (by rfl)]
            refine wp_store_eq 134 (.tmp 5) (.tmp 9) rfl G17 0 #[.int .i64 (X 0), .int .i64 (X 1), .int .i64 (X 2), .int .i64 (X 3), .int .i64 (X 4), .int .i64 (X 5), .int .i64 (X 6), .int .i64 (X 7), .int .i64 (X 8), .int .i64 (X 9)] rfl rfl (h5.there 0 10 (by simp)) (by kernel_rfl) (all_oneCell_toArray (tl_one X)) ?_
            intro S18 hS18
            replace h5 : Blk S18 G17 134 [.int .i64 (X 0), .int .i64 (X 1), .int .i64 (X 2), .int .i64 (X 3), .int .i64 (X 4), .int .i64 (X 5), .int .i64 (X 6), .int .i64 (X 7), .int .i64 (X 8), .int .i64 (X 9)] := by rw [hS18]; exact h5.setAll rfl
            replace h6 : Blk S18 G15 134 [.int .i64 0, .int .i64 0, .int .i64 0, .int .i64 0, .int .i64 0, .int .i64 0, .int .i64 0, .int .i64 0, .int .i64 0, .int .i64 0] := by rw [hS18]; exact Blk.setCellsFar (by omega) _ _ _ h6
            replace hx : Blk S18 w.heap.size 49 [.int .i64 (X 0), .int .i64 (X 1), .int .i64 (X 2), .int .i64 (X 3), .int .i64 (X 4), .int .i64 (X 5), .int .i64 (X 6), .int .i64 (X 7), .int .i64 (X 8), .int .i64 (X 9)] := by rw [hS18]; exact Blk.setCellsFar (by omega) _ _ _ hx
            replace hy : Blk S18 (w.heap.size + 1) 49 [.int .i64 (Y 0), .int .i64 (Y 1), .int .i64 (Y 2), .int .i64 (Y 3), .int .i64 (Y 4), .int .i64 (Y 5), .int .i64 (Y 6), .int .i64 (Y 7), .int .i64 (Y 8), .int .i64 (Y 9)] := by rw [hS18]; exact Blk.setCellsFar (by omega) _ _ _ hy
            replace hz : Blk S18 (w.heap.size + 2) 49 [.int .i64 (noT 0), .int .i64 (noT 1), .int .i64 (noT 2), .int .i64 (noT 3), .int .i64 (noT 4), .int .i64 (noT 5), .int .i64 (noT 6), .int .i64 (noT 7), .int .i64 (noT 8), .int .i64 (noT 9)] := by rw [hS18]; exact Blk.setCellsFar (by omega) _ _ _ hz
            replace hb : Below w.heap.size w S18 := by rw [hS18]; exact below_setCells hb (by omega) _ _
            clear hS18
            refine hK.out _ _ (⟨hx, hy⟩) (fun hHeld => ?_)
            clear hK K
            try simp only [List.getElem_toArray, List.getElem_cons_zero, List.getElem_cons_succ, Act.put, List.setIfInBounds_toArray, List.set_cons_zero, List.set_cons_succ]
            refine wpAnyH_ready (rs := [7]) (by decide +kernel) (by simp) ?_
            refine AllReadyH.cons rfl (fun K hK => ?_) AllReadyH.nil
            rw [if_pos (by rfl)]
            refine wp_store_eq 134 (.tmp 6) (.tmp 11) rfl G15 0 #[.int .i64 (Y 0), .int .i64 (Y 1), .int .i64 (Y 2), .int .i64 (Y 3), .int .i64 (Y 4), .int .i64 (Y 5), .int .i64 (Y 6), .int .i64 (Y 7), .int .i64 (Y 8), .int .i64 (Y 9)] rfl rfl (h6.there 0 10 (by simp)) (by kernel_rfl) (all_oneCell_toArray (tl_one Y)) ?_
            intro V18 hV18
            replace h6 : Blk V18 G15 134 [.int .i64 (Y 0), .int .i64 (Y 1), .int .i64 (Y 2), .int .i64 (Y 3), .int .i64 (Y 4), .int .i64 (Y 5), .int .i64 (Y 6), .int .i64 (Y 7), .int .i64 (Y 8), .int .i64 (Y 9)] := by rw [hV18]; exact h6.setAll rfl
            replace h5 : Blk V18 G17 134 [.int .i64 (X 0), .int .i64 (X 1), .int .i64 (X 2), .int .i64 (X 3), .int .i64 (X 4), .int .i64 (X 5), .int .i64 (X 6), .int .i64 (X 7), .int .i64 (X 8), .int .i64 (X 9)] := by rw [hV18]; exact Blk.setCellsFar (by omega) _ _ _ h5
            replace hx : Blk V18 w.heap.size 49 [.int .i64 (X 0), .int .i64 (X 1), .int .i64 (X 2), .int .i64 (X 3), .int .i64 (X 4), .int .i64 (X 5), .int .i64 (X 6), .int .i64 (X 7), .int .i64 (X 8), .int .i64 (X 9)] := by rw [hV18]; exact Blk.setCellsFar (by omega) _ _ _ hx
            replace hy : Blk V18 (w.heap.size + 1) 49 [.int .i64 (Y 0), .int .i64 (Y 1), .int .i64 (Y 2), .int .i64 (Y 3), .int .i64 (Y 4), .int .i64 (Y 5), .int .i64 (Y 6), .int .i64 (Y 7), .int .i64 (Y 8), .int .i64 (Y 9)] := by rw [hV18]; exact Blk.setCellsFar (by omega) _ _ _ hy
            replace hz : Blk V18 (w.heap.size + 2) 49 [.int .i64 (noT 0), .int .i64 (noT 1), .int .i64 (noT 2), .int .i64 (noT 3), .int .i64 (noT 4), .int .i64 (noT 5), .int .i64 (noT 6), .int .i64 (noT 7), .int .i64 (noT 8), .int .i64 (noT 9)] := by rw [hV18]; exact Blk.setCellsFar (by omega) _ _ _ hz
            replace hb : Below w.heap.size w V18 := by rw [hV18]; exact below_setCells hb (by omega) _ _
            clear hV18
            refine hK.out _ _ (⟨hx, hy⟩) (fun hHeld => ?_)
            clear hK K
            try simp only [List.getElem_toArray, List.getElem_cons_zero, List.getElem_cons_succ, Act.put, List.setIfInBounds_toArray, List.set_cons_zero, List.set_cons_succ]
            refine wpAnyH_done (by decide +kernel) ?_ _
            go_wp2
            go_meet
            exact ⟨G17, G15, rfl, rfl, by omega, h5, h6, by omega, by omega, hz, hb⟩
        · go_simp
          have hlt19 := h6.lt
          have h5 := Blk.top (g := (W15).heap.size) (t := 134) (cs := [.int .i64 0, .int .i64 0, .int .i64 0, .int .i64 0, .int .i64 0, .int .i64 0, .int .i64 0, .int .i64 0, .int .i64 0, .int .i64 0]) W15 rfl rfl
          replace hx := hx.alloc (.cells #[.int .i64 0, .int .i64 0, .int .i64 0, .int .i64 0, .int .i64 0, .int .i64 0, .int .i64 0, .int .i64 0, .int .i64 0, .int .i64 0] 134)
          replace hy := hy.alloc (.cells #[.int .i64 0, .int .i64 0, .int .i64 0, .int .i64 0, .int .i64 0, .int .i64 0, .int .i64 0, .int .i64 0, .int .i64 0, .int .i64 0] 134)
          replace hz := hz.alloc (.cells #[.int .i64 0, .int .i64 0, .int .i64 0, .int .i64 0, .int .i64 0, .int .i64 0, .int .i64 0, .int .i64 0, .int .i64 0, .int .i64 0] 134)
          replace h6 := h6.alloc (.cells #[.int .i64 0, .int .i64 0, .int .i64 0, .int .i64 0, .int .i64 0, .int .i64 0, .int .i64 0, .int .i64 0, .int .i64 0, .int .i64 0] 134)
          have hge19 : w.heap.size + 3 ≤ (W15).heap.size := hs
          replace hb := hb.alloc (by omega) (.cells #[.int .i64 0, .int .i64 0, .int .i64 0, .int .i64 0, .int .i64 0, .int .i64 0, .int .i64 0, .int .i64 0, .int .i64 0, .int .i64 0] 134)
          obtain ⟨W19, hW19⟩ : ∃ W19, (W15).alloc (.cells #[.int .i64 0, .int .i64 0, .int .i64 0, .int .i64 0, .int .i64 0, .int .i64 0, .int .i64 0, .int .i64 0, .int .i64 0, .int .i64 0] 134) = W19 := ⟨_, rfl⟩
          have hsz19 : (W15).heap.size < W19.heap.size := by rw [← hW19]; simp
          have hs19 : w.heap.size + 3 ≤ W19.heap.size := by omega
          obtain ⟨G19, hG19⟩ : ∃ G19, (W15).heap.size = G19 := ⟨_, rfl⟩
          simp only [hW19, hG19] at *
          clear hW19
          clear hG19
          replace hs : w.heap.size + 3 ≤ W19.heap.size := by omega
          refine hK.out _ _ (⟨hx, hy⟩) (fun hHeld => ?_)
          clear hK K
          try simp only [List.getElem_toArray, List.getElem_cons_zero, List.getElem_cons_succ, Act.put, List.setIfInBounds_toArray, List.set_cons_zero, List.set_cons_succ]
          refine wpAnyH_ready (rs := [3]) (by decide +kernel) (by simp) ?_
          refine AllReadyH.cons rfl (fun K hK => ?_) AllReadyH.nil
          · go_simp
            (go_at_call 58; (with_reducible refine (hny _).mono ?_); rintro e w20 ⟨rfl, hb20⟩)
            replace hx := hx.below hb20 hx.lt
            replace hy := hy.below hb20 hy.lt
            replace hz := hz.below hb20 hz.lt
            replace h5 := h5.below hb20 h5.lt
            replace h6 := h6.below hb20 h6.lt
            replace hb := hb.trans (hb20.mono (by omega))
            replace hs := Nat.le_trans hs hb20.size
            clear hb20
            refine hK.out _ _ (⟨hx, hy⟩) (fun hHeld => ?_)
            clear hK K
            try simp only [List.getElem_toArray, List.getElem_cons_zero, List.getElem_cons_succ, Act.put, List.setIfInBounds_toArray, List.set_cons_zero, List.set_cons_succ]
            refine wpAnyH_ready (rs := [6]) (by decide +kernel) (by simp) ?_
            refine AllReadyH.cons rfl (fun K hK => ?_) AllReadyH.nil
            rw [if_pos (by rfl)]
            refine wp_store_eq 134 (.tmp 5) (.tmp 9) rfl G19 0 #[.int .i64 (X 0), .int .i64 (X 1), .int .i64 (X 2), .int .i64 (X 3), .int .i64 (X 4), .int .i64 (X 5), .int .i64 (X 6), .int .i64 (X 7), .int .i64 (X 8), .int .i64 (X 9)] rfl rfl (h5.there 0 10 (by simp)) (by kernel_rfl) (all_oneCell_toArray (tl_one X)) ?_
            intro S21 hS21
            replace h5 : Blk S21 G19 134 [.int .i64 (X 0), .int .i64 (X 1), .int .i64 (X 2), .int .i64 (X 3), .int .i64 (X 4), .int .i64 (X 5), .int .i64 (X 6), .int .i64 (X 7), .int .i64 (X 8), .int .i64 (X 9)] := by rw [hS21]; exact h5.setAll rfl
            replace h6 : Blk S21 G15 134 [.int .i64 0, .int .i64 0, .int .i64 0, .int .i64 0, .int .i64 0, .int .i64 0, .int .i64 0, .int .i64 0, .int .i64 0, .int .i64 0] := by rw [hS21]; exact Blk.setCellsFar (by omega) _ _ _ h6
            replace hx : Blk S21 w.heap.size 49 [.int .i64 (X 0), .int .i64 (X 1), .int .i64 (X 2), .int .i64 (X 3), .int .i64 (X 4), .int .i64 (X 5), .int .i64 (X 6), .int .i64 (X 7), .int .i64 (X 8), .int .i64 (X 9)] := by rw [hS21]; exact Blk.setCellsFar (by omega) _ _ _ hx
            replace hy : Blk S21 (w.heap.size + 1) 49 [.int .i64 (Y 0), .int .i64 (Y 1), .int .i64 (Y 2), .int .i64 (Y 3), .int .i64 (Y 4), .int .i64 (Y 5), .int .i64 (Y 6), .int .i64 (Y 7), .int .i64 (Y 8), .int .i64 (Y 9)] := by rw [hS21]; exact Blk.setCellsFar (by omega) _ _ _ hy
            replace hz : Blk S21 (w.heap.size + 2) 49 [.int .i64 (noT 0), .int .i64 (noT 1), .int .i64 (noT 2), .int .i64 (noT 3), .int .i64 (noT 4), .int .i64 (noT 5), .int .i64 (noT 6), .int .i64 (noT 7), .int .i64 (noT 8), .int .i64 (noT 9)] := by rw [hS21]; exact Blk.setCellsFar (by omega) _ _ _ hz
            replace hb : Below w.heap.size w S21 := by rw [hS21]; exact below_setCells hb (by omega) _ _
            clear hS21
            refine hK.out _ _ (⟨hx, hy⟩) (fun hHeld => ?_)
            clear hK K
            try simp only [List.getElem_toArray, List.getElem_cons_zero, List.getElem_cons_succ, Act.put, List.setIfInBounds_toArray, List.set_cons_zero, List.set_cons_succ]
            refine wpAnyH_ready (rs := [7]) (by decide +kernel) (by simp) ?_
            refine AllReadyH.cons rfl (fun K hK => ?_) AllReadyH.nil
            rw [if_pos (by rfl)]
            refine wp_store_eq 134 (.tmp 6) (.tmp 11) rfl G15 0 #[.int .i64 (Y 0), .int .i64 (Y 1), .int .i64 (Y 2), .int .i64 (Y 3), .int .i64 (Y 4), .int .i64 (Y 5), .int .i64 (Y 6), .int .i64 (Y 7), .int .i64 (Y 8), .int .i64 (Y 9)] rfl rfl (h6.there 0 10 (by simp)) (by kernel_rfl) (all_oneCell_toArray (tl_one Y)) ?_
            intro V21 hV21
            replace h6 : Blk V21 G15 134 [.int .i64 (Y 0), .int .i64 (Y 1), .int .i64 (Y 2), .int .i64 (Y 3), .int .i64 (Y 4), .int .i64 (Y 5), .int .i64 (Y 6), .int .i64 (Y 7), .int .i64 (Y 8), .int .i64 (Y 9)] := by rw [hV21]; exact h6.setAll rfl
            replace h5 : Blk V21 G19 134 [.int .i64 (X 0), .int .i64 (X 1), .int .i64 (X 2), .int .i64 (X 3), .int .i64 (X 4), .int .i64 (X 5), .int .i64 (X 6), .int .i64 (X 7), .int .i64 (X 8), .int .i64 (X 9)] := by rw [hV21]; exact Blk.setCellsFar (by omega) _ _ _ h5
            replace hx : Blk V21 w.heap.size 49 [.int .i64 (X 0), .int .i64 (X 1), .int .i64 (X 2), .int .i64 (X 3), .int .i64 (X 4), .int .i64 (X 5), .int .i64 (X 6), .int .i64 (X 7), .int .i64 (X 8), .int .i64 (X 9)] := by rw [hV21]; exact Blk.setCellsFar (by omega) _ _ _ hx
            replace hy : Blk V21 (w.heap.size + 1) 49 [.int .i64 (Y 0), .int .i64 (Y 1), .int .i64 (Y 2), .int .i64 (Y 3), .int .i64 (Y 4), .int .i64 (Y 5), .int .i64 (Y 6), .int .i64 (Y 7), .int .i64 (Y 8), .int .i64 (Y 9)] := by rw [hV21]; exact Blk.setCellsFar (by omega) _ _ _ hy
            replace hz : Blk V21 (w.heap.size + 2) 49 [.int .i64 (noT 0), .int .i64 (noT 1), .int .i64 (noT 2), .int .i64 (noT 3), .int .i64 (noT 4), .int .i64 (noT 5), .int .i64 (noT 6), .int .i64 (noT 7), .int .i64 (noT 8), .int .i64 (noT 9)] := by rw [hV21]; exact Blk.setCellsFar (by omega) _ _ _ hz
            replace hb : Below w.heap.size w V21 := by rw [hV21]; exact below_setCells hb (by omega) _ _
            clear hV21
            refine hK.out _ _ (⟨hx, hy⟩) (fun hHeld => ?_)
            clear hK K
            try simp only [List.getElem_toArray, List.getElem_cons_zero, List.getElem_cons_succ, Act.put, List.setIfInBounds_toArray, List.set_cons_zero, List.set_cons_succ]
            refine wpAnyH_done (by decide +kernel) ?_ _
            go_wp2
            go_meet
            exact ⟨G19, G15, rfl, rfl, by omega, h5, h6, by omega, by omega, hz, hb⟩
    · go_simp
      have h5 := Blk.top (g := (W0).heap.size) (t := 134) (cs := [.int .i64 0, .int .i64 0, .int .i64 0, .int .i64 0, .int .i64 0, .int .i64 0, .int .i64 0, .int .i64 0, .int .i64 0, .int .i64 0]) W0 rfl rfl
      replace hx := hx.alloc (.cells #[.int .i64 0, .int .i64 0, .int .i64 0, .int .i64 0, .int .i64 0, .int .i64 0, .int .i64 0, .int .i64 0, .int .i64 0, .int .i64 0] 134)
      replace hy := hy.alloc (.cells #[.int .i64 0, .int .i64 0, .int .i64 0, .int .i64 0, .int .i64 0, .int .i64 0, .int .i64 0, .int .i64 0, .int .i64 0, .int .i64 0] 134)
      replace hz := hz.alloc (.cells #[.int .i64 0, .int .i64 0, .int .i64 0, .int .i64 0, .int .i64 0, .int .i64 0, .int .i64 0, .int .i64 0, .int .i64 0, .int .i64 0] 134)
      have hge22 : w.heap.size + 3 ≤ (W0).heap.size := hs
      replace hb := hb.alloc (by omega) (.cells #[.int .i64 0, .int .i64 0, .int .i64 0, .int .i64 0, .int .i64 0, .int .i64 0, .int .i64 0, .int .i64 0, .int .i64 0, .int .i64 0] 134)
      obtain ⟨W22, hW22⟩ : ∃ W22, (W0).alloc (.cells #[.int .i64 0, .int .i64 0, .int .i64 0, .int .i64 0, .int .i64 0, .int .i64 0, .int .i64 0, .int .i64 0, .int .i64 0, .int .i64 0] 134) = W22 := ⟨_, rfl⟩
      have hsz22 : (W0).heap.size < W22.heap.size := by rw [← hW22]; simp
      have hs22 : w.heap.size + 3 ≤ W22.heap.size := by omega
      obtain ⟨G22, hG22⟩ : ∃ G22, (W0).heap.size = G22 := ⟨_, rfl⟩
      simp only [hW22, hG22] at *
      clear hW22
      clear hG22
      replace hs : w.heap.size + 3 ≤ W22.heap.size := by omega
      refine hK.out _ _ (⟨hx, hy⟩) (fun hHeld => ?_)
      clear hK K
      try simp only [List.getElem_toArray, List.getElem_cons_zero, List.getElem_cons_succ, Act.put, List.setIfInBounds_toArray, List.set_cons_zero, List.set_cons_succ]
      refine wpAnyH_ready (rs := [1, 5]) (by decide +kernel) (by simp) ?_
      refine AllReadyH.cons rfl (fun K hK => ?_) (AllReadyH.cons rfl (fun K hK => ?_) AllReadyH.nil)
      · go_simp
        (go_at_call 58; (with_reducible refine (hnx _).mono ?_); rintro e w23 ⟨rfl, hb23⟩)
        replace hx := hx.below hb23 hx.lt
        replace hy := hy.below hb23 hy.lt
        replace hz := hz.below hb23 hz.lt
        replace h5 := h5.below hb23 h5.lt
        replace hb := hb.trans (hb23.mono (by omega))
        replace hs := Nat.le_trans hs hb23.size
        clear hb23
        refine hK.out _ _ (⟨hx, hy⟩) (fun hHeld => ?_)
        clear hK K
        try simp only [List.getElem_toArray, List.getElem_cons_zero, List.getElem_cons_succ, Act.put, List.setIfInBounds_toArray, List.set_cons_zero, List.set_cons_succ]
        refine wpAnyH_ready (rs := [3, 5]) (by decide +kernel) (by simp) ?_
        refine AllReadyH.cons rfl (fun K hK => ?_) (AllReadyH.cons rfl (fun K hK => ?_) AllReadyH.nil)
        · go_simp
          (go_at_call 58; (with_reducible refine (hny _).mono ?_); rintro e w24 ⟨rfl, hb24⟩)
          replace hx := hx.below hb24 hx.lt
          replace hy := hy.below hb24 hy.lt
          replace hz := hz.below hb24 hz.lt
          replace h5 := h5.below hb24 h5.lt
          replace hb := hb.trans (hb24.mono (by omega))
          replace hs := Nat.le_trans hs hb24.size
          clear hb24
          refine hK.out _ _ (⟨hx, hy⟩) (fun hHeld => ?_)
          clear hK K
          try simp only [List.getElem_toArray, List.getElem_cons_zero, List.getElem_cons_succ, Act.put, List.setIfInBounds_toArray, List.set_cons_zero, List.set_cons_succ]
          refine wpAnyH_ready (rs := [5]) (by decide +kernel) (by simp) ?_
          refine AllReadyH.cons rfl (fun K hK => ?_) AllReadyH.nil
          · go_simp
            have hlt25 := h5.lt
            have h6 := Blk.top (g := (w24).heap.size) (t := 134) (cs := [.int .i64 0, .int .i64 0, .int .i64 0, .int .i64 0, .int .i64 0, .int .i64 0, .int .i64 0, .int .i64 0, .int .i64 0, .int .i64 0]) w24 rfl rfl
            replace hx := hx.alloc (.cells #[.int .i64 0, .int .i64 0, .int .i64 0, .int .i64 0, .int .i64 0, .int .i64 0, .int .i64 0, .int .i64 0, .int .i64 0, .int .i64 0] 134)
            replace hy := hy.alloc (.cells #[.int .i64 0, .int .i64 0, .int .i64 0, .int .i64 0, .int .i64 0, .int .i64 0, .int .i64 0, .int .i64 0, .int .i64 0, .int .i64 0] 134)
            replace hz := hz.alloc (.cells #[.int .i64 0, .int .i64 0, .int .i64 0, .int .i64 0, .int .i64 0, .int .i64 0, .int .i64 0, .int .i64 0, .int .i64 0, .int .i64 0] 134)
            replace h5 := h5.alloc (.cells #[.int .i64 0, .int .i64 0, .int .i64 0, .int .i64 0, .int .i64 0, .int .i64 0, .int .i64 0, .int .i64 0, .int .i64 0, .int .i64 0] 134)
            have hge25 : w.heap.size + 3 ≤ (w24).heap.size := hs
            replace hb := hb.alloc (by omega) (.cells #[.int .i64 0, .int .i64 0, .int .i64 0, .int .i64 0, .int .i64 0, .int .i64 0, .int .i64 0, .int .i64 0, .int .i64 0, .int .i64 0] 134)
            obtain ⟨W25, hW25⟩ : ∃ W25, (w24).alloc (.cells #[.int .i64 0, .int .i64 0, .int .i64 0, .int .i64 0, .int .i64 0, .int .i64 0, .int .i64 0, .int .i64 0, .int .i64 0, .int .i64 0] 134) = W25 := ⟨_, rfl⟩
            have hsz25 : (w24).heap.size < W25.heap.size := by rw [← hW25]; simp
            have hs25 : w.heap.size + 3 ≤ W25.heap.size := by omega
            obtain ⟨G25, hG25⟩ : ∃ G25, (w24).heap.size = G25 := ⟨_, rfl⟩
            simp only [hW25, hG25] at *
            clear hW25
            clear hG25
            replace hs : w.heap.size + 3 ≤ W25.heap.size := by omega
            refine hK.out _ _ (⟨hx, hy⟩) (fun hHeld => ?_)
            clear hK K
            try simp only [List.getElem_toArray, List.getElem_cons_zero, List.getElem_cons_succ, Act.put, List.setIfInBounds_toArray, List.set_cons_zero, List.set_cons_succ]
            refine wpAnyH_ready (rs := [6]) (by decide +kernel) (by simp) ?_
            refine AllReadyH.cons rfl (fun K hK => ?_) AllReadyH.nil
            rw [if_pos (by rfl)]
            refine wp_store_eq 134 (.tmp 5) (.tmp 9) rfl G22 0 #[.int .i64 (X 0), .int .i64 (X 1), .int .i64 (X 2), .int .i64 (X 3), .int .i64 (X 4), .int .i64 (X 5), .int .i64 (X 6), .int .i64 (X 7), .int .i64 (X 8), .int .i64 (X 9)] rfl rfl (h5.there 0 10 (by simp)) (by kernel_rfl) (all_oneCell_toArray (tl_one X)) ?_
            intro S26 hS26
            replace h5 : Blk S26 G22 134 [.int .i64 (X 0), .int .i64 (X 1), .int .i64 (X 2), .int .i64 (X 3), .int .i64 (X 4), .int .i64 (X 5), .int .i64 (X 6), .int .i64 (X 7), .int .i64 (X 8), .int .i64 (X 9)] := by rw [hS26]; exact h5.setAll rfl
            replace h6 : Blk S26 G25 134 [.int .i64 0, .int .i64 0, .int .i64 0, .int .i64 0, .int .i64 0, .int .i64 0, .int .i64 0, .int .i64 0, .int .i64 0, .int .i64 0] := by rw [hS26]; exact Blk.setCellsFar (by omega) _ _ _ h6
            replace hx : Blk S26 w.heap.size 49 [.int .i64 (X 0), .int .i64 (X 1), .int .i64 (X 2), .int .i64 (X 3), .int .i64 (X 4), .int .i64 (X 5), .int .i64 (X 6), .int .i64 (X 7), .int .i64 (X 8), .int .i64 (X 9)] := by rw [hS26]; exact Blk.setCellsFar (by omega) _ _ _ hx
            replace hy : Blk S26 (w.heap.size + 1) 49 [.int .i64 (Y 0), .int .i64 (Y 1), .int .i64 (Y 2), .int .i64 (Y 3), .int .i64 (Y 4), .int .i64 (Y 5), .int .i64 (Y 6), .int .i64 (Y 7), .int .i64 (Y 8), .int .i64 (Y 9)] := by rw [hS26]; exact Blk.setCellsFar (by omega) _ _ _ hy
            replace hz : Blk S26 (w.heap.size + 2) 49 [.int .i64 (noT 0), .int .i64 (noT 1), .int .i64 (noT 2), .int .i64 (noT 3), .int .i64 (noT 4), .int .i64 (noT 5), .int .i64 (noT 6), .int .i64 (noT 7), .int .i64 (noT 8), .int .i64 (noT 9)] := by rw [hS26]; exact Blk.setCellsFar (by omega) _ _ _ hz
            replace hb : Below w.heap.size w S26 := by rw [hS26]; exact below_setCells hb (by omega) _ _
            clear hS26
            refine hK.out _ _ (⟨hx, hy⟩) (fun hHeld => ?_)
            clear hK K
            try simp only [List.getElem_toArray, List.getElem_cons_zero, List.getElem_cons_succ, Act.put, List.setIfInBounds_toArray, List.set_cons_zero, List.set_cons_succ]
            refine wpAnyH_ready (rs := [7]) (by decide +kernel) (by simp) ?_
            refine AllReadyH.cons rfl (fun K hK => ?_) AllReadyH.nil
            rw [if_pos (by rfl)]
            refine wp_store_eq 134 (.tmp 6) (.tmp 11) rfl G25 0 #[.int .i64 (Y 0), .int .i64 (Y 1), .int .i64 (Y 2), .int .i64 (Y 3), .int .i64 (Y 4), .int .i64 (Y 5), .int .i64 (Y 6), .int .i64 (Y 7), .int .i64 (Y 8), .int .i64 (Y 9)] rfl rfl (h6.there 0 10 (by simp)) (by kernel_rfl) (all_oneCell_toArray (tl_one Y)) ?_
            intro V26 hV26
            replace h6 : Blk V26 G25 134 [.int .i64 (Y 0), .int .i64 (Y 1), .int .i64 (Y 2), .int .i64 (Y 3), .int .i64 (Y 4), .int .i64 (Y 5), .int .i64 (Y 6), .int .i64 (Y 7), .int .i64 (Y 8), .int .i64 (Y 9)] := by rw [hV26]; exact h6.setAll rfl
            replace h5 : Blk V26 G22 134 [.int .i64 (X 0), .int .i64 (X 1), .int .i64 (X 2), .int .i64 (X 3), .int .i64 (X 4), .int .i64 (X 5), .int .i64 (X 6), .int .i64 (X 7), .int .i64 (X 8), .int .i64 (X 9)] := by rw [hV26]; exact Blk.setCellsFar (by omega) _ _ _ h5
            replace hx : Blk V26 w.heap.size 49 [.int .i64 (X 0), .int .i64 (X 1), .int .i64 (X 2), .int .i64 (X 3), .int .i64 (X 4), .int .i64 (X 5), .int .i64 (X 6), .int .i64 (X 7), .int .i64 (X 8), .int .i64 (X 9)] := by rw [hV26]; exact Blk.setCellsFar (by omega) _ _ _ hx
            replace hy : Blk V26 (w.heap.size + 1) 49 [.int .i64 (Y 0), .int .i64 (Y 1), .int .i64 (Y 2), .int .i64 (Y 3), .int .i64 (Y 4), .int .i64 (Y 5), .int .i64 (Y 6), .int .i64 (Y 7), .int .i64 (Y 8), .int .i64 (Y 9)] := by rw [hV26]; exact Blk.setCellsFar (by omega) _ _ _ hy
            replace hz : Blk V26 (w.heap.size + 2) 49 [.int .i64 (noT 0), .int .i64 (noT 1), .int .i64 (noT 2), .int .i64 (noT 3), .int .i64 (noT 4), .int .i64 (noT 5), .int .i64 (noT 6), .int .i64 (noT 7), .int .i64 (noT 8), .int .i64 (noT 9)] := by rw [hV26]; exact Blk.setCellsFar (by omega) _ _ _ hz
            replace hb : Below w.heap.size w V26 := by rw [hV26]; exact below_setCells hb (by omega) _ _
            clear hV26
            refine hK.out _ _ (⟨hx, hy⟩) (fun hHeld => ?_)
            clear hK K
            try simp only [List.getElem_toArray, List.getElem_cons_zero, List.getElem_cons_succ, Act.put, List.setIfInBounds_toArray, List.set_cons_zero, List.set_cons_succ]
            refine wpAnyH_done (by decide +kernel) ?_ _
            go_wp2
            go_meet
            exact ⟨G22, G25, rfl, rfl, by omega, h5, h6, by omega, by omega, hz, hb⟩
        · go_simp
          have hlt27 := h5.lt
          have h6 := Blk.top (g := (w23).heap.size) (t := 134) (cs := [.int .i64 0, .int .i64 0, .int .i64 0, .int .i64 0, .int .i64 0, .int .i64 0, .int .i64 0, .int .i64 0, .int .i64 0, .int .i64 0]) w23 rfl rfl
          replace hx := hx.alloc (.cells #[.int .i64 0, .int .i64 0, .int .i64 0, .int .i64 0, .int .i64 0, .int .i64 0, .int .i64 0, .int .i64 0, .int .i64 0, .int .i64 0] 134)
          replace hy := hy.alloc (.cells #[.int .i64 0, .int .i64 0, .int .i64 0, .int .i64 0, .int .i64 0, .int .i64 0, .int .i64 0, .int .i64 0, .int .i64 0, .int .i64 0] 134)
          replace hz := hz.alloc (.cells #[.int .i64 0, .int .i64 0, .int .i64 0, .int .i64 0, .int .i64 0, .int .i64 0, .int .i64 0, .int .i64 0, .int .i64 0, .int .i64 0] 134)
          replace h5 := h5.alloc (.cells #[.int .i64 0, .int .i64 0, .int .i64 0, .int .i64 0, .int .i64 0, .int .i64 0, .int .i64 0, .int .i64 0, .int .i64 0, .int .i64 0] 134)
          have hge27 : w.heap.size + 3 ≤ (w23).heap.size := hs
          replace hb := hb.alloc (by omega) (.cells #[.int .i64 0, .int .i64 0, .int .i64 0, .int .i64 0, .int .i64 0, .int .i64 0, .int .i64 0, .int .i64 0, .int .i64 0, .int .i64 0] 134)
          obtain ⟨W27, hW27⟩ : ∃ W27, (w23).alloc (.cells #[.int .i64 0, .int .i64 0, .int .i64 0, .int .i64 0, .int .i64 0, .int .i64 0, .int .i64 0, .int .i64 0, .int .i64 0, .int .i64 0] 134) = W27 := ⟨_, rfl⟩
          have hsz27 : (w23).heap.size < W27.heap.size := by rw [← hW27]; simp
          have hs27 : w.heap.size + 3 ≤ W27.heap.size := by omega
          obtain ⟨G27, hG27⟩ : ∃ G27, (w23).heap.size = G27 := ⟨_, rfl⟩
          simp only [hW27, hG27] at *
          clear hW27
          clear hG27
          replace hs : w.heap.size + 3 ≤ W27.heap.size := by omega
          refine hK.out _ _ (⟨hx, hy⟩) (fun hHeld => ?_)
          clear hK K
          try simp only [List.getElem_toArray, List.getElem_cons_zero, List.getElem_cons_succ, Act.put, List.setIfInBounds_toArray, List.set_cons_zero, List.set_cons_succ]
          refine wpAnyH_ready (rs := [3]) (by decide +kernel) (by simp) ?_
          refine AllReadyH.cons rfl (fun K hK => ?_) AllReadyH.nil
          · go_simp
            (go_at_call 58; (with_reducible refine (hny _).mono ?_); rintro e w28 ⟨rfl, hb28⟩)
            replace hx := hx.below hb28 hx.lt
            replace hy := hy.below hb28 hy.lt
            replace hz := hz.below hb28 hz.lt
            replace h5 := h5.below hb28 h5.lt
            replace h6 := h6.below hb28 h6.lt
            replace hb := hb.trans (hb28.mono (by omega))
            replace hs := Nat.le_trans hs hb28.size
            clear hb28
            refine hK.out _ _ (⟨hx, hy⟩) (fun hHeld => ?_)
            clear hK K
            try simp only [List.getElem_toArray, List.getElem_cons_zero, List.getElem_cons_succ, Act.put, List.setIfInBounds_toArray, List.set_cons_zero, List.set_cons_succ]
            refine wpAnyH_ready (rs := [6]) (by decide +kernel) (by simp) ?_
            refine AllReadyH.cons rfl (fun K hK => ?_) AllReadyH.nil
            rw [if_pos (by rfl)]
            refine wp_store_eq 134 (.tmp 5) (.tmp 9) rfl G22 0 #[.int .i64 (X 0), .int .i64 (X 1), .int .i64 (X 2), .int .i64 (X 3), .int .i64 (X 4), .int .i64 (X 5), .int .i64 (X 6), .int .i64 (X 7), .int .i64 (X 8), .int .i64 (X 9)] rfl rfl (h5.there 0 10 (by simp)) (by kernel_rfl) (all_oneCell_toArray (tl_one X)) ?_
            intro S29 hS29
            replace h5 : Blk S29 G22 134 [.int .i64 (X 0), .int .i64 (X 1), .int .i64 (X 2), .int .i64 (X 3), .int .i64 (X 4), .int .i64 (X 5), .int .i64 (X 6), .int .i64 (X 7), .int .i64 (X 8), .int .i64 (X 9)] := by rw [hS29]; exact h5.setAll rfl
            replace h6 : Blk S29 G27 134 [.int .i64 0, .int .i64 0, .int .i64 0, .int .i64 0, .int .i64 0, .int .i64 0, .int .i64 0, .int .i64 0, .int .i64 0, .int .i64 0] := by rw [hS29]; exact Blk.setCellsFar (by omega) _ _ _ h6
            replace hx : Blk S29 w.heap.size 49 [.int .i64 (X 0), .int .i64 (X 1), .int .i64 (X 2), .int .i64 (X 3), .int .i64 (X 4), .int .i64 (X 5), .int .i64 (X 6), .int .i64 (X 7), .int .i64 (X 8), .int .i64 (X 9)] := by rw [hS29]; exact Blk.setCellsFar (by omega) _ _ _ hx
            replace hy : Blk S29 (w.heap.size + 1) 49 [.int .i64 (Y 0), .int .i64 (Y 1), .int .i64 (Y 2), .int .i64 (Y 3), .int .i64 (Y 4), .int .i64 (Y 5), .int .i64 (Y 6), .int .i64 (Y 7), .int .i64 (Y 8), .int .i64 (Y 9)] := by rw [hS29]; exact Blk.setCellsFar (by omega) _ _ _ hy
            replace hz : Blk S29 (w.heap.size + 2) 49 [.int .i64 (noT 0), .int .i64 (noT 1), .int .i64 (noT 2), .int .i64 (noT 3), .int .i64 (noT 4), .int .i64 (noT 5), .int .i64 (noT 6), .int .i64 (noT 7), .int .i64 (noT 8), .int .i64 (noT 9)] := by rw [hS29]; exact Blk.setCellsFar (by omega) _ _ _ hz
            replace hb : Below w.heap.size w S29 := by rw [hS29]; exact below_setCells hb (by omega) _ _
            clear hS29
            refine hK.out _ _ (⟨hx, hy⟩) (fun hHeld => ?_)
            clear hK K
            try simp only [List.getElem_toArray, List.getElem_cons_zero, List.getElem_cons_succ, Act.put, List.setIfInBounds_toArray, List.set_cons_zero, List.set_cons_succ]
            refine wpAnyH_ready (rs := [7]) (by decide +kernel) (by simp) ?_
            refine AllReadyH.cons rfl (fun K hK => ?_) AllReadyH.nil
            rw [if_pos (by rfl)]
            refine wp_store_eq 134 (.tmp 6) (.tmp 11) rfl G27 0 #[.int .i64 (Y 0), .int .i64 (Y 1), .int .i64 (Y 2), .int .i64 (Y 3), .int .i64 (Y 4), .int .i64 (Y 5), .int .i64 (Y 6), .int .i64 (Y 7), .int .i64 (Y 8), .int .i64 (Y 9)] rfl rfl (h6.there 0 10 (by simp)) (by kernel_rfl) (all_oneCell_toArray (tl_one Y)) ?_
            intro V29 hV29
            replace h6 : Blk V29 G27 134 [.int .i64 (Y 0), .int .i64 (Y 1), .int .i64 (Y 2), .int .i64 (Y 3), .int .i64 (Y 4), .int .i64 (Y 5), .int .i64 (Y 6), .int .i64 (Y 7), .int .i64 (Y 8), .int .i64 (Y 9)] := by rw [hV29]; exact h6.setAll rfl
            replace h5 : Blk V29 G22 134 [.int .i64 (X 0), .int .i64 (X 1), .int .i64 (X 2), .int .i64 (X 3), .int .i64 (X 4), .int .i64 (X 5), .int .i64 (X 6), .int .i64 (X 7), .int .i64 (X 8), .int .i64 (X 9)] := by rw [hV29]; exact Blk.setCellsFar (by omega) _ _ _ h5
            replace hx : Blk V29 w.heap.size 49 [.int .i64 (X 0), .int .i64 (X 1), .int .i64 (X 2), .int .i64 (X 3), .int .i64 (X 4), .int .i64 (X 5), .int .i64 (X 6), .int .i64 (X 7), .int .i64 (X 8), .int .i64 (X 9)] := by rw [hV29]; exact Blk.setCellsFar (by omega) _ _ _ hx
            replace hy : Blk V29 (w.heap.size + 1) 49 [.int .i64 (Y 0), .int .i64 (Y 1), .int .i64 (Y 2), .int .i64 (Y 3), .int .i64 (Y 4), .int .i64 (Y 5), .int .i64 (Y 6), .int .i64 (Y 7), .int .i64 (Y 8), .int .i64 (Y 9)] := by rw [hV29]; exact Blk.setCellsFar (by omega) _ _ _ hy
            replace hz : Blk V29 (w.heap.size + 2) 49 [.int .i64 (noT 0), .int .i64 (noT 1), .int .i64 (noT 2), .int .i64 (noT 3), .int .i64 (noT 4), .int .i64 (noT 5), .int .i64 (noT 6), .int .i64 (noT 7), .int .i64 (noT 8), .int .i64 (noT 9)] := by rw [hV29]; exact Blk.setCellsFar (by omega) _ _ _ hz
            replace hb : Below w.heap.size w V29 := by rw [hV29]; exact below_setCells hb (by omega) _ _
            clear hV29
            refine hK.out _ _ (⟨hx, hy⟩) (fun hHeld => ?_)
            clear hK K
            try simp only [List.getElem_toArray, List.getElem_cons_zero, List.getElem_cons_succ, Act.put, List.setIfInBounds_toArray, List.set_cons_zero, List.set_cons_succ]
            refine wpAnyH_done (by decide +kernel) ?_ _
            go_wp2
            go_meet
            exact ⟨G22, G27, rfl, rfl, by omega, h5, h6, by omega, by omega, hz, hb⟩
      · go_simp
        have hlt30 := h5.lt
        have h6 := Blk.top (g := (W22).heap.size) (t := 134) (cs := [.int .i64 0, .int .i64 0, .int .i64 0, .int .i64 0, .int .i64 0, .int .i64 0, .int .i64 0, .int .i64 0, .int .i64 0, .int .i64 0]) W22 rfl rfl
        replace hx := hx.alloc (.cells #[.int .i64 0, .int .i64 0, .int .i64 0, .int .i64 0, .int .i64 0, .int .i64 0, .int .i64 0, .int .i64 0, .int .i64 0, .int .i64 0] 134)
        replace hy := hy.alloc (.cells #[.int .i64 0, .int .i64 0, .int .i64 0, .int .i64 0, .int .i64 0, .int .i64 0, .int .i64 0, .int .i64 0, .int .i64 0, .int .i64 0] 134)
        replace hz := hz.alloc (.cells #[.int .i64 0, .int .i64 0, .int .i64 0, .int .i64 0, .int .i64 0, .int .i64 0, .int .i64 0, .int .i64 0, .int .i64 0, .int .i64 0] 134)
        replace h5 := h5.alloc (.cells #[.int .i64 0, .int .i64 0, .int .i64 0, .int .i64 0, .int .i64 0, .int .i64 0, .int .i64 0, .int .i64 0, .int .i64 0, .int .i64 0] 134)
        have hge30 : w.heap.size + 3 ≤ (W22).heap.size := hs
        replace hb := hb.alloc (by omega) (.cells #[.int .i64 0, .int .i64 0, .int .i64 0, .int .i64 0, .int .i64 0, .int .i64 0, .int .i64 0, .int .i64 0, .int .i64 0, .int .i64 0] 134)
        obtain ⟨W30, hW30⟩ : ∃ W30, (W22).alloc (.cells #[.int .i64 0, .int .i64 0, .int .i64 0, .int .i64 0, .int .i64 0, .int .i64 0, .int .i64 0, .int .i64 0, .int .i64 0, .int .i64 0] 134) = W30 := ⟨_, rfl⟩
        have hsz30 : (W22).heap.size < W30.heap.size := by rw [← hW30]; simp
        have hs30 : w.heap.size + 3 ≤ W30.heap.size := by omega
        obtain ⟨G30, hG30⟩ : ∃ G30, (W22).heap.size = G30 := ⟨_, rfl⟩
        simp only [hW30, hG30] at *
        clear hW30
        clear hG30
        replace hs : w.heap.size + 3 ≤ W30.heap.size := by omega
        refine hK.out _ _ (⟨hx, hy⟩) (fun hHeld => ?_)
        clear hK K
        try simp only [List.getElem_toArray, List.getElem_cons_zero, List.getElem_cons_succ, Act.put, List.setIfInBounds_toArray, List.set_cons_zero, List.set_cons_succ]
        refine wpAnyH_ready (rs := [1]) (by decide +kernel) (by simp) ?_
        refine AllReadyH.cons rfl (fun K hK => ?_) AllReadyH.nil
        · go_simp
          (go_at_call 58; (with_reducible refine (hnx _).mono ?_); rintro e w31 ⟨rfl, hb31⟩)
          replace hx := hx.below hb31 hx.lt
          replace hy := hy.below hb31 hy.lt
          replace hz := hz.below hb31 hz.lt
          replace h5 := h5.below hb31 h5.lt
          replace h6 := h6.below hb31 h6.lt
          replace hb := hb.trans (hb31.mono (by omega))
          replace hs := Nat.le_trans hs hb31.size
          clear hb31
          refine hK.out _ _ (⟨hx, hy⟩) (fun hHeld => ?_)
          clear hK K
          try simp only [List.getElem_toArray, List.getElem_cons_zero, List.getElem_cons_succ, Act.put, List.setIfInBounds_toArray, List.set_cons_zero, List.set_cons_succ]
          refine wpAnyH_ready (rs := [3]) (by decide +kernel) (by simp) ?_
          refine AllReadyH.cons rfl (fun K hK => ?_) AllReadyH.nil
          · go_simp
            (go_at_call 58; (with_reducible refine (hny _).mono ?_); rintro e w32 ⟨rfl, hb32⟩)
            replace hx := hx.below hb32 hx.lt
            replace hy := hy.below hb32 hy.lt
            replace hz := hz.below hb32 hz.lt
            replace h5 := h5.below hb32 h5.lt
            replace h6 := h6.below hb32 h6.lt
            replace hb := hb.trans (hb32.mono (by omega))
            replace hs := Nat.le_trans hs hb32.size
            clear hb32
            refine hK.out _ _ (⟨hx, hy⟩) (fun hHeld => ?_)
            clear hK K
            try simp only [List.getElem_toArray, List.getElem_cons_zero, List.getElem_cons_succ, Act.put, List.setIfInBounds_toArray, List.set_cons_zero, List.set_cons_succ]
            refine wpAnyH_ready (rs := [6]) (by decide +kernel) (by simp) ?_
            refine AllReadyH.cons rfl (fun K hK => ?_) AllReadyH.nil
            rw [if_pos (by rfl)]
            refine wp_store_eq 134 (.tmp 5) (.tmp 9) rfl G22 0 #[.int .i64 (X 0), .int .i64 (X 1), .int .i64 (X 2), .int .i64 (X 3), .int .i64 (X 4), .int .i64 (X 5), .int .i64 (X 6), .int .i64 (X 7), .int .i64 (X 8), .int .i64 (X 9)] rfl rfl (h5.there 0 10 (by simp)) (by kernel_rfl) (all_oneCell_toArray (tl_one X)) ?_
            intro S33 hS33
            replace h5 : Blk S33 G22 134 [.int .i64 (X 0), .int .i64 (X 1), .int .i64 (X 2), .int .i64 (X 3), .int .i64 (X 4), .int .i64 (X 5), .int .i64 (X 6), .int .i64 (X 7), .int .i64 (X 8), .int .i64 (X 9)] := by rw [hS33]; exact h5.setAll rfl
            replace h6 : Blk S33 G30 134 [.int .i64 0, .int .i64 0, .int .i64 0, .int .i64 0, .int .i64 0, .int .i64 0, .int .i64 0, .int .i64 0, .int .i64 0, .int .i64 0] := by rw [hS33]; exact Blk.setCellsFar (by omega) _ _ _ h6
            replace hx : Blk S33 w.heap.size 49 [.int .i64 (X 0), .int .i64 (X 1), .int .i64 (X 2), .int .i64 (X 3), .int .i64 (X 4), .int .i64 (X 5), .int .i64 (X 6), .int .i64 (X 7), .int .i64 (X 8), .int .i64 (X 9)] := by rw [hS33]; exact Blk.setCellsFar (by omega) _ _ _ hx
            replace hy : Blk S33 (w.heap.size + 1) 49 [.int .i64 (Y 0), .int .i64 (Y 1), .int .i64 (Y 2), .int .i64 (Y 3), .int .i64 (Y 4), .int .i64 (Y 5), .int .i64 (Y 6), .int .i64 (Y 7), .int .i64 (Y 8), .int .i64 (Y 9)] := by rw [hS33]; exact Blk.setCellsFar (by omega) _ _ _ hy
            replace hz : Blk S33 (w.heap.size + 2) 49 [.int .i64 (noT 0), .int .i64 (noT 1), .int .i64 (noT 2), .int .i64 (noT 3), .int .i64 (noT 4), .int .i64 (noT 5), .int .i64 (noT 6), .int .i64 (noT 7), .int .i64 (noT 8), .int .i64 (noT 9)] := by rw [hS33]; exact Blk.setCellsFar (by omega) _ _ _ hz
            replace hb : Below w.heap.size w S33 := by rw [hS33]; exact below_setCells hb (by omega) _ _
            clear hS33
            refine hK.out _ _ (⟨hx, hy⟩) (fun hHeld => ?_)
            clear hK K
            try simp only [List.getElem_toArray, List.getElem_cons_zero, List.getElem_cons_succ, Act.put, List.setIfInBounds_toArray, List.set_cons_zero, List.set_cons_succ]
            refine wpAnyH_ready (rs := [7]) (by decide +kernel) (by simp) ?_
            refine AllReadyH.cons rfl (fun K hK => ?_) AllReadyH.nil
            rw [if_pos (by rfl)]
            refine wp_store_eq 134 (.tmp 6) (.tmp 11) rfl G30 0 #[.int .i64 (Y 0), .int .i64 (Y 1), .int .i64 (Y 2), .int .i64 (Y 3), .int .i64 (Y 4), .int .i64 (Y 5), .int .i64 (Y 6), .int .i64 (Y 7), .int .i64 (Y 8), .int .i64 (Y 9)] rfl rfl (h6.there 0 10 (by simp)) (by kernel_rfl) (all_oneCell_toArray (tl_one Y)) ?_
            intro V33 hV33
            replace h6 : Blk V33 G30 134 [.int .i64 (Y 0), .int .i64 (Y 1), .int .i64 (Y 2), .int .i64 (Y 3), .int .i64 (Y 4), .int .i64 (Y 5), .int .i64 (Y 6), .int .i64 (Y 7), .int .i64 (Y 8), .int .i64 (Y 9)] := by rw [hV33]; exact h6.setAll rfl
            replace h5 : Blk V33 G22 134 [.int .i64 (X 0), .int .i64 (X 1), .int .i64 (X 2), .int .i64 (X 3), .int .i64 (X 4), .int .i64 (X 5), .int .i64 (X 6), .int .i64 (X 7), .int .i64 (X 8), .int .i64 (X 9)] := by rw [hV33]; exact Blk.setCellsFar (by omega) _ _ _ h5
            replace hx : Blk V33 w.heap.size 49 [.int .i64 (X 0), .int .i64 (X 1), .int .i64 (X 2), .int .i64 (X 3), .int .i64 (X 4), .int .i64 (X 5), .int .i64 (X 6), .int .i64 (X 7), .int .i64 (X 8), .int .i64 (X 9)] := by rw [hV33]; exact Blk.setCellsFar (by omega) _ _ _ hx
            replace hy : Blk V33 (w.heap.size + 1) 49 [.int .i64 (Y 0), .int .i64 (Y 1), .int .i64 (Y 2), .int .i64 (Y 3), .int .i64 (Y 4), .int .i64 (Y 5), .int .i64 (Y 6), .int .i64 (Y 7), .int .i64 (Y 8), .int .i64 (Y 9)] := by rw [hV33]; exact Blk.setCellsFar (by omega) _ _ _ hy
            replace hz : Blk V33 (w.heap.size + 2) 49 [.int .i64 (noT 0), .int .i64 (noT 1), .int .i64 (noT 2), .int .i64 (noT 3), .int .i64 (noT 4), .int .i64 (noT 5), .int .i64 (noT 6), .int .i64 (noT 7), .int .i64 (noT 8), .int .i64 (noT 9)] := by rw [hV33]; exact Blk.setCellsFar (by omega) _ _ _ hz
            replace hb : Below w.heap.size w V33 := by rw [hV33]; exact below_setCells hb (by omega) _ _
            clear hV33
            refine hK.out _ _ (⟨hx, hy⟩) (fun hHeld => ?_)
            clear hK K
            try simp only [List.getElem_toArray, List.getElem_cons_zero, List.getElem_cons_succ, Act.put, List.setIfInBounds_toArray, List.set_cons_zero, List.set_cons_succ]
            refine wpAnyH_done (by decide +kernel) ?_ _
            go_wp2
            go_meet
            exact ⟨G22, G30, rfl, rfl, by omega, h5, h6, by omega, by omega, hz, hb⟩
    · go_simp
      have h6 := Blk.top (g := (W0).heap.size) (t := 134) (cs := [.int .i64 0, .int .i64 0, .int .i64 0, .int .i64 0, .int .i64 0, .int .i64 0, .int .i64 0, .int .i64 0, .int .i64 0, .int .i64 0]) W0 rfl rfl
      replace hx := hx.alloc (.cells #[.int .i64 0, .int .i64 0, .int .i64 0, .int .i64 0, .int .i64 0, .int .i64 0, .int .i64 0, .int .i64 0, .int .i64 0, .int .i64 0] 134)
      replace hy := hy.alloc (.cells #[.int .i64 0, .int .i64 0, .int .i64 0, .int .i64 0, .int .i64 0, .int .i64 0, .int .i64 0, .int .i64 0, .int .i64 0, .int .i64 0] 134)
      replace hz := hz.alloc (.cells #[.int .i64 0, .int .i64 0, .int .i64 0, .int .i64 0, .int .i64 0, .int .i64 0, .int .i64 0, .int .i64 0, .int .i64 0, .int .i64 0] 134)
      have hge34 : w.heap.size + 3 ≤ (W0).heap.size := hs
      replace hb := hb.alloc (by omega) (.cells #[.int .i64 0, .int .i64 0, .int .i64 0, .int .i64 0, .int .i64 0, .int .i64 0, .int .i64 0, .int .i64 0, .int .i64 0, .int .i64 0] 134)
      obtain ⟨W34, hW34⟩ : ∃ W34, (W0).alloc (.cells #[.int .i64 0, .int .i64 0, .int .i64 0, .int .i64 0, .int .i64 0, .int .i64 0, .int .i64 0, .int .i64 0, .int .i64 0, .int .i64 0] 134) = W34 := ⟨_, rfl⟩
      have hsz34 : (W0).heap.size < W34.heap.size := by rw [← hW34]; simp
      have hs34 : w.heap.size + 3 ≤ W34.heap.size := by omega
      obtain ⟨G34, hG34⟩ : ∃ G34, (W0).heap.size = G34 := ⟨_, rfl⟩
      simp only [hW34, hG34] at *
      clear hW34
      clear hG34
      replace hs : w.heap.size + 3 ≤ W34.heap.size := by omega
      refine hK.out _ _ (⟨hx, hy⟩) (fun hHeld => ?_)
      clear hK K
      try simp only [List.getElem_toArray, List.getElem_cons_zero, List.getElem_cons_succ, Act.put, List.setIfInBounds_toArray, List.set_cons_zero, List.set_cons_succ]
      refine wpAnyH_ready (rs := [1, 4]) (by decide +kernel) (by simp) ?_
      refine AllReadyH.cons rfl (fun K hK => ?_) (AllReadyH.cons rfl (fun K hK => ?_) AllReadyH.nil)
      · go_simp
        (go_at_call 58; (with_reducible refine (hnx _).mono ?_); rintro e w35 ⟨rfl, hb35⟩)
        replace hx := hx.below hb35 hx.lt
        replace hy := hy.below hb35 hy.lt
        replace hz := hz.below hb35 hz.lt
        replace h6 := h6.below hb35 h6.lt
        replace hb := hb.trans (hb35.mono (by omega))
        replace hs := Nat.le_trans hs hb35.size
        clear hb35
        refine hK.out _ _ (⟨hx, hy⟩) (fun hHeld => ?_)
        clear hK K
        try simp only [List.getElem_toArray, List.getElem_cons_zero, List.getElem_cons_succ, Act.put, List.setIfInBounds_toArray, List.set_cons_zero, List.set_cons_succ]
        refine wpAnyH_ready (rs := [3, 4]) (by decide +kernel) (by simp) ?_
        refine AllReadyH.cons rfl (fun K hK => ?_) (AllReadyH.cons rfl (fun K hK => ?_) AllReadyH.nil)
        · go_simp
          (go_at_call 58; (with_reducible refine (hny _).mono ?_); rintro e w36 ⟨rfl, hb36⟩)
          replace hx := hx.below hb36 hx.lt
          replace hy := hy.below hb36 hy.lt
          replace hz := hz.below hb36 hz.lt
          replace h6 := h6.below hb36 h6.lt
          replace hb := hb.trans (hb36.mono (by omega))
          replace hs := Nat.le_trans hs hb36.size
          clear hb36
          refine hK.out _ _ (⟨hx, hy⟩) (fun hHeld => ?_)
          clear hK K
          try simp only [List.getElem_toArray, List.getElem_cons_zero, List.getElem_cons_succ, Act.put, List.setIfInBounds_toArray, List.set_cons_zero, List.set_cons_succ]
          refine wpAnyH_ready (rs := [4]) (by decide +kernel) (by simp) ?_
          refine AllReadyH.cons rfl (fun K hK => ?_) AllReadyH.nil
          · go_simp
            have hlt37 := h6.lt
            have h5 := Blk.top (g := (w36).heap.size) (t := 134) (cs := [.int .i64 0, .int .i64 0, .int .i64 0, .int .i64 0, .int .i64 0, .int .i64 0, .int .i64 0, .int .i64 0, .int .i64 0, .int .i64 0]) w36 rfl rfl
            replace hx := hx.alloc (.cells #[.int .i64 0, .int .i64 0, .int .i64 0, .int .i64 0, .int .i64 0, .int .i64 0, .int .i64 0, .int .i64 0, .int .i64 0, .int .i64 0] 134)
            replace hy := hy.alloc (.cells #[.int .i64 0, .int .i64 0, .int .i64 0, .int .i64 0, .int .i64 0, .int .i64 0, .int .i64 0, .int .i64 0, .int .i64 0, .int .i64 0] 134)
            replace hz := hz.alloc (.cells #[.int .i64 0, .int .i64 0, .int .i64 0, .int .i64 0, .int .i64 0, .int .i64 0, .int .i64 0, .int .i64 0, .int .i64 0, .int .i64 0] 134)
            replace h6 := h6.alloc (.cells #[.int .i64 0, .int .i64 0, .int .i64 0, .int .i64 0, .int .i64 0, .int .i64 0, .int .i64 0, .int .i64 0, .int .i64 0, .int .i64 0] 134)
            have hge37 : w.heap.size + 3 ≤ (w36).heap.size := hs
            replace hb := hb.alloc (by omega) (.cells #[.int .i64 0, .int .i64 0, .int .i64 0, .int .i64 0, .int .i64 0, .int .i64 0, .int .i64 0, .int .i64 0, .int .i64 0, .int .i64 0] 134)
            obtain ⟨W37, hW37⟩ : ∃ W37, (w36).alloc (.cells #[.int .i64 0, .int .i64 0, .int .i64 0, .int .i64 0, .int .i64 0, .int .i64 0, .int .i64 0, .int .i64 0, .int .i64 0, .int .i64 0] 134) = W37 := ⟨_, rfl⟩
            have hsz37 : (w36).heap.size < W37.heap.size := by rw [← hW37]; simp
            have hs37 : w.heap.size + 3 ≤ W37.heap.size := by omega
            obtain ⟨G37, hG37⟩ : ∃ G37, (w36).heap.size = G37 := ⟨_, rfl⟩
            simp only [hW37, hG37] at *
            clear hW37
            clear hG37
            replace hs : w.heap.size + 3 ≤ W37.heap.size := by omega
            refine hK.out _ _ (⟨hx, hy⟩) (fun hHeld => ?_)
            clear hK K
            try simp only [List.getElem_toArray, List.getElem_cons_zero, List.getElem_cons_succ, Act.put, List.setIfInBounds_toArray, List.set_cons_zero, List.set_cons_succ]
            refine wpAnyH_ready (rs := [6]) (by decide +kernel) (by simp) ?_
            refine AllReadyH.cons rfl (fun K hK => ?_) AllReadyH.nil
            rw [if_pos (by rfl)]
            refine wp_store_eq 134 (.tmp 5) (.tmp 9) rfl G37 0 #[.int .i64 (X 0), .int .i64 (X 1), .int .i64 (X 2), .int .i64 (X 3), .int .i64 (X 4), .int .i64 (X 5), .int .i64 (X 6), .int .i64 (X 7), .int .i64 (X 8), .int .i64 (X 9)] rfl rfl (h5.there 0 10 (by simp)) (by kernel_rfl) (all_oneCell_toArray (tl_one X)) ?_
            intro S38 hS38
            replace h5 : Blk S38 G37 134 [.int .i64 (X 0), .int .i64 (X 1), .int .i64 (X 2), .int .i64 (X 3), .int .i64 (X 4), .int .i64 (X 5), .int .i64 (X 6), .int .i64 (X 7), .int .i64 (X 8), .int .i64 (X 9)] := by rw [hS38]; exact h5.setAll rfl
            replace h6 : Blk S38 G34 134 [.int .i64 0, .int .i64 0, .int .i64 0, .int .i64 0, .int .i64 0, .int .i64 0, .int .i64 0, .int .i64 0, .int .i64 0, .int .i64 0] := by rw [hS38]; exact Blk.setCellsFar (by omega) _ _ _ h6
            replace hx : Blk S38 w.heap.size 49 [.int .i64 (X 0), .int .i64 (X 1), .int .i64 (X 2), .int .i64 (X 3), .int .i64 (X 4), .int .i64 (X 5), .int .i64 (X 6), .int .i64 (X 7), .int .i64 (X 8), .int .i64 (X 9)] := by rw [hS38]; exact Blk.setCellsFar (by omega) _ _ _ hx
            replace hy : Blk S38 (w.heap.size + 1) 49 [.int .i64 (Y 0), .int .i64 (Y 1), .int .i64 (Y 2), .int .i64 (Y 3), .int .i64 (Y 4), .int .i64 (Y 5), .int .i64 (Y 6), .int .i64 (Y 7), .int .i64 (Y 8), .int .i64 (Y 9)] := by rw [hS38]; exact Blk.setCellsFar (by omega) _ _ _ hy
            replace hz : Blk S38 (w.heap.size + 2) 49 [.int .i64 (noT 0), .int .i64 (noT 1), .int .i64 (noT 2), .int .i64 (noT 3), .int .i64 (noT 4), .int .i64 (noT 5), .int .i64 (noT 6), .int .i64 (noT 7), .int .i64 (noT 8), .int .i64 (noT 9)] := by rw [hS38]; exact Blk.setCellsFar (by omega) _ _ _ hz
            replace hb : Below w.heap.size w S38 := by rw [hS38]; exact below_setCells hb (by omega) _ _
            clear hS38
            refine hK.out _ _ (⟨hx, hy⟩) (fun hHeld => ?_)
            clear hK K
            try simp only [List.getElem_toArray, List.getElem_cons_zero, List.getElem_cons_succ, Act.put, List.setIfInBounds_toArray, List.set_cons_zero, List.set_cons_succ]
            refine wpAnyH_ready (rs := [7]) (by decide +kernel) (by simp) ?_
            refine AllReadyH.cons rfl (fun K hK => ?_) AllReadyH.nil
            rw [if_pos (by rfl)]
            refine wp_store_eq 134 (.tmp 6) (.tmp 11) rfl G34 0 #[.int .i64 (Y 0), .int .i64 (Y 1), .int .i64 (Y 2), .int .i64 (Y 3), .int .i64 (Y 4), .int .i64 (Y 5), .int .i64 (Y 6), .int .i64 (Y 7), .int .i64 (Y 8), .int .i64 (Y 9)] rfl rfl (h6.there 0 10 (by simp)) (by kernel_rfl) (all_oneCell_toArray (tl_one Y)) ?_
            intro V38 hV38
            replace h6 : Blk V38 G34 134 [.int .i64 (Y 0), .int .i64 (Y 1), .int .i64 (Y 2), .int .i64 (Y 3), .int .i64 (Y 4), .int .i64 (Y 5), .int .i64 (Y 6), .int .i64 (Y 7), .int .i64 (Y 8), .int .i64 (Y 9)] := by rw [hV38]; exact h6.setAll rfl
            replace h5 : Blk V38 G37 134 [.int .i64 (X 0), .int .i64 (X 1), .int .i64 (X 2), .int .i64 (X 3), .int .i64 (X 4), .int .i64 (X 5), .int .i64 (X 6), .int .i64 (X 7), .int .i64 (X 8), .int .i64 (X 9)] := by rw [hV38]; exact Blk.setCellsFar (by omega) _ _ _ h5
            replace hx : Blk V38 w.heap.size 49 [.int .i64 (X 0), .int .i64 (X 1), .int .i64 (X 2), .int .i64 (X 3), .int .i64 (X 4), .int .i64 (X 5), .int .i64 (X 6), .int .i64 (X 7), .int .i64 (X 8), .int .i64 (X 9)] := by rw [hV38]; exact Blk.setCellsFar (by omega) _ _ _ hx
            replace hy : Blk V38 (w.heap.size + 1) 49 [.int .i64 (Y 0), .int .i64 (Y 1), .int .i64 (Y 2), .int .i64 (Y 3), .int .i64 (Y 4), .int .i64 (Y 5), .int .i64 (Y 6), .int .i64 (Y 7), .int .i64 (Y 8), .int .i64 (Y 9)] := by rw [hV38]; exact Blk.setCellsFar (by omega) _ _ _ hy
            replace hz : Blk V38 (w.heap.size + 2) 49 [.int .i64 (noT 0), .int .i64 (noT 1), .int .i64 (noT 2), .int .i64 (noT 3), .int .i64 (noT 4), .int .i64 (noT 5), .int .i64 (noT 6), .int .i64 (noT 7), .int .i64 (noT 8), .int .i64 (noT 9)] := by rw [hV38]; exact Blk.setCellsFar (by omega) _ _ _ hz
            replace hb : Below w.heap.size w V38 := by rw [hV38]; exact below_setCells hb (by omega) _ _
            clear hV38
            refine hK.out _ _ (⟨hx, hy⟩) (fun hHeld => ?_)
            clear hK K
            try simp only [List.getElem_toArray, List.getElem_cons_zero, List.getElem_cons_succ, Act.put, List.setIfInBounds_toArray, List.set_cons_zero, List.set_cons_succ]
            refine wpAnyH_done (by decide +kernel) ?_ _
            go_wp2
            go_meet
            exact ⟨G37, G34, rfl, rfl, by omega, h5, h6, by omega, by omega, hz, hb⟩
        · go_simp
          have hlt39 := h6.lt
          have h5 := Blk.top (g := (w35).heap.size) (t := 134) (cs := [.int .i64 0, .int .i64 0, .int .i64 0, .int .i64 0, .int .i64 0, .int .i64 0, .int .i64 0, .int .i64 0, .int .i64 0, .int .i64 0]) w35 rfl rfl
          replace hx := hx.alloc (.cells #[.int .i64 0, .int .i64 0, .int .i64 0, .int .i64 0, .int .i64 0, .int .i64 0, .int .i64 0, .int .i64 0, .int .i64 0, .int .i64 0] 134)
          replace hy := hy.alloc (.cells #[.int .i64 0, .int .i64 0, .int .i64 0, .int .i64 0, .int .i64 0, .int .i64 0, .int .i64 0, .int .i64 0, .int .i64 0, .int .i64 0] 134)
          replace hz := hz.alloc (.cells #[.int .i64 0, .int .i64 0, .int .i64 0, .int .i64 0, .int .i64 0, .int .i64 0, .int .i64 0, .int .i64 0, .int .i64 0, .int .i64 0] 134)
          replace h6 := h6.alloc (.cells #[.int .i64 0, .int .i64 0, .int .i64 0, .int .i64 0, .int .i64 0, .int .i64 0, .int .i64 0, .int .i64 0, .int .i64 0, .int .i64 0] 134)
          have hge39 : w.heap.size + 3 ≤ (w35).heap.size := hs
          replace hb := hb.alloc (by omega) (.cells #[.int .i64 0, .int .i64 0, .int .i64 0, .int .i64 0, .int .i64 0, .int .i64 0, .int .i64 0, .int .i64 0, .int .i64 0, .int .i64 0] 134)
          obtain ⟨W39, hW39⟩ : ∃ W39, (w35).alloc (.cells #[.int .i64 0, .int .i64 0, .int .i64 0, .int .i64 0, .int .i64 0, .int .i64 0, .int .i64 0, .int .i64 0, .int .i64 0, .int .i64 0] 134) = W39 := ⟨_, rfl⟩
          have hsz39 : (w35).heap.size < W39.heap.size := by rw [← hW39]; simp
          have hs39 : w.heap.size + 3 ≤ W39.heap.size := by omega
          obtain ⟨G39, hG39⟩ : ∃ G39, (w35).heap.size = G39 := ⟨_, rfl⟩
          simp only [hW39, hG39] at *
          clear hW39
          clear hG39
          replace hs : w.heap.size + 3 ≤ W39.heap.size := by omega
          refine hK.out _ _ (⟨hx, hy⟩) (fun hHeld => ?_)
          clear hK K
          try simp only [List.getElem_toArray, List.getElem_cons_zero, List.getElem_cons_succ, Act.put, List.setIfInBounds_toArray, List.set_cons_zero, List.set_cons_succ]
          refine wpAnyH_ready (rs := [3]) (by decide +kernel) (by simp) ?_
          refine AllReadyH.cons rfl (fun K hK => ?_) AllReadyH.nil
          · go_simp
            (go_at_call 58; (with_reducible refine (hny _).mono ?_); rintro e w40 ⟨rfl, hb40⟩)
            replace hx := hx.below hb40 hx.lt
            replace hy := hy.below hb40 hy.lt
            replace hz := hz.below hb40 hz.lt
            replace h5 := h5.below hb40 h5.lt
            replace h6 := h6.below hb40 h6.lt
            replace hb := hb.trans (hb40.mono (by omega))
            replace hs := Nat.le_trans hs hb40.size
            clear hb40
            refine hK.out _ _ (⟨hx, hy⟩) (fun hHeld => ?_)
            clear hK K
            try simp only [List.getElem_toArray, List.getElem_cons_zero, List.getElem_cons_succ, Act.put, List.setIfInBounds_toArray, List.set_cons_zero, List.set_cons_succ]
            refine wpAnyH_ready (rs := [6]) (by decide +kernel) (by simp) ?_
            refine AllReadyH.cons rfl (fun K hK => ?_) AllReadyH.nil
            rw [if_pos (by rfl)]
            refine wp_store_eq 134 (.tmp 5) (.tmp 9) rfl G39 0 #[.int .i64 (X 0), .int .i64 (X 1), .int .i64 (X 2), .int .i64 (X 3), .int .i64 (X 4), .int .i64 (X 5), .int .i64 (X 6), .int .i64 (X 7), .int .i64 (X 8), .int .i64 (X 9)] rfl rfl (h5.there 0 10 (by simp)) (by kernel_rfl) (all_oneCell_toArray (tl_one X)) ?_
            intro S41 hS41
            replace h5 : Blk S41 G39 134 [.int .i64 (X 0), .int .i64 (X 1), .int .i64 (X 2), .int .i64 (X 3), .int .i64 (X 4), .int .i64 (X 5), .int .i64 (X 6), .int .i64 (X 7), .int .i64 (X 8), .int .i64 (X 9)] := by rw [hS41]; exact h5.setAll rfl
            replace h6 : Blk S41 G34 134 [.int .i64 0, .int .i64 0, .int .i64 0, .int .i64 0, .int .i64 0, .int .i64 0, .int .i64 0, .int .i64 0, .int .i64 0, .int .i64 0] := by rw [hS41]; exact Blk.setCellsFar (by omega) _ _ _ h6
            replace hx : Blk S41 w.heap.size 49 [.int .i64 (X 0), .int .i64 (X 1), .int .i64 (X 2), .int .i64 (X 3), .int .i64 (X 4), .int .i64 (X 5), .int .i64 (X 6), .int .i64 (X 7), .int .i64 (X 8), .int .i64 (X 9)] := by rw [hS41]; exact Blk.setCellsFar (by omega) _ _ _ hx
            replace hy : Blk S41 (w.heap.size + 1) 49 [.int .i64 (Y 0), .int .i64 (Y 1), .int .i64 (Y 2), .int .i64 (Y 3), .int .i64 (Y 4), .int .i64 (Y 5), .int .i64 (Y 6), .int .i64 (Y 7), .int .i64 (Y 8), .int .i64 (Y 9)] := by rw [hS41]; exact Blk.setCellsFar (by omega) _ _ _ hy
            replace hz : Blk S41 (w.heap.size + 2) 49 [.int .i64 (noT 0), .int .i64 (noT 1), .int .i64 (noT 2), .int .i64 (noT 3), .int .i64 (noT 4), .int .i64 (noT 5), .int .i64 (noT 6), .int .i64 (noT 7), .int .i64 (noT 8), .int .i64 (noT 9)] := by rw [hS41]; exact Blk.setCellsFar (by omega) _ _ _ hz
            replace hb : Below w.heap.size w S41 := by rw [hS41]; exact below_setCells hb (by omega) _ _
            clear hS41
            refine hK.out _ _ (⟨hx, hy⟩) (fun hHeld => ?_)
            clear hK K
            try simp only [List.getElem_toArray, List.getElem_cons_zero, List.getElem_cons_succ, Act.put, List.setIfInBounds_toArray, List.set_cons_zero, List.set_cons_succ]
            refine wpAnyH_ready (rs := [7]) (by decide +kernel) (by simp) ?_
            refine AllReadyH.cons rfl (fun K hK => ?_) AllReadyH.nil
            rw [if_pos (by rfl)]
            refine wp_store_eq 134 (.tmp 6) (.tmp 11) rfl G34 0 #[.int .i64 (Y 0), .int .i64 (Y 1), .int .i64 (Y 2), .int .i64 (Y 3), .int .i64 (Y 4), .int .i64 (Y 5), .int .i64 (Y 6), .int .i64 (Y 7), .int .i64 (Y 8), .int .i64 (Y 9)] rfl rfl (h6.there 0 10 (by simp)) (by kernel_rfl) (all_oneCell_toArray (tl_one Y)) ?_
            intro V41 hV41
            replace h6 : Blk V41 G34 134 [.int .i64 (Y 0), .int .i64 (Y 1), .int .i64 (Y 2), .int .i64 (Y 3), .int .i64 (Y 4), .int .i64 (Y 5), .int .i64 (Y 6), .int .i64 (Y 7), .int .i64 (Y 8), .int .i64 (Y 9)] := by rw [hV41]; exact h6.setAll rfl
            replace h5 : Blk V41 G39 134 [.int .i64 (X 0), .int .i64 (X 1), .int .i64 (X 2), .int .i64 (X 3), .int .i64 (X 4), .int .i64 (X 5), .int .i64 (X 6), .int .i64 (X 7), .int .i64 (X 8), .int .i64 (X 9)] := by rw [hV41]; exact Blk.setCellsFar (by omega) _ _ _ h5
            replace hx : Blk V41 w.heap.size 49 [.int .i64 (X 0), .int .i64 (X 1), .int .i64 (X 2), .int .i64 (X 3), .int .i64 (X 4), .int .i64 (X 5), .int .i64 (X 6), .int .i64 (X 7), .int .i64 (X 8), .int .i64 (X 9)] := by rw [hV41]; exact Blk.setCellsFar (by omega) _ _ _ hx
            replace hy : Blk V41 (w.heap.size + 1) 49 [.int .i64 (Y 0), .int .i64 (Y 1), .int .i64 (Y 2), .int .i64 (Y 3), .int .i64 (Y 4), .int .i64 (Y 5), .int .i64 (Y 6), .int .i64 (Y 7), .int .i64 (Y 8), .int .i64 (Y 9)] := by rw [hV41]; exact Blk.setCellsFar (by omega) _ _ _ hy
            replace hz : Blk V41 (w.heap.size + 2) 49 [.int .i64 (noT 0), .int .i64 (noT 1), .int .i64 (noT 2), .int .i64 (noT 3), .int .i64 (noT 4), .int .i64 (noT 5), .int .i64 (noT 6), .int .i64 (noT 7), .int .i64 (noT 8), .int .i64 (noT 9)] := by rw [hV41]; exact Blk.setCellsFar (by omega) _ _ _ hz
            replace hb : Below w.heap.size w V41 := by rw [hV41]; exact below_setCells hb (by omega) _ _
            clear hV41
            refine hK.out _ _ (⟨hx, hy⟩) (fun hHeld => ?_)
            clear hK K
            try simp only [List.getElem_toArray, List.getElem_cons_zero, List.getElem_cons_succ, Act.put, List.setIfInBounds_toArray, List.set_cons_zero, List.set_cons_succ]
            refine wpAnyH_done (by decide +kernel) ?_ _
            go_wp2
            go_meet
            exact ⟨G39, G34, rfl, rfl, by omega, h5, h6, by omega, by omega, hz, hb⟩
      · go_simp
        have hlt42 := h6.lt
        have h5 := Blk.top (g := (W34).heap.size) (t := 134) (cs := [.int .i64 0, .int .i64 0, .int .i64 0, .int .i64 0, .int .i64 0, .int .i64 0, .int .i64 0, .int .i64 0, .int .i64 0, .int .i64 0]) W34 rfl rfl
        replace hx := hx.alloc (.cells #[.int .i64 0, .int .i64 0, .int .i64 0, .int .i64 0, .int .i64 0, .int .i64 0, .int .i64 0, .int .i64 0, .int .i64 0, .int .i64 0] 134)
        replace hy := hy.alloc (.cells #[.int .i64 0, .int .i64 0, .int .i64 0, .int .i64 0, .int .i64 0, .int .i64 0, .int .i64 0, .int .i64 0, .int .i64 0, .int .i64 0] 134)
        replace hz := hz.alloc (.cells #[.int .i64 0, .int .i64 0, .int .i64 0, .int .i64 0, .int .i64 0, .int .i64 0, .int .i64 0, .int .i64 0, .int .i64 0, .int .i64 0] 134)
        replace h6 := h6.alloc (.cells #[.int .i64 0, .int .i64 0, .int .i64 0, .int .i64 0, .int .i64 0, .int .i64 0, .int .i64 0, .int .i64 0, .int .i64 0, .int .i64 0] 134)
        have hge42 : w.heap.size + 3 ≤ (W34).heap.size := hs
        replace hb := hb.alloc (by omega) (.cells #[.int .i64 0, .int .i64 0, .int .i64 0, .int .i64 0, .int .i64 0, .int .i64 0, .int .i64 0, .int .i64 0, .int .i64 0, .int .i64 0] 134)
        obtain ⟨W42, hW42⟩ : ∃ W42, (W34).alloc (.cells #[.int .i64 0, .int .i64 0, .int .i64 0, .int .i64 0, .int .i64 0, .int .i64 0, .int .i64 0, .int .i64 0, .int .i64 0, .int .i64 0] 134) = W42 := ⟨_, rfl⟩
        have hsz42 : (W34).heap.size < W42.heap.size := by rw [← hW42]; simp
        have hs42 : w.heap.size + 3 ≤ W42.heap.size := by omega
        obtain ⟨G42, hG42⟩ : ∃ G42, (W34).heap.size = G42 := ⟨_, rfl⟩
        simp only [hW42, hG42] at *
        clear hW42
        clear hG42
        replace hs : w.heap.size + 3 ≤ W42.heap.size := by omega
        refine hK.out _ _ (⟨hx, hy⟩) (fun hHeld => ?_)
        clear hK K
        try simp only [List.getElem_toArray, List.getElem_cons_zero, List.getElem_cons_succ, Act.put, List.setIfInBounds_toArray, List.set_cons_zero, List.set_cons_succ]
        refine wpAnyH_ready (rs := [1]) (by decide +kernel) (by simp) ?_
        refine AllReadyH.cons rfl (fun K hK => ?_) AllReadyH.nil
        · go_simp
          (go_at_call 58; (with_reducible refine (hnx _).mono ?_); rintro e w43 ⟨rfl, hb43⟩)
          replace hx := hx.below hb43 hx.lt
          replace hy := hy.below hb43 hy.lt
          replace hz := hz.below hb43 hz.lt
          replace h5 := h5.below hb43 h5.lt
          replace h6 := h6.below hb43 h6.lt
          replace hb := hb.trans (hb43.mono (by omega))
          replace hs := Nat.le_trans hs hb43.size
          clear hb43
          refine hK.out _ _ (⟨hx, hy⟩) (fun hHeld => ?_)
          clear hK K
          try simp only [List.getElem_toArray, List.getElem_cons_zero, List.getElem_cons_succ, Act.put, List.setIfInBounds_toArray, List.set_cons_zero, List.set_cons_succ]
          refine wpAnyH_ready (rs := [3]) (by decide +kernel) (by simp) ?_
          refine AllReadyH.cons rfl (fun K hK => ?_) AllReadyH.nil
          · go_simp
            (go_at_call 58; (with_reducible refine (hny _).mono ?_); rintro e w44 ⟨rfl, hb44⟩)
            replace hx := hx.below hb44 hx.lt
            replace hy := hy.below hb44 hy.lt
            replace hz := hz.below hb44 hz.lt
            replace h5 := h5.below hb44 h5.lt
            replace h6 := h6.below hb44 h6.lt
            replace hb := hb.trans (hb44.mono (by omega))
            replace hs := Nat.le_trans hs hb44.size
            clear hb44
            refine hK.out _ _ (⟨hx, hy⟩) (fun hHeld => ?_)
            clear hK K
            try simp only [List.getElem_toArray, List.getElem_cons_zero, List.getElem_cons_succ, Act.put, List.setIfInBounds_toArray, List.set_cons_zero, List.set_cons_succ]
            refine wpAnyH_ready (rs := [6]) (by decide +kernel) (by simp) ?_
            refine AllReadyH.cons rfl (fun K hK => ?_) AllReadyH.nil
            rw [if_pos (by rfl)]
            refine wp_store_eq 134 (.tmp 5) (.tmp 9) rfl G42 0 #[.int .i64 (X 0), .int .i64 (X 1), .int .i64 (X 2), .int .i64 (X 3), .int .i64 (X 4), .int .i64 (X 5), .int .i64 (X 6), .int .i64 (X 7), .int .i64 (X 8), .int .i64 (X 9)] rfl rfl (h5.there 0 10 (by simp)) (by kernel_rfl) (all_oneCell_toArray (tl_one X)) ?_
            intro S45 hS45
            replace h5 : Blk S45 G42 134 [.int .i64 (X 0), .int .i64 (X 1), .int .i64 (X 2), .int .i64 (X 3), .int .i64 (X 4), .int .i64 (X 5), .int .i64 (X 6), .int .i64 (X 7), .int .i64 (X 8), .int .i64 (X 9)] := by rw [hS45]; exact h5.setAll rfl
            replace h6 : Blk S45 G34 134 [.int .i64 0, .int .i64 0, .int .i64 0, .int .i64 0, .int .i64 0, .int .i64 0, .int .i64 0, .int .i64 0, .int .i64 0, .int .i64 0] := by rw [hS45]; exact Blk.setCellsFar (by omega) _ _ _ h6
            replace hx : Blk S45 w.heap.size 49 [.int .i64 (X 0), .int .i64 (X 1), .int .i64 (X 2), .int .i64 (X 3), .int .i64 (X 4), .int .i64 (X 5), .int .i64 (X 6), .int .i64 (X 7), .int .i64 (X 8), .int .i64 (X 9)] := by rw [hS45]; exact Blk.setCellsFar (by omega) _ _ _ hx
            replace hy : Blk S45 (w.heap.size + 1) 49 [.int .i64 (Y 0), .int .i64 (Y 1), .int .i64 (Y 2), .int .i64 (Y 3), .int .i64 (Y 4), .int .i64 (Y 5), .int .i64 (Y 6), .int .i64 (Y 7), .int .i64 (Y 8), .int .i64 (Y 9)] := by rw [hS45]; exact Blk.setCellsFar (by omega) _ _ _ hy
            replace hz : Blk S45 (w.heap.size + 2) 49 [.int .i64 (noT 0), .int .i64 (noT 1), .int .i64 (noT 2), .int .i64 (noT 3), .int .i64 (noT 4), .int .i64 (noT 5), .int .i64 (noT 6), .int .i64 (noT 7), .int .i64 (noT 8), .int .i64 (noT 9)] := by rw [hS45]; exact Blk.setCellsFar (by omega) _ _ _ hz
            replace hb : Below w.heap.size w S45 := by rw [hS45]; exact below_setCells hb (by omega) _ _
            clear hS45
            refine hK.out _ _ (⟨hx, hy⟩) (fun hHeld => ?_)
            clear hK K
            try simp only [List.getElem_toArray, List.getElem_cons_zero, List.getElem_cons_succ, Act.put, List.setIfInBounds_toArray, List.set_cons_zero, List.set_cons_succ]
            refine wpAnyH_ready (rs := [7]) (by decide +kernel) (by simp) ?_
            refine AllReadyH.cons rfl (fun K hK => ?_) AllReadyH.nil
            rw [if_pos (by rfl)]
            refine wp_store_eq 134 (.tmp 6) (.tmp 11) rfl G34 0 #[.int .i64 (Y 0), .int .i64 (Y 1), .int .i64 (Y 2), .int .i64 (Y 3), .int .i64 (Y 4), .int .i64 (Y 5), .int .i64 (Y 6), .int .i64 (Y 7), .int .i64 (Y 8), .int .i64 (Y 9)] rfl rfl (h6.there 0 10 (by simp)) (by kernel_rfl) (all_oneCell_toArray (tl_one Y)) ?_
            intro V45 hV45
            replace h6 : Blk V45 G34 134 [.int .i64 (Y 0), .int .i64 (Y 1), .int .i64 (Y 2), .int .i64 (Y 3), .int .i64 (Y 4), .int .i64 (Y 5), .int .i64 (Y 6), .int .i64 (Y 7), .int .i64 (Y 8), .int .i64 (Y 9)] := by rw [hV45]; exact h6.setAll rfl
            replace h5 : Blk V45 G42 134 [.int .i64 (X 0), .int .i64 (X 1), .int .i64 (X 2), .int .i64 (X 3), .int .i64 (X 4), .int .i64 (X 5), .int .i64 (X 6), .int .i64 (X 7), .int .i64 (X 8), .int .i64 (X 9)] := by rw [hV45]; exact Blk.setCellsFar (by omega) _ _ _ h5
            replace hx : Blk V45 w.heap.size 49 [.int .i64 (X 0), .int .i64 (X 1), .int .i64 (X 2), .int .i64 (X 3), .int .i64 (X 4), .int .i64 (X 5), .int .i64 (X 6), .int .i64 (X 7), .int .i64 (X 8), .int .i64 (X 9)] := by rw [hV45]; exact Blk.setCellsFar (by omega) _ _ _ hx
            replace hy : Blk V45 (w.heap.size + 1) 49 [.int .i64 (Y 0), .int .i64 (Y 1), .int .i64 (Y 2), .int .i64 (Y 3), .int .i64 (Y 4), .int .i64 (Y 5), .int .i64 (Y 6), .int .i64 (Y 7), .int .i64 (Y 8), .int .i64 (Y 9)] := by rw [hV45]; exact Blk.setCellsFar (by omega) _ _ _ hy
            replace hz : Blk V45 (w.heap.size + 2) 49 [.int .i64 (noT 0), .int .i64 (noT 1), .int .i64 (noT 2), .int .i64 (noT 3), .int .i64 (noT 4), .int .i64 (noT 5), .int .i64 (noT 6), .int .i64 (noT 7), .int .i64 (noT 8), .int .i64 (noT 9)] := by rw [hV45]; exact Blk.setCellsFar (by omega) _ _ _ hz
            replace hb : Below w.heap.size w V45 := by rw [hV45]; exact below_setCells hb (by omega) _ _
            clear hV45
            refine hK.out _ _ (⟨hx, hy⟩) (fun hHeld => ?_)
            clear hK K
            try simp only [List.getElem_toArray, List.getElem_cons_zero, List.getElem_cons_succ, Act.put, List.setIfInBounds_toArray, List.set_cons_zero, List.set_cons_succ]
            refine wpAnyH_done (by decide +kernel) ?_ _
            go_wp2
            go_meet
            exact ⟨G42, G34, rfl, rfl, by omega, h5, h6, by omega, by omega, hz, hb⟩
--ENDGEN
  case rest =>
    obtain ⟨g5, g6, rfl, rfl, hne, h5, h6, s5, s6, hz, hb⟩ := hcut
    have H5 := Lib.hid h5
    have H6 := Lib.hid h6
    have HZ := Lib.hid hz
    have HB := Lib.hid hb
    clear h5 h6 hz hb hnx hny
    go_wp2_with fail
    go_loopw [7, 12] (fun _ i wr => ∃ k : Nat, k ≤ 10 ∧ i = .int .i64 (k : Nat) ∧ Blk wr g5 134 [.int .i64 ((mixT X Y k) 0), .int .i64 ((mixT X Y k) 1), .int .i64 ((mixT X Y k) 2), .int .i64 ((mixT X Y k) 3), .int .i64 ((mixT X Y k) 4), .int .i64 ((mixT X Y k) 5), .int .i64 ((mixT X Y k) 6), .int .i64 ((mixT X Y k) 7), .int .i64 ((mixT X Y k) 8), .int .i64 ((mixT X Y k) 9)] ∧ Blk wr g6 134 [.int .i64 (Y 0), .int .i64 (Y 1), .int .i64 (Y 2), .int .i64 (Y 3), .int .i64 (Y 4), .int .i64 (Y 5), .int .i64 (Y 6), .int .i64 (Y 7), .int .i64 (Y 8), .int .i64 (Y 9)] ∧ Blk wr (w.heap.size + 2) 49 [.int .i64 (noT 0), .int .i64 (noT 1), .int .i64 (noT 2), .int .i64 (noT 3), .int .i64 (noT 4), .int .i64 (noT 5), .int .i64 (noT 6), .int .i64 (noT 7), .int .i64 (noT 8), .int .i64 (noT 9)] ∧ Below w.heap.size w wr) (fun _ i _ => 10 - (intOf i).toNat)
    case atStart => exact ⟨0, by omega, rfl, by rw [show mixT X Y 0 = X from funext fun j => by unfold mixT; rw [if_neg (by omega)]]; exact H5.out, H6.out, HZ.out, HB.out⟩
    case round =>
      obtain ⟨k, hk, rfl, h5, h6, hz, hb⟩ := hrel
      clear H5 H6 HZ HB
      have H5 := Lib.hid h5
      have H6 := Lib.hid h6
      have HZ := Lib.hid hz
      have HB := Lib.hid hb
      clear h5 h6 hz hb
      by_cases hlt : k < 10
      · have hkI : (k : Int) < 10 := by omega
        have x5 : wr.cell? ⟨g5, k, none⟩ = some (.int .i64 (X k)) := by
          rw [H5.out.cell10 hlt]
          unfold mixT
          rw [if_neg (by omega)]
        have x6 : wr.cell? ⟨g6, k, none⟩ = some (.int .i64 (Y k)) := H6.out.cell10 hlt
        have f5 := H5.out.frozen k
        have l5 := H5.out.lt
        by_cases h7 : k = 7
        · subst h7
          have hmx := hmax
          have HS := Lib.hid (H5.out.set10 (T' := mixT X Y 8) (k := 7) (by omega) (show mixT X Y 8 7 = bothT X Y 7 from by unfold mixT; rw [if_pos (by omega)]) (fun j h1 h2 => by unfold mixT; by_cases q : j < 7; rw [if_pos (by omega), if_pos q]; rw [if_neg (by omega), if_neg q]))
          generalize bothT X Y 7 = B7 at *
          go_upto_region 6 with fail
          go_region_with (first | (rw [hmx]) | fail "no arm")
          all_goals
            go_wp2
            go_roundw
            case rel =>
              refine ⟨8, by omega, by go_num, ?_, ?_, ?_, ?_⟩
              · exact HS.out.drew
              · exact (H6.out.far (p := ⟨g5, 7, none⟩) (by show g6 ≠ g5; omega) _).drew
              · exact (HZ.out.far (p := ⟨g5, 7, none⟩) (by show w.heap.size + 2 ≠ g5; omega) _).drew
              · exact (HB.out.setCell (p := ⟨g5, 7, none⟩) (by show w.heap.size ≤ g5; omega) _).drew --.out.far (p := ⟨g5, 7, none⟩) (by omega) _).drew, (HZ.out.far (p := ⟨g5, 7, none⟩) (by show w.heap.size + 2 ≠ g5; omega) _).drew, (HB.out.setCell (p := ⟨g5, 7, none⟩) (by show w.heap.size ≤ g5; omega) _).drew›
            case measure => simp [intOf]
        · have hb7 : ((k : Int) == 7) = false := by rw [beq_eq_false_iff_ne]; omega
          obtain ⟨V, hV⟩ : ∃ V, IntKind.i64.wrap (X k + Y k) = V := ⟨_, rfl⟩
          have hsum : Hid (V = bothT X Y k) := by show _ = _; rw [← hV]; unfold bothT; rw [if_neg h7, IntKind.wrap_i64]; unfold wrap64; omega
          have HS := Lib.hid (H5.out.set10 (T' := mixT X Y (k + 1)) (k := k) hlt (show mixT X Y (k + 1) k = V from by rw [hsum.out]; unfold mixT; rw [if_pos (by omega)]) (fun j h1 h2 => by unfold mixT; by_cases q : j < k; rw [if_pos (by omega), if_pos q]; rw [if_neg (by omega), if_neg q]))
          go_upto_region 7 with fail
          go_region
          all_goals
            go_wp2
            go_roundw
            case rel => first
              | exact ⟨k + 1, by omega, by go_num, HS.out.drew, (H6.out.far (p := ⟨g5, k, none⟩) (by show g6 ≠ g5; omega) _).drew, (HZ.out.far (p := ⟨g5, k, none⟩) (by show w.heap.size + 2 ≠ g5; omega) _).drew, (HB.out.setCell (p := ⟨g5, k, none⟩) (by show w.heap.size ≤ g5; omega) _).drew⟩
              | ((repeat apply Exists.intro); exact ⟨⟨k + 1, by omega, by go_num, HS.out.drew, (H6.out.far (p := ⟨g5, k, none⟩) (by show g6 ≠ g5; omega) _).drew, (HZ.out.far (p := ⟨g5, k, none⟩) (by show w.heap.size + 2 ≠ g5; omega) _).drew, (HB.out.setCell (p := ⟨g5, k, none⟩) (by show w.heap.size ≤ g5; omega) _).drew⟩, rfl⟩)
            case measure => simp [intOf]; omega
      · have h10 : k = 10 := by omega
        subst h10
        have hL : ([.int .i64 ((mixT X Y 10) 0), .int .i64 ((mixT X Y 10) 1), .int .i64 ((mixT X Y 10) 2), .int .i64 ((mixT X Y 10) 3), .int .i64 ((mixT X Y 10) 4), .int .i64 ((mixT X Y 10) 5), .int .i64 ((mixT X Y 10) 6), .int .i64 ((mixT X Y 10) 7), .int .i64 ((mixT X Y 10) 8), .int .i64 ((mixT X Y 10) 9)] : List Value) = [.int .i64 ((bothT X Y) 0), .int .i64 ((bothT X Y) 1), .int .i64 ((bothT X Y) 2), .int .i64 ((bothT X Y) 3), .int .i64 ((bothT X Y) 4), .int .i64 ((bothT X Y) 5), .int .i64 ((bothT X Y) 6), .int .i64 ((bothT X Y) 7), .int .i64 ((bothT X Y) 8), .int .i64 ((bothT X Y) 9)] := by simp [mixT]
        have H5' := H5.out
        rw [hL] at H5'
        have HL5 := Lib.hid H5'
        obtain ⟨R, hR⟩ : ∃ R, R = bothT X Y := ⟨_, rfl⟩
        rw [← hR] at hta H5'
        have HR := Lib.hid hR
        clear hR HL5
        obtain ⟨x0, x1, x2, x3, x4, x5, x6, x7, x8, x9⟩ := blk10 H5'
        clear H5' H5 hL hmax hlt
        go_wp2_with (first
          | ((go_at_call 59; (with_reducible refine (hta _).mono ?_); rintro e w9 ⟨rfl, hb9⟩); have hz9 := HZ.out.below hb9 HZ.out.lt; have fz9 : ∀ j, w9.frozen? ⟨w.heap.size + 1 + 1, j, none⟩ = false := hz9.frozen; have fl9 : w.heap.size + 1 + 1 < w9.heap.size := hz9.lt; have cz9 : ∀ j, j < 10 → w9.cell? ⟨w.heap.size + 1 + 1, j, none⟩ = some (.int .i64 0) := (fun j hj => hz9.cell10 hj); have hz9' : Blk w9 (w.heap.size + 1 + 1) 49 [.int .i64 (noT 0), .int .i64 (noT 1), .int .i64 (noT 2), .int .i64 (noT 3), .int .i64 (noT 4), .int .i64 (noT 5), .int .i64 (noT 6), .int .i64 (noT 7), .int .i64 (noT 8), .int .i64 (noT 9)] := hz9; obtain ⟨z0, z1, z2, z3, z4, z5, z6, z7, z8, z9⟩ := blk10 hz9'; have hB9 := HB.out.trans (hb9.mono HB.out.size); clear hz9 hz9' hb9)
          | fail "no arm")
        refine bodyPost_ret (v := .agg #[.int .i64 (R 0), .int .i64 (R 1), .int .i64 (R 2), .int .i64 (R 3), .int .i64 (R 4), .int .i64 (R 5), .int .i64 (R 6), .int .i64 (R 7), .int .i64 (R 8), .int .i64 (R 9)]) (by simp [results, Try.results19, go_sem , z0, z1, z2, z3, z4, z5, z6, z7, z8, z9]) rfl ?_
        exact ⟨by rw [HR.out], (by (repeat' (first | (with_reducible exact Below.refl _ _) | (with_reducible assumption) | (with_reducible refine Below.drew ?_) | (with_reducible refine below_drewN ?_ _) | (with_reducible refine Below.alloc ?_ ?_ _) | (with_reducible refine Below.setCell ?_ ?_ _) | omega | (simp; done) | (simp; omega))))⟩
end Go.Proofs.Ytalmdccgpigppaa
