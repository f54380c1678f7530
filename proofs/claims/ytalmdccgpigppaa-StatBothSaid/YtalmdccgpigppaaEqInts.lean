/- '==' of structs of numbers. -/
import Derived.Test.YtalmdccgpigppaaInts
import Derived.Test.YtalmdccgpigppaaMem
namespace Go.Proofs.Ytalmdccgpigppaa
open Go.RowKit

theorem eqFields_ints {P : Program} (w : World) {it : TypeId} (hit : P.underlying it = some (.int .i64)) (hk : P.plainKey it = true) (d : Nat) (xs ys : List Int) : ∀ fs : List Field,
    (∀ f ∈ fs, f.type = it ∧ f.name ≠ "_" ∧ f.offset < xs.length ∧ f.offset < ys.length) →
    (Op.eqFields (d + 1) (xs.map iv).toArray (ys.map iv).toArray fs).run P w = .ok (fs.all fun f => xs.getD f.offset 0 == ys.getD f.offset 0) w := by
  intro fs
  induction fs with
  | nil => intro _; simp [Op.eqFields]
  | cons f fs ih =>
    intro h
    obtain ⟨h1, h2, h3, h4⟩ := h f (by simp)
    have e1 : (xs.map iv).toArray[f.offset]? = some (iv (xs.getD f.offset 0)) := by simp [List.getD_eq_getElem?_getD, h3]
    have e2 : (ys.map iv).toArray[f.offset]? = some (iv (ys.getD f.offset 0)) := by simp [List.getD_eq_getElem?_getD, h4]
    have h5 : (Op.equalIn (d + 1) f.type (iv (xs.getD f.offset 0)) (iv (ys.getD f.offset 0))).run P w = .ok (xs.getD f.offset 0 == ys.getD f.offset 0) w := by
      rw [h1]; exact run_equalIn_int w d it .i64 .i64 _ _ hit
    simp only [Op.eqFields, h2, ne_eq, not_false_eq_true, if_true, Sem.run_bind, run_part_plain w (h1 ▸ hk) e1, run_part_plain w (h1 ▸ hk) e2, Result.andThen_ok, h5, List.all_cons]
    cases hb : (xs.getD f.offset 0 == ys.getD f.offset 0) with
    | false => simp
    | true =>
      simp only [Bool.not_true, Bool.false_eq_true, if_false, Bool.true_and]
      exact ih fun g hg => h g (by simp [hg])
/-- '==' of two structs of numbers. -/
theorem run_eq_ints {P : Program} (w : World) {t it : TypeId} (hit : P.underlying it = some (.int .i64)) (hk : P.plainKey it = true) {fs : Array Field} (ht : P.underlying t = some (.struct fs)) (hp : P.stoodInHeld t = false) (n : Nat)
    (hfs : (fs.toList.all fun f => f.type == it && (f.name != "_" && decide (f.offset < n))) = true) (hoff : fs.toList.map (·.offset) = List.range n) (xs ys : List Int) (hx : xs.length = n) (hy : ys.length = n) :
    (Op.equalIn 10000 t (.agg (xs.map iv).toArray) (.agg (ys.map iv).toArray)).run P w = .ok (decide (xs = ys)) w := by
  have hfo : P.fieldsOf t = fs := by unfold Program.fieldsOf; rw [ht]
  rw [show 10000 = 9999 + 1 from rfl, run_equalIn_struct w 9999 _ _ _ (by rw [hfo]; exact ht) hp, hfo, show 9999 = 9998 + 1 from rfl,
    eqFields_ints w hit hk 9998 xs ys fs.toList (fun f hf => by
      have := List.all_eq_true.1 hfs f hf
      simp only [Bool.and_eq_true, beq_iff_eq, bne_iff_ne, decide_eq_true_eq] at this
      exact ⟨this.1, this.2.1, by omega, by omega⟩)]
  congr 1
  have : (fs.toList.all fun f => xs.getD f.offset 0 == ys.getD f.offset 0) = ((fs.toList.map (·.offset)).all fun o => xs.getD o 0 == ys.getD o 0) := by rw [List.all_map]; rfl
  rw [this, hoff, Bool.eq_iff_iff, decide_eq_true_eq, List.all_eq_true]
  constructor
  · intro h
    apply List.ext_getElem (by omega)
    intro i h1 h2
    have := h i (List.mem_range.2 (by omega))
    simpa [List.getD_eq_getElem?_getD, h1, h2] using this
  · rintro rfl i _; simp
end Go.Proofs.Ytalmdccgpigppaa
