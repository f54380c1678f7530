/- Arguments that are slices of structs of numbers. -/
import Derived.Test.YtninidpbchcliaaFrame
import Derived.Deep.Slices
import Derived.Deep.Fields
import Derived.ChangeSame
namespace Go.Proofs.Ytninidpbchcliaa
open Go.RowKit Go.WideShapes Go.ChangeShapes Go.Deep

section
variable {H : Type} {enc : TypeId × Value → H} {P : Program} {w : World} {base b0 : Nat} {held : Bool} {r : Reach} {v : Value} {d : DataW H} {ps : List MemPlace}
def zsOf (w : World) (a : Addr) (n : Nat) : List Int := (List.range n).map fun q => match w.cell? (a.add q) with | some (.int _ z) => z | _ => 0
theorem args_structs {t e : TypeId} {fs : Array Field} {k : Nat} (ht : P.underlying t = some (.slice e)) (he : P.underlying e = some (.struct fs)) (hone : oneCellFields P fs = true) (hC : P.cellsOf e = fs.size) (hk : fs.size = k)
    (hint : ∀ (j : Nat) (f : Field), fs[j]? = some f → P.underlying f.type = some (.int .i64)) (hval : Value.okWide P w r b0 t v) (hd : DataW.Trod enc P w base (fun _ => true) held t v d ps) :
    ∃ A n c, ∃ zs : List Int, v = .slice A n c ∧ zs.length = n * k ∧ Row w A (n * k) (fun i => .int .i64 (zs.getD i 0)) ∧ n ≤ c ∧ c ≤ maxLen ∧ (∀ z ∈ zs, -9223372036854775808 ≤ z ∧ z ≤ 9223372036854775807) := by
  obtain ⟨a0, len, cap, rfl⟩ := okWide_slice ht hval
  obtain ⟨fuel, hf⟩ := hd
  subst hk
  rcases open_slice ht hf with ⟨hcs, _⟩ | ⟨x, l, c, m, nf, D, Pl, hcs, _, hl, hm, hmm, _, hat⟩
  · simp [Value.cells] at hcs
    obtain ⟨rfl, rfl, rfl⟩ := hcs
    exact ⟨none, 0, 0, [], rfl, by simp, by rw [Nat.zero_mul]; exact Row.nil _ _ _, Nat.le_refl _, by unfold maxLen; omega, by simp⟩
  · simp [Value.cells] at hcs
    obtain ⟨rfl, rfl, rfl⟩ := hcs
    simp only [if_true] at hmm
    have hcell : ∀ q, q < len * fs.size → ∃ z, w.cell? (x.add q) = some (.int .i64 z) ∧ -9223372036854775808 ≤ z ∧ z ≤ 9223372036854775807 := by
      intro q hq
      have hp : 0 < fs.size := by
        rcases Nat.eq_zero_or_pos fs.size with h | h
        · rw [h, Nat.mul_zero] at hq; omega
        · exact h
      have hi : q / fs.size < len := Nat.div_lt_of_lt_mul (by rw [Nat.mul_comm]; exact hq)
      have hj : q % fs.size < fs.size := Nat.mod_lt _ hp
      obtain ⟨cells, hcells, htr⟩ := hat (q / fs.size) (by omega)
      rw [hC] at hcells
      obtain ⟨_, _, _, _, hlen, hys, hff⟩ := DataW.trod_struct he htr
      obtain ⟨_, _, hread⟩ := World.cells?_some hcells
      have hlt : q % fs.size < cells.length := by rw [hlen, hC]; exact hj
      have hc := hread (q % fs.size) hj
      rw [List.getElem?_eq_getElem hlt] at hc
      have hfj : fs[q % fs.size]? = some fs[q % fs.size] := by simp [hj]
      obtain ⟨o1, k1⟩ := hone_of hone (q % fs.size) _ hfj
      have h1 := hff (q % fs.size) _ hfj
      rw [o1, k1, List.drop_eq_getElem_cons hlt, List.take_succ_cons, List.take_zero] at h1
      obtain ⟨z, hz, _, hw⟩ := DataW.trod_int (hint (q % fs.size) _ hfj) (h1.trans (List.getElem?_eq_getElem (by omega)))
      have e : q / fs.size * fs.size + q % fs.size = q := by rw [Nat.mul_comm]; exact Nat.div_add_mod q fs.size
      rw [Go.Deep.add_add, e] at hc
      simp only [List.cons.injEq, and_true] at hz
      rw [hz] at hc
      exact ⟨z, hc, bounds_i64 hw⟩
    have hget : ∀ q, q < len * fs.size → ∃ z, w.cell? (x.add q) = some (.int .i64 z) ∧ (zsOf w x (len * fs.size)).getD q 0 = z := by
      intro q hq
      obtain ⟨z, hz, _⟩ := hcell q hq
      refine ⟨z, hz, ?_⟩
      simp [zsOf, List.getD_eq_getElem?_getD, hq, hz]
    refine ⟨some x, len, cap, zsOf w x (len * fs.size), rfl, by simp [zsOf], fun h0 => ?_, hl, hm, fun z hz => ?_⟩
    · obtain ⟨z0, h00, _⟩ := hcell 0 h0
      have hs : x.spot = none := spot_none (a := x) (by simpa [Addr.add] using h00)
      obtain ⟨b, o, s⟩ := x
      simp only at hs
      subst hs
      refine ⟨b, o, rfl, World.block_lt_of_cell? w ⟨b, o, none⟩ (by simpa [Addr.add] using h00), fun i hi => ?_⟩
      obtain ⟨z, hz, hg⟩ := hget i hi
      have hadd : (⟨b, o, none⟩ : Addr).add i = ⟨b, o + i, none⟩ := by unfold Addr.add; split <;> simp_all
      rw [hadd] at hz
      rw [hz]
      exact congrArg (fun z => some (Value.int .i64 z)) hg.symm
    · obtain ⟨q, hq, rfl⟩ := List.mem_map.1 hz
      obtain ⟨z, hz', hb⟩ := hcell q (List.mem_range.1 hq)
      rw [hz']
      exact hb
end
end Go.Proofs.Ytninidpbchcliaa
