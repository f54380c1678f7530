/- Arguments opened from within: what a field reads as. -/
import Derived.Test.YtninidpbchcliaaFrameB
import Derived.Lib.SmallJoins
namespace Go.Proofs.Ytninidpbchcliaa
open Go.RowKit Go.WideShapes Go.ChangeShapes Go.Deep Go.Joins

section
variable {H : Type} {enc : TypeId × Value → H} {P : Program} {w : World} {base b0 : Nat} {held : Bool} {r : Reach} {v : Value} {d : DataW H} {ps : List MemPlace}
theorem slice_of_trod {t e : TypeId} {spare : Nat → Bool} {fuel : Nat} {y : DataW H × List MemPlace} (ht : P.underlying t = some (.slice e)) (hf : DataW.trod enc P w base spare held fuel t [v] = some y) : ∃ a len cap, v = .slice a len cap := by
  rcases DataW.trod_slice ht hf with ⟨h, _⟩ | ⟨a, len, cap, _, _, _, _, h, _⟩
  · exact ⟨none, 0, 0, by simpa using h⟩
  · exact ⟨some a, len, cap, by simpa using h⟩
theorem trod_ints_of {t e : TypeId} {k : IntKind} (ht : P.underlying t = some (.slice e)) (he : P.underlying e = some (.int k)) (hc : P.cellsOf e = 1) 
    {fuel : Nat} {y : DataW H × List MemPlace} (hf : DataW.trod enc P w base (fun _ => true) held fuel t [v] = some y) :
    ∃ A n c, ∃ zs : List Int, v = .slice A n c ∧ zs.length = n ∧ Row w A n (fun i => .int k (zs.getD i 0)) ∧ n ≤ c ∧ c ≤ maxLen ∧ (∀ z ∈ zs, (Lit.int k z).wf = true) := by
  obtain ⟨a0, len, cap, rfl⟩ := slice_of_trod ht hf
  rcases open_ints ht he hc hf with ⟨hcs, _⟩ | ⟨x, l, c, zs, hcs, _, hl, hm, hz, _, hcell, hwz⟩
  · simp at hcs
    obtain ⟨rfl, rfl, rfl⟩ := hcs
    exact ⟨none, 0, 0, [], rfl, rfl, Row.nil _ _ _, Nat.le_refl _, by unfold maxLen; omega, by simp⟩
  · simp at hcs
    obtain ⟨rfl, rfl, rfl⟩ := hcs
    simp only [if_true] at hz
    refine ⟨some x, len, cap, zs.take len, rfl, by simp; omega, (row_of_ints (by omega) hcell).congr fun i hi => ?_, hl, hm, fun z hzm => hwz z (List.mem_of_mem_take hzm)⟩
    simp [List.getD_eq_getElem?_getD, hi]

theorem trod_bytes {t e : TypeId} (ht : P.underlying t = some (.slice e)) (he : P.underlying e = some (.int .u8)) (hc : P.cellsOf e = 1) 
    {fuel : Nat} {y : DataW H × List MemPlace} (hf : DataW.trod enc P w base (fun _ => true) held fuel t [v] = some y) :
    ∃ A n c l, v = .slice A n c ∧ RB w A n l ∧ n ≤ c ∧ c ≤ maxLen := by
  obtain ⟨A, n, c, zs, rfl, hlen, hrow, hnc, hm, hwf⟩ := trod_ints_of ht he hc hf
  refine ⟨A, n, c, zs.map fun z => UInt8.ofNat z.toNat, rfl, ⟨by simpa using hlen, hrow.congr fun i hi => ?_⟩, hnc, hm⟩
  have hi' : i < zs.length := by omega
  have hb := bounds_u8 (hwf _ (List.getElem_mem hi'))
  simp only [byteAt, List.getD_eq_getElem?_getD, List.getElem?_map, List.getElem?_eq_getElem hi', Option.map_some, Option.getD_some]
  congr 1
  rw [UInt8.toNat_ofNat_of_lt' (by simp [UInt8.size]; omega)]
  omega

theorem trod_ints {t e : TypeId} (ht : P.underlying t = some (.slice e)) (he : P.underlying e = some (.int .i64)) (hc : P.cellsOf e = 1) 
    {fuel : Nat} {y : DataW H × List MemPlace} (hf : DataW.trod enc P w base (fun _ => true) held fuel t [v] = some y) :
    ∃ A n c l, v = .slice A n c ∧ RI w A n l ∧ n ≤ c ∧ c ≤ maxLen ∧ (∀ z ∈ l, -9223372036854775808 ≤ z ∧ z ≤ 9223372036854775807) := by
  obtain ⟨A, n, c, zs, rfl, hlen, hrow, hnc, hm, hwf⟩ := trod_ints_of ht he hc hf
  exact ⟨A, n, c, zs, rfl, ⟨hlen, hrow⟩, hnc, hm, fun z hz => bounds_i64 (hwf z hz)⟩
theorem trod_structs {t e : TypeId} {fs : Array Field} {k : Nat} (ht : P.underlying t = some (.slice e)) (he : P.underlying e = some (.struct fs)) (hone : oneCellFields P fs = true) (hC : P.cellsOf e = fs.size) (hk : fs.size = k)
    (hint : ∀ (j : Nat) (f : Field), fs[j]? = some f → P.underlying f.type = some (.int .i64)) {fuel : Nat} {y : DataW H × List MemPlace} (hf : DataW.trod enc P w base (fun _ => true) held fuel t [v] = some y) :
    ∃ A n c, ∃ zs : List Int, v = .slice A n c ∧ zs.length = n * k ∧ Row w A (n * k) (fun i => .int .i64 (zs.getD i 0)) ∧ n ≤ c ∧ c ≤ maxLen ∧ (∀ z ∈ zs, -9223372036854775808 ≤ z ∧ z ≤ 9223372036854775807) := by
  obtain ⟨a0, len, cap, rfl⟩ := slice_of_trod ht hf
  subst hk
  rcases open_slice ht hf with ⟨hcs, _⟩ | ⟨x, l, c, m, nf, D, Pl, hcs, _, hl, hm, hmm, _, hat⟩
  · simp at hcs
    obtain ⟨rfl, rfl, rfl⟩ := hcs
    exact ⟨none, 0, 0, [], rfl, by simp, by rw [Nat.zero_mul]; exact Row.nil _ _ _, Nat.le_refl _, by unfold maxLen; omega, by simp⟩
  · simp at hcs
    obtain ⟨rfl, rfl, rfl⟩ := hcs
    simp only [if_true] at hmm
    have hcell : ∀ q, q < len * fs.size → ∃ z, w.cell? (x.add q) = some (.int .i64 z) ∧ -9223372036854775808 ≤ z ∧ z ≤ 9223372036854775807 := by
      intro q hq
      have hp : 0 < fs.size := by
        rcases Nat.eq_zero_or_pos fs.size with h | h
        · rw [h, Nat.mul_zero] at hq; omega
        · exact h
      have hi : q / fs.size < len := Nat.div_lt_of_lt_mul (by rw [Nat.mul_comm]; exact hq)
      have hj : q % fs.size < fs.size := Nat.mod_lt _ hp
      obtain ⟨cells, hcells, htr⟩ := hat (q / fs.size) (by omega)
      rw [hC] at hcells
      obtain ⟨_, _, _, _, hlen, hys, hff⟩ := DataW.trod_struct he htr
      obtain ⟨_, _, hread⟩ := World.cells?_some hcells
      have hlt : q % fs.size < cells.length := by rw [hlen, hC]; exact hj
      have hc := hread (q % fs.size) hj
      rw [List.getElem?_eq_getElem hlt] at hc
      have hfj : fs[q % fs.size]? = some fs[q % fs.size] := by simp [hj]
      obtain ⟨o1, k1⟩ := hone_of hone (q % fs.size) _ hfj
      have h1 := hff (q % fs.size) _ hfj
      rw [o1, k1, List.drop_eq_getElem_cons hlt, List.take_succ_cons, List.take_zero] at h1
      obtain ⟨z, hz, _, hw⟩ := DataW.trod_int (hint (q % fs.size) _ hfj) (h1.trans (List.getElem?_eq_getElem (by omega)))
      have e : q / fs.size * fs.size + q % fs.size = q := by rw [Nat.mul_comm]; exact Nat.div_add_mod q fs.size
      rw [Go.Deep.add_add, e] at hc
      simp only [List.cons.injEq, and_true] at hz
      rw [hz] at hc
      exact ⟨z, hc, bounds_i64 hw⟩
    have hget : ∀ q, q < len * fs.size → ∃ z, w.cell? (x.add q) = some (.int .i64 z) ∧ (zsOf w x (len * fs.size)).getD q 0 = z := by
      intro q hq
      obtain ⟨z, hz, _⟩ := hcell q hq
      refine ⟨z, hz, ?_⟩
      simp [zsOf, List.getD_eq_getElem?_getD, hq, hz]
    refine ⟨some x, len, cap, zsOf w x (len * fs.size), rfl, by simp [zsOf], fun h0 => ?_, hl, hm, fun z hz => ?_⟩
    · obtain ⟨z0, h00, _⟩ := hcell 0 h0
      have hs : x.spot = none := spot_none (a := x) (by simpa [Addr.add] using h00)
      obtain ⟨b, o, s⟩ := x
      simp only at hs
      subst hs
      refine ⟨b, o, rfl, World.block_lt_of_cell? w ⟨b, o, none⟩ (by simpa [Addr.add] using h00), fun i hi => ?_⟩
      obtain ⟨z, hz, hg⟩ := hget i hi
      have hadd : (⟨b, o, none⟩ : Addr).add i = ⟨b, o + i, none⟩ := by unfold Addr.add; split <;> simp_all
      rw [hadd] at hz
      rw [hz]
      exact congrArg (fun z => some (Value.int .i64 z)) hg.symm
    · obtain ⟨q, hq, rfl⟩ := List.mem_map.1 hz
      obtain ⟨z, hz', hb⟩ := hcell q (List.mem_range.1 hq)
      rw [hz']
      exact hb
/-- A struct of any number of one-cell fields, by value: each field's cell with its reading. -/
theorem open_agg {t : TypeId} {fs : Array Field} {spare : Nat → Bool} (hs : P.underlying t = some (.struct fs)) (hone : oneCellFields P fs = true) (hC : P.cellsOf t = fs.size)
    (hv : Value.okWide P w r b0 t v) (h : DataW.Trod enc P w base spare held t v d ps) :
    ∃ (vs : List Value) (n : Nat), v = .agg vs.toArray ∧ vs.length = fs.size ∧ ∀ (j : Nat) (f : Field), fs[j]? = some f → ∃ u y, vs[j]? = some u ∧ DataW.trod enc P w base spare held n f.type [u] = some y := by
  obtain ⟨cs, rfl, hsz⟩ := okWide_struct hs hv
  obtain ⟨fuel, hf⟩ := h
  obtain ⟨xs, n, _, hx, _, hlen, hg⟩ := DataW.trod_struct hs hf
  refine ⟨cs.toList, n, rfl, by rw [Array.length_toList, hsz, hC], fun j f hj => ?_⟩
  obtain ⟨ho, hk⟩ := hone_of hone j f hj
  have hjl : j < fs.size := (Array.getElem?_eq_some_iff.1 hj).1
  have hcl : j < cs.toList.length := by rw [Array.length_toList, hsz, hC]; exact hjl
  have h1 := hg j f hj
  rw [ho, hk] at h1
  have h2 : ((Value.agg cs).cells.toList.drop j).take 1 = [cs.toList[j]] := by
    show (cs.toList.drop j).take 1 = _
    rw [List.drop_eq_getElem_cons hcl]; rfl
  rw [h2] at h1
  exact ⟨cs.toList[j], xs[j]'(by omega), List.getElem?_eq_getElem hcl, h1.trans (List.getElem?_eq_getElem (by omega))⟩
end
end Go.Proofs.Ytninidpbchcliaa
