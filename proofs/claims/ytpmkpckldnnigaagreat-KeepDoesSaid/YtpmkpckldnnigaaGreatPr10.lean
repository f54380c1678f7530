/- Parts: Frame. -/
import Derived.Test.YtpmkpckldnnigaaGreatPr02
import Derived.Test.YtpmkpckldnnigaaGreatPr01
import Derived.Test.YtpmkpckldnnigaaGreatRows
import Derived.ProofKit
import Derived.OpenShut
import Derived.Lib.SmallJoins
import Derived.Deep.Slices
import Derived.Deep.Fields
import Derived.ChangeSame
set_option linter.unusedVariables false
set_option linter.unusedSimpArgs false
set_option maxRecDepth 100000
set_option maxHeartbeats 40000000
namespace Go.Proofs.YtpmkpckldnnigaaGreat
open Go.RowKit Go.WideShapes Go.ChangeShapes
theorem qx7 {w : World} {a : Addr} {v : Value} (h : w.cell? a = some v) : a.spot = none := by
  unfold World.cell? at h
  split at h
  · split at h
    · cases h
    · rename_i hs; simpa using hs
  · cases h
section
variable {H : Type} {enc : TypeId × Value → H} {P : Program} {w : World} {base b0 : Nat} {spare : Nat → Bool} {held : Bool} {r : Reach} {v : Value} {d : DataW H} {ps : List MemPlace}
theorem vd3 {k : IntKind} {x : Addr} {len : Nat} {zs : List Int} (hz : len ≤ zs.length) (hcell : ∀ i, i < zs.length → w.cell? (x.add i) = some (.int k (zs.getD i 0))) :
    Row w (some x) len (fun i => .int k (zs.getD i 0)) := by
  intro h0; have h := hcell 0 omg; have hs : x.spot = none := qx7 (a := x) (by simpa [Addr.add] using h); obtain ⟨b, o, s⟩ := x; simp only at hs; subst hs; refine ⟨b, o, rfl, ?_, fun i hi => ?_⟩
  · exact World.block_lt_of_cell? w ⟨b, o, none⟩ (by simpa [Addr.add] using h)
  · have := hcell i omg; have hadd : (⟨b, o, none⟩ : Addr).add i = ⟨b, o + i, none⟩ := by unfold Addr.add; split <;> simp_all
    rwa [hadd] at this
theorem args_ints_of {t e : TypeId} {k : IntKind} (ht : P.underlying t = some (.slice e)) (he : P.underlying e = some (.int k)) (hc : P.cellsOf e = 1) (hval : Value.okWide P w r b0 t v)
    (hd : DataW.Trod enc P w base (fun _ => true) held t v d ps) :
    ∃ A n c, ∃ zs : List Int, v = .slice A n c ∧ zs.length = n ∧ Row w A n (fun i => .int k (zs.getD i 0)) ∧ n ≤ c ∧ c ≤ maxLen ∧ (∀ z ∈ zs, (Lit.int k z).wf = true) := by
  obtain ⟨a0, len, cap, rfl⟩ := okWide_slice ht hval; obtain ⟨fuel, hf⟩ := hd; rcases open_ints ht he hc hf with ⟨hcs, _⟩ | ⟨x, l, c, zs, hcs, _, hl, hm, hz, _, hcell, hwz⟩
  · simp [Value.cells] at hcs; obtain ⟨rfl, rfl, rfl⟩ := hcs; exact ⟨none, 0, 0, [], rfl, rfl, Row.nil _ _ _, Nat.le_refl _, by unfold maxLen; omega, by simp⟩
  · simp [Value.cells] at hcs; obtain ⟨rfl, rfl, rfl⟩ := hcs; simp only [if_true] at hz; refine ⟨some x, len, cap, zs.take len, rfl, by simp; omega, (vd3 omg hcell).congr fun i hi => ?_, hl, hm, fun z hzm => hwz z (List.mem_of_mem_take hzm)⟩; simp [List.getD_eq_getElem?_getD, hi]
theorem args_bytes {t e : TypeId} (ht : P.underlying t = some (.slice e)) (he : P.underlying e = some (.int .u8)) (hc : P.cellsOf e = 1) (hval : Value.okWide P w r b0 t v)
    (hd : DataW.Trod enc P w base (fun _ => true) held t v d ps) :
    ∃ A n c l, v = .slice A n c ∧ RB w A n l ∧ n ≤ c ∧ c ≤ maxLen := by
  obtain ⟨A, n, c, zs, rfl, hlen, hrow, hnc, hm, hwf⟩ := args_ints_of ht he hc hval hd; refine ⟨A, n, c, zs.map fun z => UInt8.ofNat z.toNat, rfl, ⟨by simpa using hlen, hrow.congr fun i hi => ?_⟩, hnc, hm⟩; have hi' : i < zs.length := omg; have hb := bounds_u8 (hwf _ (List.getElem_mem hi')); simp only [qa2, List.getD_eq_getElem?_getD, List.getElem?_map, List.getElem?_eq_getElem hi', Option.map_some, Option.getD_some]
  congr 1
  rw [UInt8.toNat_ofNat_of_lt' (by simp [UInt8.size]; omega)]; omega
theorem args_array {n : Nat} {t e : TypeId} {k : IntKind} (ht : P.underlying t = some (.array n e)) (he : P.underlying e = some (.int k)) (hc : P.cellsOf e = 1) (hct : P.cellsOf t = n) (hval : Value.okWide P w r b0 t v)
    (hd : DataW.Trod enc P w base spare held t v d ps) : ∃ zs : List Int, v = .agg (zs.map (Value.int k)).toArray ∧ zs.length = n ∧ ∀ z ∈ zs, (Lit.int k z).wf = true := by
  simp only [Value.okWide, ht] at hval; obtain ⟨cs, rfl, hsz, _⟩ := hval; obtain ⟨fuel, hf⟩ := hd; obtain ⟨xs, m, _, _, hcl, hxl, hat⟩ := DataW.trod_array ht hf; simp only [Value.cells, hct] at hcl hat
  have hl : cs.toList.length = n := by simpa using hcl
  have hall : ∀ i, i < n → ∃ z, cs.toList[i]? = some (.int k z) ∧ (Lit.int k z).wf = true := by
    intro i hi; have h := hat i hi; rw [hc, Nat.mul_one] at h; have hx : xs[i]? = some (xs[i]'omg) := List.getElem?_eq_getElem omg; rw [hx] at h; obtain ⟨z, hz, _, hw⟩ := DataW.trod_int he h; have h1 : cs.toList.drop i = cs.toList[i]'omg :: cs.toList.drop (i + 1) := List.drop_eq_getElem_cons omg; rw [h1] at hz; simp only [List.take_succ_cons, List.take_zero, List.cons.injEq, and_true] at hz; exact ⟨z, by rw [List.getElem?_eq_getElem omg, hz], hw⟩
  refine ⟨cs.toList.map fun v => match v with | .int _ z => z | _ => 0, ?_, by simpa using hl, fun z hz => ?_⟩
  · congr 1
    apply Array.ext_getElem?; intro i; rw [← Array.getElem?_toList]; simp only [List.getElem?_toArray, List.getElem?_map]; rcases Nat.lt_or_ge i n with hi | hi
    · obtain ⟨z, hz, _⟩ := hall i hi; rw [hz]; rfl
    · rw [List.getElem?_eq_none omg]; rfl
  · obtain ⟨v, hv, rfl⟩ := List.mem_map.1 hz; obtain ⟨i, hi, rfl⟩ := List.mem_iff_getElem.1 hv; obtain ⟨z, hz, hw⟩ := hall i omg; rw [List.getElem?_eq_getElem hi] at hz; injection hz with hz; rw [hz]; exact hw
end
open Go.RowKit Go.WideShapes Go.ChangeShapes Go.Deep
section
variable {H : Type} {enc : TypeId × Value → H} {P : Program} {w : World} {base b0 : Nat} {held : Bool} {r : Reach} {v : Value} {d : DataW H} {ps : List MemPlace}
def zsOf (w : World) (a : Addr) (n : Nat) : List Int := (List.range n).map fun q => match w.cell? (a.add q) with | some (.int _ z) => z | _ => 0
theorem args_structs {t e : TypeId} {fs : Array Field} {k : Nat} (ht : P.underlying t = some (.slice e)) (he : P.underlying e = some (.struct fs)) (hone : oneCellFields P fs = true) (hC : P.cellsOf e = fs.size) (hk : fs.size = k)
    (hint : ∀ (j : Nat) (f : Field), fs[j]? = some f → P.underlying f.type = some (.int .i64)) (hval : Value.okWide P w r b0 t v) (hd : DataW.Trod enc P w base (fun _ => true) held t v d ps) :
    ∃ A n c, ∃ zs : List Int, v = .slice A n c ∧ zs.length = n * k ∧ Row w A (n * k) (fun i => .int .i64 (zs.getD i 0)) ∧ n ≤ c ∧ c ≤ maxLen ∧ (∀ z ∈ zs, -9223372036854775808 ≤ z ∧ z ≤ 9223372036854775807) := by
  obtain ⟨a0, len, cap, rfl⟩ := okWide_slice ht hval; obtain ⟨fuel, hf⟩ := hd; subst hk; rcases open_slice ht hf with ⟨hcs, _⟩ | ⟨x, l, c, m, nf, D, Pl, hcs, _, hl, hm, hmm, _, hat⟩
  · simp [Value.cells] at hcs; obtain ⟨rfl, rfl, rfl⟩ := hcs; exact ⟨none, 0, 0, [], rfl, by simp, by rw [Nat.zero_mul]; exact Row.nil _ _ _, Nat.le_refl _, by unfold maxLen; omega, by simp⟩
  · simp [Value.cells] at hcs; obtain ⟨rfl, rfl, rfl⟩ := hcs; simp only [if_true] at hmm; have hcell : ∀ q, q < len * fs.size → ∃ z, w.cell? (x.add q) = some (.int .i64 z) ∧ -9223372036854775808 ≤ z ∧ z ≤ 9223372036854775807 := by
      intro q hq; have hp : 0 < fs.size := by
        rcases Nat.eq_zero_or_pos fs.size with h | h
        · rw [h, Nat.mul_zero] at hq; omega
        · exact h
      have hi : q / fs.size < len := Nat.div_lt_of_lt_mul (by rw [Nat.mul_comm]; exact hq); have hj : q % fs.size < fs.size := Nat.mod_lt _ hp; obtain ⟨cells, hcells, htr⟩ := hat (q / fs.size) omg; rw [hC] at hcells; obtain ⟨_, _, _, _, hlen, hys, hff⟩ := DataW.trod_struct he htr; obtain ⟨_, _, hread⟩ := World.cells?_some hcells; have hlt : q % fs.size < cells.length := by rw [hlen, hC]; exact hj
      have hc := hread (q % fs.size) hj; rw [List.getElem?_eq_getElem hlt] at hc; have hfj : fs[q % fs.size]? = some fs[q % fs.size] := by simp [hj]
      obtain ⟨o1, k1⟩ := hone_of hone (q % fs.size) _ hfj; have h1 := hff (q % fs.size) _ hfj; rw [o1, k1, List.drop_eq_getElem_cons hlt, List.take_succ_cons, List.take_zero] at h1; obtain ⟨z, hz, _, hw⟩ := DataW.trod_int (hint (q % fs.size) _ hfj) (h1.trans (List.getElem?_eq_getElem omg)); have e : q / fs.size * fs.size + q % fs.size = q := by rw [Nat.mul_comm]; exact Nat.div_add_mod q fs.size
      rw [Go.Deep.add_add, e] at hc; simp only [List.cons.injEq, and_true] at hz; rw [hz] at hc; exact ⟨z, hc, bounds_i64 hw⟩
    have hget : ∀ q, q < len * fs.size → ∃ z, w.cell? (x.add q) = some (.int .i64 z) ∧ (zsOf w x (len * fs.size)).getD q 0 = z := by
      intro q hq; obtain ⟨z, hz, _⟩ := hcell q hq; refine ⟨z, hz, ?_⟩; simp [zsOf, List.getD_eq_getElem?_getD, hq, hz]
    refine ⟨some x, len, cap, zsOf w x (len * fs.size), rfl, by simp [zsOf], fun h0 => ?_, hl, hm, fun z hz => ?_⟩
    · obtain ⟨z0, h00, _⟩ := hcell 0 h0; have hs : x.spot = none := qx7 (a := x) (by simpa [Addr.add] using h00); obtain ⟨b, o, s⟩ := x; simp only at hs; subst hs; refine ⟨b, o, rfl, World.block_lt_of_cell? w ⟨b, o, none⟩ (by simpa [Addr.add] using h00), fun i hi => ?_⟩; obtain ⟨z, hz, hg⟩ := hget i hi; have hadd : (⟨b, o, none⟩ : Addr).add i = ⟨b, o + i, none⟩ := by unfold Addr.add; split <;> simp_all
      rw [hadd] at hz; rw [hz]; exact congrArg (fun z => some (Value.int .i64 z)) hg.symm
    · obtain ⟨q, hq, rfl⟩ := List.mem_map.1 hz; obtain ⟨z, hz', hb⟩ := hcell q (List.mem_range.1 hq); rw [hz']; exact hb
end
open Go.RowKit Go.WideShapes Go.ChangeShapes Go.Deep Go.Joins
section
variable {H : Type} {enc : TypeId × Value → H} {P : Program} {w : World} {base b0 : Nat} {held : Bool} {r : Reach} {v : Value} {d : DataW H} {ps : List MemPlace}
theorem qx8 {t e : TypeId} {spare : Nat → Bool} {fuel : Nat} {y : DataW H × List MemPlace} (ht : P.underlying t = some (.slice e)) (hf : DataW.trod enc P w base spare held fuel t [v] = some y) : ∃ a len cap, v = .slice a len cap := by
  rcases DataW.trod_slice ht hf with ⟨h, _⟩ | ⟨a, len, cap, _, _, _, _, h, _⟩
  · exact ⟨none, 0, 0, by simpa using h⟩
  · exact ⟨some a, len, cap, by simpa using h⟩
theorem va7 {t e : TypeId} {k : IntKind} (ht : P.underlying t = some (.slice e)) (he : P.underlying e = some (.int k)) (hc : P.cellsOf e = 1) 
    {fuel : Nat} {y : DataW H × List MemPlace} (hf : DataW.trod enc P w base (fun _ => true) held fuel t [v] = some y) :
    ∃ A n c, ∃ zs : List Int, v = .slice A n c ∧ zs.length = n ∧ Row w A n (fun i => .int k (zs.getD i 0)) ∧ n ≤ c ∧ c ≤ maxLen ∧ (∀ z ∈ zs, (Lit.int k z).wf = true) := by
  obtain ⟨a0, len, cap, rfl⟩ := qx8 ht hf; rcases open_ints ht he hc hf with ⟨hcs, _⟩ | ⟨x, l, c, zs, hcs, _, hl, hm, hz, _, hcell, hwz⟩
  · simp at hcs; obtain ⟨rfl, rfl, rfl⟩ := hcs; exact ⟨none, 0, 0, [], rfl, rfl, Row.nil _ _ _, Nat.le_refl _, by unfold maxLen; omega, by simp⟩
  · simp at hcs; obtain ⟨rfl, rfl, rfl⟩ := hcs; simp only [if_true] at hz; refine ⟨some x, len, cap, zs.take len, rfl, by simp; omega, (vd3 omg hcell).congr fun i hi => ?_, hl, hm, fun z hzm => hwz z (List.mem_of_mem_take hzm)⟩; simp [List.getD_eq_getElem?_getD, hi]
theorem trod_bytes {t e : TypeId} (ht : P.underlying t = some (.slice e)) (he : P.underlying e = some (.int .u8)) (hc : P.cellsOf e = 1) 
    {fuel : Nat} {y : DataW H × List MemPlace} (hf : DataW.trod enc P w base (fun _ => true) held fuel t [v] = some y) :
    ∃ A n c l, v = .slice A n c ∧ RB w A n l ∧ n ≤ c ∧ c ≤ maxLen := by
  obtain ⟨A, n, c, zs, rfl, hlen, hrow, hnc, hm, hwf⟩ := va7 ht he hc hf; refine ⟨A, n, c, zs.map fun z => UInt8.ofNat z.toNat, rfl, ⟨by simpa using hlen, hrow.congr fun i hi => ?_⟩, hnc, hm⟩; have hi' : i < zs.length := omg; have hb := bounds_u8 (hwf _ (List.getElem_mem hi')); simp only [qa2, List.getD_eq_getElem?_getD, List.getElem?_map, List.getElem?_eq_getElem hi', Option.map_some, Option.getD_some]
  congr 1
  rw [UInt8.toNat_ofNat_of_lt' (by simp [UInt8.size]; omega)]; omega
theorem vc8 {t e : TypeId} (ht : P.underlying t = some (.slice e)) (he : P.underlying e = some (.int .i64)) (hc : P.cellsOf e = 1) 
    {fuel : Nat} {y : DataW H × List MemPlace} (hf : DataW.trod enc P w base (fun _ => true) held fuel t [v] = some y) :
    ∃ A n c l, v = .slice A n c ∧ RI w A n l ∧ n ≤ c ∧ c ≤ maxLen ∧ (∀ z ∈ l, -9223372036854775808 ≤ z ∧ z ≤ 9223372036854775807) := by
  obtain ⟨A, n, c, zs, rfl, hlen, hrow, hnc, hm, hwf⟩ := va7 ht he hc hf; exact ⟨A, n, c, zs, rfl, ⟨hlen, hrow⟩, hnc, hm, fun z hz => bounds_i64 (hwf z hz)⟩
theorem va6 {t e : TypeId} {fs : Array Field} {k : Nat} (ht : P.underlying t = some (.slice e)) (he : P.underlying e = some (.struct fs)) (hone : oneCellFields P fs = true) (hC : P.cellsOf e = fs.size) (hk : fs.size = k)
    (hint : ∀ (j : Nat) (f : Field), fs[j]? = some f → P.underlying f.type = some (.int .i64)) {fuel : Nat} {y : DataW H × List MemPlace} (hf : DataW.trod enc P w base (fun _ => true) held fuel t [v] = some y) :
    ∃ A n c, ∃ zs : List Int, v = .slice A n c ∧ zs.length = n * k ∧ Row w A (n * k) (fun i => .int .i64 (zs.getD i 0)) ∧ n ≤ c ∧ c ≤ maxLen ∧ (∀ z ∈ zs, -9223372036854775808 ≤ z ∧ z ≤ 9223372036854775807) := by
  obtain ⟨a0, len, cap, rfl⟩ := qx8 ht hf; subst hk; rcases open_slice ht hf with ⟨hcs, _⟩ | ⟨x, l, c, m, nf, D, Pl, hcs, _, hl, hm, hmm, _, hat⟩
  · simp at hcs; obtain ⟨rfl, rfl, rfl⟩ := hcs; exact ⟨none, 0, 0, [], rfl, by simp, by rw [Nat.zero_mul]; exact Row.nil _ _ _, Nat.le_refl _, by unfold maxLen; omega, by simp⟩
  · simp at hcs; obtain ⟨rfl, rfl, rfl⟩ := hcs; simp only [if_true] at hmm; have hcell : ∀ q, q < len * fs.size → ∃ z, w.cell? (x.add q) = some (.int .i64 z) ∧ -9223372036854775808 ≤ z ∧ z ≤ 9223372036854775807 := by
      intro q hq; have hp : 0 < fs.size := by
        rcases Nat.eq_zero_or_pos fs.size with h | h
        · rw [h, Nat.mul_zero] at hq; omega
        · exact h
      have hi : q / fs.size < len := Nat.div_lt_of_lt_mul (by rw [Nat.mul_comm]; exact hq); have hj : q % fs.size < fs.size := Nat.mod_lt _ hp; obtain ⟨cells, hcells, htr⟩ := hat (q / fs.size) omg; rw [hC] at hcells; obtain ⟨_, _, _, _, hlen, hys, hff⟩ := DataW.trod_struct he htr; obtain ⟨_, _, hread⟩ := World.cells?_some hcells; have hlt : q % fs.size < cells.length := by rw [hlen, hC]; exact hj
      have hc := hread (q % fs.size) hj; rw [List.getElem?_eq_getElem hlt] at hc; have hfj : fs[q % fs.size]? = some fs[q % fs.size] := by simp [hj]
      obtain ⟨o1, k1⟩ := hone_of hone (q % fs.size) _ hfj; have h1 := hff (q % fs.size) _ hfj; rw [o1, k1, List.drop_eq_getElem_cons hlt, List.take_succ_cons, List.take_zero] at h1; obtain ⟨z, hz, _, hw⟩ := DataW.trod_int (hint (q % fs.size) _ hfj) (h1.trans (List.getElem?_eq_getElem omg)); have e : q / fs.size * fs.size + q % fs.size = q := by rw [Nat.mul_comm]; exact Nat.div_add_mod q fs.size
      rw [Go.Deep.add_add, e] at hc; simp only [List.cons.injEq, and_true] at hz; rw [hz] at hc; exact ⟨z, hc, bounds_i64 hw⟩
    have hget : ∀ q, q < len * fs.size → ∃ z, w.cell? (x.add q) = some (.int .i64 z) ∧ (zsOf w x (len * fs.size)).getD q 0 = z := by
      intro q hq; obtain ⟨z, hz, _⟩ := hcell q hq; refine ⟨z, hz, ?_⟩; simp [zsOf, List.getD_eq_getElem?_getD, hq, hz]
    refine ⟨some x, len, cap, zsOf w x (len * fs.size), rfl, by simp [zsOf], fun h0 => ?_, hl, hm, fun z hz => ?_⟩
    · obtain ⟨z0, h00, _⟩ := hcell 0 h0; have hs : x.spot = none := qx7 (a := x) (by simpa [Addr.add] using h00); obtain ⟨b, o, s⟩ := x; simp only at hs; subst hs; refine ⟨b, o, rfl, World.block_lt_of_cell? w ⟨b, o, none⟩ (by simpa [Addr.add] using h00), fun i hi => ?_⟩; obtain ⟨z, hz, hg⟩ := hget i hi; have hadd : (⟨b, o, none⟩ : Addr).add i = ⟨b, o + i, none⟩ := by unfold Addr.add; split <;> simp_all
      rw [hadd] at hz; rw [hz]; exact congrArg (fun z => some (Value.int .i64 z)) hg.symm
    · obtain ⟨q, hq, rfl⟩ := List.mem_map.1 hz; obtain ⟨z, hz', hb⟩ := hcell q (List.mem_range.1 hq); rw [hz']; exact hb
theorem open_agg {t : TypeId} {fs : Array Field} {spare : Nat → Bool} (hs : P.underlying t = some (.struct fs)) (hone : oneCellFields P fs = true) (hC : P.cellsOf t = fs.size)
    (hv : Value.okWide P w r b0 t v) (h : DataW.Trod enc P w base spare held t v d ps) :
    ∃ (vs : List Value) (n : Nat), v = .agg vs.toArray ∧ vs.length = fs.size ∧ ∀ (j : Nat) (f : Field), fs[j]? = some f → ∃ u y, vs[j]? = some u ∧ DataW.trod enc P w base spare held n f.type [u] = some y := by
  obtain ⟨cs, rfl, hsz⟩ := okWide_struct hs hv; obtain ⟨fuel, hf⟩ := h; obtain ⟨xs, n, _, hx, _, hlen, hg⟩ := DataW.trod_struct hs hf; refine ⟨cs.toList, n, rfl, by rw [Array.length_toList, hsz, hC], fun j f hj => ?_⟩; obtain ⟨ho, hk⟩ := hone_of hone j f hj; have hjl : j < fs.size := (Array.getElem?_eq_some_iff.1 hj).1; have hcl : j < cs.toList.length := by rw [Array.length_toList, hsz, hC]; exact hjl
  have h1 := hg j f hj; rw [ho, hk] at h1; have h2 : ((Value.agg cs).cells.toList.drop j).take 1 = [cs.toList[j]] := by
    show (cs.toList.drop j).take 1 = _
    rw [List.drop_eq_getElem_cons hcl]; rfl
  rw [h2] at h1; exact ⟨cs.toList[j], xs[j]'omg, List.getElem?_eq_getElem hcl, h1.trans (List.getElem?_eq_getElem omg)⟩
end
open Go.RowKit Go.WideShapes Go.ChangeShapes Go.Deep Go.Joins
section
variable {H : Type} {enc : TypeId × Value → H} {P : Program} {w : World} {base b0 : Nat} {held : Bool} {r : Reach} {v : Value} {d : DataW H} {ps : List MemPlace}
theorem open_structs {t e : TypeId} {fs : Array Field} {k : Nat} (ht : P.underlying t = some (.slice e)) (he : P.underlying e = some (.struct fs)) (hone : oneCellFields P fs = true) (hC : P.cellsOf e = fs.size) (hk : fs.size = k) (h0 : 0 < k)
    (hval : Value.okWide P w r b0 t v) (hd : DataW.Trod enc P w base (fun _ => true) held t v d ps) :
    ∃ A n c, v = .slice A n c ∧ n ≤ c ∧ c ≤ maxLen ∧ ∀ i, i < n → ∃ b o, ∃ vs : List Value, A = some ⟨b, o, none⟩ ∧ b < w.heap.size ∧ vs.length = k ∧ (∀ j, j < k → w.cell? ⟨b, o + i * k + j, none⟩ = vs[j]?) ∧
      ∃ fuel, ∀ (j : Nat) (f : Field), fs[j]? = some f → ∃ u y, vs[j]? = some u ∧ DataW.trod enc P w base (fun _ => true) held fuel f.type [u] = some y := by
  obtain ⟨a0, len, cap, rfl⟩ := okWide_slice ht hval; obtain ⟨fuel, hf⟩ := hd; subst hk; rcases open_slice ht hf with ⟨hcs, _⟩ | ⟨x, l, c, m, nf, D, Pl, hcs, _, hl, hm, hmm, _, hat⟩
  · simp [Value.cells] at hcs; obtain ⟨rfl, rfl, rfl⟩ := hcs; exact ⟨none, 0, 0, rfl, Nat.le_refl _, by unfold maxLen; omega, fun i hi => absurd hi omg⟩
  · simp [Value.cells] at hcs; obtain ⟨rfl, rfl, rfl⟩ := hcs; simp only [if_true] at hmm; refine ⟨some x, len, cap, rfl, hl, hm, fun i hi => ?_⟩; obtain ⟨cells, hcells, htr⟩ := hat i omg; rw [hC] at hcells; obtain ⟨xs, n, _, _, hlen, hys, hff⟩ := DataW.trod_struct he htr; obtain ⟨_, _, hread⟩ := World.cells?_some hcells; have hread' : ∀ j, j < fs.size → w.cell? ((x.add (i * fs.size)).add j) = cells[j]? := fun j hj => hread j hj
    have hc0 := hread' 0 h0; have hlt0 : 0 < cells.length := by rw [hlen, hC]; exact h0
    rw [List.getElem?_eq_getElem hlt0, Go.Deep.add_add] at hc0; have hs : x.spot = none := by
      obtain ⟨cells0, hcells0, htr0⟩ := hat 0 omg; rw [hC] at hcells0; obtain ⟨_, _, _, _, hlen0, _, _⟩ := DataW.trod_struct he htr0; obtain ⟨_, _, hread0⟩ := World.cells?_some hcells0; have h9 := hread0 0 h0; have hlt9 : 0 < cells0.length := by rw [hlen0, hC]; exact h0
      rw [List.getElem?_eq_getElem hlt9] at h9; exact qx7 (a := x) (by simpa [Addr.add] using h9)
    obtain ⟨b, o, s⟩ := x; simp only at hs; subst hs; have hadd : ∀ q, (⟨b, o, none⟩ : Addr).add q = ⟨b, o + q, none⟩ := fun q => by unfold Addr.add; split <;> simp_all
    rw [hadd] at hc0; refine ⟨b, o, cells, rfl, World.block_lt_of_cell? w _ hc0, by rw [hlen, hC], fun j hj => ?_, n, fun j f hj => ?_⟩
    · have := hread' j hj; rw [Go.Deep.add_add, hadd] at this; rw [Nat.add_assoc]; exact this
    · obtain ⟨ho, hk⟩ := hone_of hone j f hj; have hjl : j < fs.size := (Array.getElem?_eq_some_iff.1 hj).1; have hcl : j < cells.length := by rw [hlen, hC]; exact hjl
      have h1 := hff j f hj; rw [ho, hk, List.drop_eq_getElem_cons hcl, List.take_succ_cons, List.take_zero] at h1; exact ⟨cells[j], xs[j]'omg, List.getElem?_eq_getElem hcl, h1.trans (List.getElem?_eq_getElem omg)⟩
end
structure DoV where
  kind : Int
  n : Int
  b : List UInt8
theorem list_of {α : Type} {P : Nat → α → Prop} {n : Nat} (h : ∀ i, i < n → ∃ x, P i x) : ∃ l : List α, l.length = n ∧ ∀ k x, l[k]? = some x → P k x := by
  induction n with
  | zero => exact ⟨[], rfl, fun k x hx => by simp at hx⟩
  | succ n ih =>
    obtain ⟨l, hl, hp⟩ := ih (fun i hi => h i omg); obtain ⟨x, hx⟩ := h n omg; refine ⟨l ++ [x], by simp [hl], fun k y hy => ?_⟩; rcases Nat.lt_or_ge k n with hk | hk
    · rw [List.getElem?_append_left omg] at hy; exact hp k y hy
    · rw [List.getElem?_append_right omg] at hy; have : k - l.length = 0 := by
        rcases Nat.eq_zero_or_pos (k - l.length) with q | q
        · exact q
        · rw [List.getElem?_eq_none (by simp; omega)] at hy; cases hy
      rw [this] at hy; simp only [List.getElem?_cons_zero, Option.some.injEq] at hy; have e : k = n := omg; subst e hy; exact hx
section
variable {H : Type} {enc : TypeId × Value → H} {w : World} {base b0 : Nat} {held : Bool} {r : Reach} {v : Value} {d : DataW H} {ps : List MemPlace}
end
end Go.Proofs.YtpmkpckldnnigaaGreat
