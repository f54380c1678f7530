/- Parts: Frame, MeterB. -/
import Derived.Test.YtalmdccgpigppaaPart01
import Derived.Test.YtalmdccgpigppaaRows
import Derived.ProofKit
import Derived.OpenShut
import Derived.Lib.SmallJoins
import Derived.Deep.Slices
import Derived.Deep.Fields
import Derived.ChangeSame
import Derived.Laws.LoneSync
import Derived.Deep.WholeRow
namespace Go.Proofs.Ytalmdccgpigppaa
open Go.RowKit Go.WideShapes Go.ChangeShapes

theorem spot_none {w : World} {a : Addr} {v : Value} (h : w.cell? a = some v) : a.spot = none := by
  unfold World.cell? at h
  split at h
  · split at h
    · cases h
    · rename_i hs; simpa using hs
  · cases h

section
variable {H : Type} {enc : TypeId × Value → H} {P : Program} {w : World} {base b0 : Nat} {spare : Nat → Bool} {held : Bool} {r : Reach} {v : Value} {d : DataW H} {ps : List MemPlace}

theorem args_int {t : TypeId} {k : IntKind} (ht : P.underlying t = some (.int k)) (hval : Value.okWide P w r b0 t v) (hd : DataW.Trod enc P w base spare held t v d ps) :
    ∃ n, v = .int k n ∧ (Lit.int k n).wf = true := by
  obtain ⟨n, h, _, _, hw⟩ := open_int ht hval hd
  exact ⟨n, h, hw⟩
theorem args_bool {t : TypeId} (ht : P.underlying t = some .bool) (hval : Value.okWide P w r b0 t v) (hd : DataW.Trod enc P w base spare held t v d ps) : ∃ b, v = .bool b := by
  obtain ⟨n, h, _⟩ := open_bool ht hval hd
  exact ⟨n, h⟩
theorem args_string {t : TypeId} (ht : P.underlying t = some .string) (hval : Value.okWide P w r b0 t v) (hd : DataW.Trod enc P w base spare held t v d ps) : ∃ s, v = .string s ∧ s.size ≤ maxLen := by
  obtain ⟨n, h, _, _, hl⟩ := Go.ChangeMaps.open_string ht hval hd
  exact ⟨n, h, hl⟩

theorem row_of_ints {k : IntKind} {x : Addr} {len : Nat} {zs : List Int} (hz : len ≤ zs.length) (hcell : ∀ i, i < zs.length → w.cell? (x.add i) = some (.int k (zs.getD i 0))) :
    Row w (some x) len (fun i => .int k (zs.getD i 0)) := by
  intro h0
  have h := hcell 0 (by omega)
  have hs : x.spot = none := spot_none (a := x) (by simpa [Addr.add] using h)
  obtain ⟨b, o, s⟩ := x
  simp only at hs
  subst hs
  refine ⟨b, o, rfl, ?_, fun i hi => ?_⟩
  · exact World.block_lt_of_cell? w ⟨b, o, none⟩ (by simpa [Addr.add] using h)
  · have := hcell i (by omega)
    have hadd : (⟨b, o, none⟩ : Addr).add i = ⟨b, o + i, none⟩ := by unfold Addr.add; split <;> simp_all
    rwa [hadd] at this

theorem args_ints_of {t e : TypeId} {k : IntKind} (ht : P.underlying t = some (.slice e)) (he : P.underlying e = some (.int k)) (hc : P.cellsOf e = 1) (hval : Value.okWide P w r b0 t v)
    (hd : DataW.Trod enc P w base (fun _ => true) held t v d ps) :
    ∃ A n c, ∃ zs : List Int, v = .slice A n c ∧ zs.length = n ∧ Row w A n (fun i => .int k (zs.getD i 0)) ∧ n ≤ c ∧ c ≤ maxLen ∧ (∀ z ∈ zs, (Lit.int k z).wf = true) := by
  obtain ⟨a0, len, cap, rfl⟩ := okWide_slice ht hval
  obtain ⟨fuel, hf⟩ := hd
  rcases open_ints ht he hc hf with ⟨hcs, _⟩ | ⟨x, l, c, zs, hcs, _, hl, hm, hz, _, hcell, hwz⟩
  · simp [Value.cells] at hcs
    obtain ⟨rfl, rfl, rfl⟩ := hcs
    exact ⟨none, 0, 0, [], rfl, rfl, Row.nil _ _ _, Nat.le_refl _, by unfold maxLen; omega, by simp⟩
  · simp [Value.cells] at hcs
    obtain ⟨rfl, rfl, rfl⟩ := hcs
    simp only [if_true] at hz
    refine ⟨some x, len, cap, zs.take len, rfl, by simp; omega, (row_of_ints (by omega) hcell).congr fun i hi => ?_, hl, hm, fun z hzm => hwz z (List.mem_of_mem_take hzm)⟩
    simp [List.getD_eq_getElem?_getD, hi]

theorem args_bytes {t e : TypeId} (ht : P.underlying t = some (.slice e)) (he : P.underlying e = some (.int .u8)) (hc : P.cellsOf e = 1) (hval : Value.okWide P w r b0 t v)
    (hd : DataW.Trod enc P w base (fun _ => true) held t v d ps) :
    ∃ A n c l, v = .slice A n c ∧ RB w A n l ∧ n ≤ c ∧ c ≤ maxLen := by
  obtain ⟨A, n, c, zs, rfl, hlen, hrow, hnc, hm, hwf⟩ := args_ints_of ht he hc hval hd
  refine ⟨A, n, c, zs.map fun z => UInt8.ofNat z.toNat, rfl, ⟨by simpa using hlen, hrow.congr fun i hi => ?_⟩, hnc, hm⟩
  have hi' : i < zs.length := by omega
  have hb := bounds_u8 (hwf _ (List.getElem_mem hi'))
  simp only [byteAt, List.getD_eq_getElem?_getD, List.getElem?_map, List.getElem?_eq_getElem hi', Option.map_some, Option.getD_some]
  congr 1
  rw [UInt8.toNat_ofNat_of_lt' (by simp [UInt8.size]; omega)]
  omega

theorem args_ints {t e : TypeId} (ht : P.underlying t = some (.slice e)) (he : P.underlying e = some (.int .i64)) (hc : P.cellsOf e = 1) (hval : Value.okWide P w r b0 t v)
    (hd : DataW.Trod enc P w base (fun _ => true) held t v d ps) :
    ∃ A n c l, v = .slice A n c ∧ RI w A n l ∧ n ≤ c ∧ c ≤ maxLen ∧ (∀ z ∈ l, -9223372036854775808 ≤ z ∧ z ≤ 9223372036854775807) := by
  obtain ⟨A, n, c, zs, rfl, hlen, hrow, hnc, hm, hwf⟩ := args_ints_of ht he hc hval hd
  exact ⟨A, n, c, zs, rfl, ⟨hlen, hrow⟩, hnc, hm, fun z hz => bounds_i64 (hwf z hz)⟩
theorem args_array {n : Nat} {t e : TypeId} {k : IntKind} (ht : P.underlying t = some (.array n e)) (he : P.underlying e = some (.int k)) (hc : P.cellsOf e = 1) (hct : P.cellsOf t = n) (hval : Value.okWide P w r b0 t v)
    (hd : DataW.Trod enc P w base spare held t v d ps) : ∃ zs : List Int, v = .agg (zs.map (Value.int k)).toArray ∧ zs.length = n ∧ ∀ z ∈ zs, (Lit.int k z).wf = true := by
  simp only [Value.okWide, ht] at hval
  obtain ⟨cs, rfl, hsz, _⟩ := hval
  obtain ⟨fuel, hf⟩ := hd
  obtain ⟨xs, m, _, _, hcl, hxl, hat⟩ := DataW.trod_array ht hf
  simp only [Value.cells, hct] at hcl hat
  have hl : cs.toList.length = n := by simpa using hcl
  have hall : ∀ i, i < n → ∃ z, cs.toList[i]? = some (.int k z) ∧ (Lit.int k z).wf = true := by
    intro i hi
    have h := hat i hi
    rw [hc, Nat.mul_one] at h
    have hx : xs[i]? = some (xs[i]'(by omega)) := List.getElem?_eq_getElem (by omega)
    rw [hx] at h
    obtain ⟨z, hz, _, hw⟩ := DataW.trod_int he h
    have h1 : cs.toList.drop i = cs.toList[i]'(by omega) :: cs.toList.drop (i + 1) := List.drop_eq_getElem_cons (by omega)
    rw [h1] at hz
    simp only [List.take_succ_cons, List.take_zero, List.cons.injEq, and_true] at hz
    exact ⟨z, by rw [List.getElem?_eq_getElem (by omega), hz], hw⟩
  refine ⟨cs.toList.map fun v => match v with | .int _ z => z | _ => 0, ?_, by simpa using hl, fun z hz => ?_⟩
  · congr 1
    apply Array.ext_getElem?
    intro i
    rw [← Array.getElem?_toList]
    simp only [List.getElem?_toArray, List.getElem?_map]
    rcases Nat.lt_or_ge i n with hi | hi
    · obtain ⟨z, hz, _⟩ := hall i hi
      rw [hz]; rfl
    · rw [List.getElem?_eq_none (by omega)]; rfl
  · obtain ⟨v, hv, rfl⟩ := List.mem_map.1 hz
    obtain ⟨i, hi, rfl⟩ := List.mem_iff_getElem.1 hv
    obtain ⟨z, hz, hw⟩ := hall i (by omega)
    rw [List.getElem?_eq_getElem hi] at hz
    injection hz with hz
    rw [hz]; exact hw
theorem args_byteArray {n : Nat} {t e : TypeId} (ht : P.underlying t = some (.array n e)) (he : P.underlying e = some (.int .u8)) (hc : P.cellsOf e = 1) (hct : P.cellsOf t = n) (hval : Value.okWide P w r b0 t v)
    (hd : DataW.Trod enc P w base spare held t v d ps) : ∃ l : List UInt8, v = .agg (l.map bv).toArray ∧ l.length = n := by
  obtain ⟨zs, rfl, hl, hw⟩ := args_array ht he hc hct hval hd
  refine ⟨zs.map fun z => UInt8.ofNat z.toNat, ?_, by simpa using hl⟩
  congr 2
  rw [List.map_map]
  apply List.map_congr_left
  intro z hz
  have hb := bounds_u8 (hw z hz)
  show Value.int .u8 z = Value.int .u8 ((UInt8.ofNat z.toNat).toNat : Int)
  congr 1
  rw [UInt8.toNat_ofNat_of_lt' (by simp [UInt8.size]; omega)]
  omega
end
end Go.Proofs.Ytalmdccgpigppaa
namespace Go.Proofs.Ytalmdccgpigppaa
open Go.RowKit Go.WideShapes Go.ChangeShapes Go.Deep

section
variable {H : Type} {enc : TypeId × Value → H} {P : Program} {w : World} {base b0 : Nat} {held : Bool} {r : Reach} {v : Value} {d : DataW H} {ps : List MemPlace}
def zsOf (w : World) (a : Addr) (n : Nat) : List Int := (List.range n).map fun q => match w.cell? (a.add q) with | some (.int _ z) => z | _ => 0
theorem args_structs {t e : TypeId} {fs : Array Field} {k : Nat} (ht : P.underlying t = some (.slice e)) (he : P.underlying e = some (.struct fs)) (hone : oneCellFields P fs = true) (hC : P.cellsOf e = fs.size) (hk : fs.size = k)
    (hint : ∀ (j : Nat) (f : Field), fs[j]? = some f → P.underlying f.type = some (.int .i64)) (hval : Value.okWide P w r b0 t v) (hd : DataW.Trod enc P w base (fun _ => true) held t v d ps) :
    ∃ A n c, ∃ zs : List Int, v = .slice A n c ∧ zs.length = n * k ∧ Row w A (n * k) (fun i => .int .i64 (zs.getD i 0)) ∧ n ≤ c ∧ c ≤ maxLen ∧ (∀ z ∈ zs, -9223372036854775808 ≤ z ∧ z ≤ 9223372036854775807) := by
  obtain ⟨a0, len, cap, rfl⟩ := okWide_slice ht hval
  obtain ⟨fuel, hf⟩ := hd
  subst hk
  rcases open_slice ht hf with ⟨hcs, _⟩ | ⟨x, l, c, m, nf, D, Pl, hcs, _, hl, hm, hmm, _, hat⟩
  · simp [Value.cells] at hcs
    obtain ⟨rfl, rfl, rfl⟩ := hcs
    exact ⟨none, 0, 0, [], rfl, by simp, by rw [Nat.zero_mul]; exact Row.nil _ _ _, Nat.le_refl _, by unfold maxLen; omega, by simp⟩
  · simp [Value.cells] at hcs
    obtain ⟨rfl, rfl, rfl⟩ := hcs
    simp only [if_true] at hmm
    have hcell : ∀ q, q < len * fs.size → ∃ z, w.cell? (x.add q) = some (.int .i64 z) ∧ -9223372036854775808 ≤ z ∧ z ≤ 9223372036854775807 := by
      intro q hq
      have hp : 0 < fs.size := by
        rcases Nat.eq_zero_or_pos fs.size with h | h
        · rw [h, Nat.mul_zero] at hq; omega
        · exact h
      have hi : q / fs.size < len := Nat.div_lt_of_lt_mul (by rw [Nat.mul_comm]; exact hq)
      have hj : q % fs.size < fs.size := Nat.mod_lt _ hp
      obtain ⟨cells, hcells, htr⟩ := hat (q / fs.size) (by omega)
      rw [hC] at hcells
      obtain ⟨_, _, _, _, hlen, hys, hff⟩ := DataW.trod_struct he htr
      obtain ⟨_, _, hread⟩ := World.cells?_some hcells
      have hlt : q % fs.size < cells.length := by rw [hlen, hC]; exact hj
      have hc := hread (q % fs.size) hj
      rw [List.getElem?_eq_getElem hlt] at hc
      have hfj : fs[q % fs.size]? = some fs[q % fs.size] := by simp [hj]
      obtain ⟨o1, k1⟩ := hone_of hone (q % fs.size) _ hfj
      have h1 := hff (q % fs.size) _ hfj
      rw [o1, k1, List.drop_eq_getElem_cons hlt, List.take_succ_cons, List.take_zero] at h1
      obtain ⟨z, hz, _, hw⟩ := DataW.trod_int (hint (q % fs.size) _ hfj) (h1.trans (List.getElem?_eq_getElem (by omega)))
      have e : q / fs.size * fs.size + q % fs.size = q := by rw [Nat.mul_comm]; exact Nat.div_add_mod q fs.size
      rw [Go.Deep.add_add, e] at hc
      simp only [List.cons.injEq, and_true] at hz
      rw [hz] at hc
      exact ⟨z, hc, bounds_i64 hw⟩
    have hget : ∀ q, q < len * fs.size → ∃ z, w.cell? (x.add q) = some (.int .i64 z) ∧ (zsOf w x (len * fs.size)).getD q 0 = z := by
      intro q hq
      obtain ⟨z, hz, _⟩ := hcell q hq
      refine ⟨z, hz, ?_⟩
      simp [zsOf, List.getD_eq_getElem?_getD, hq, hz]
    refine ⟨some x, len, cap, zsOf w x (len * fs.size), rfl, by simp [zsOf], fun h0 => ?_, hl, hm, fun z hz => ?_⟩
    · obtain ⟨z0, h00, _⟩ := hcell 0 h0
      have hs : x.spot = none := spot_none (a := x) (by simpa [Addr.add] using h00)
      obtain ⟨b, o, s⟩ := x
      simp only at hs
      subst hs
      refine ⟨b, o, rfl, World.block_lt_of_cell? w ⟨b, o, none⟩ (by simpa [Addr.add] using h00), fun i hi => ?_⟩
      obtain ⟨z, hz, hg⟩ := hget i hi
      have hadd : (⟨b, o, none⟩ : Addr).add i = ⟨b, o + i, none⟩ := by unfold Addr.add; split <;> simp_all
      rw [hadd] at hz
      rw [hz]
      exact congrArg (fun z => some (Value.int .i64 z)) hg.symm
    · obtain ⟨q, hq, rfl⟩ := List.mem_map.1 hz
      obtain ⟨z, hz', hb⟩ := hcell q (List.mem_range.1 hq)
      rw [hz']
      exact hb
end
end Go.Proofs.Ytalmdccgpigppaa
namespace Go.Proofs.Ytalmdccgpigppaa
open Go.RowKit Go.WideShapes Go.ChangeShapes Go.Deep Go.Joins

section
variable {H : Type} {enc : TypeId × Value → H} {P : Program} {w : World} {base b0 : Nat} {held : Bool} {r : Reach} {v : Value} {d : DataW H} {ps : List MemPlace}
theorem slice_of_trod {t e : TypeId} {spare : Nat → Bool} {fuel : Nat} {y : DataW H × List MemPlace} (ht : P.underlying t = some (.slice e)) (hf : DataW.trod enc P w base spare held fuel t [v] = some y) : ∃ a len cap, v = .slice a len cap := by
  rcases DataW.trod_slice ht hf with ⟨h, _⟩ | ⟨a, len, cap, _, _, _, _, h, _⟩
  · exact ⟨none, 0, 0, by simpa using h⟩
  · exact ⟨some a, len, cap, by simpa using h⟩
theorem trod_ints_of {t e : TypeId} {k : IntKind} (ht : P.underlying t = some (.slice e)) (he : P.underlying e = some (.int k)) (hc : P.cellsOf e = 1) 
    {fuel : Nat} {y : DataW H × List MemPlace} (hf : DataW.trod enc P w base (fun _ => true) held fuel t [v] = some y) :
    ∃ A n c, ∃ zs : List Int, v = .slice A n c ∧ zs.length = n ∧ Row w A n (fun i => .int k (zs.getD i 0)) ∧ n ≤ c ∧ c ≤ maxLen ∧ (∀ z ∈ zs, (Lit.int k z).wf = true) := by
  obtain ⟨a0, len, cap, rfl⟩ := slice_of_trod ht hf
  rcases open_ints ht he hc hf with ⟨hcs, _⟩ | ⟨x, l, c, zs, hcs, _, hl, hm, hz, _, hcell, hwz⟩
  · simp at hcs
    obtain ⟨rfl, rfl, rfl⟩ := hcs
    exact ⟨none, 0, 0, [], rfl, rfl, Row.nil _ _ _, Nat.le_refl _, by unfold maxLen; omega, by simp⟩
  · simp at hcs
    obtain ⟨rfl, rfl, rfl⟩ := hcs
    simp only [if_true] at hz
    refine ⟨some x, len, cap, zs.take len, rfl, by simp; omega, (row_of_ints (by omega) hcell).congr fun i hi => ?_, hl, hm, fun z hzm => hwz z (List.mem_of_mem_take hzm)⟩
    simp [List.getD_eq_getElem?_getD, hi]

theorem trod_bytes {t e : TypeId} (ht : P.underlying t = some (.slice e)) (he : P.underlying e = some (.int .u8)) (hc : P.cellsOf e = 1) 
    {fuel : Nat} {y : DataW H × List MemPlace} (hf : DataW.trod enc P w base (fun _ => true) held fuel t [v] = some y) :
    ∃ A n c l, v = .slice A n c ∧ RB w A n l ∧ n ≤ c ∧ c ≤ maxLen := by
  obtain ⟨A, n, c, zs, rfl, hlen, hrow, hnc, hm, hwf⟩ := trod_ints_of ht he hc hf
  refine ⟨A, n, c, zs.map fun z => UInt8.ofNat z.toNat, rfl, ⟨by simpa using hlen, hrow.congr fun i hi => ?_⟩, hnc, hm⟩
  have hi' : i < zs.length := by omega
  have hb := bounds_u8 (hwf _ (List.getElem_mem hi'))
  simp only [byteAt, List.getD_eq_getElem?_getD, List.getElem?_map, List.getElem?_eq_getElem hi', Option.map_some, Option.getD_some]
  congr 1
  rw [UInt8.toNat_ofNat_of_lt' (by simp [UInt8.size]; omega)]
  omega

theorem trod_ints {t e : TypeId} (ht : P.underlying t = some (.slice e)) (he : P.underlying e = some (.int .i64)) (hc : P.cellsOf e = 1) 
    {fuel : Nat} {y : DataW H × List MemPlace} (hf : DataW.trod enc P w base (fun _ => true) held fuel t [v] = some y) :
    ∃ A n c l, v = .slice A n c ∧ RI w A n l ∧ n ≤ c ∧ c ≤ maxLen ∧ (∀ z ∈ l, -9223372036854775808 ≤ z ∧ z ≤ 9223372036854775807) := by
  obtain ⟨A, n, c, zs, rfl, hlen, hrow, hnc, hm, hwf⟩ := trod_ints_of ht he hc hf
  exact ⟨A, n, c, zs, rfl, ⟨hlen, hrow⟩, hnc, hm, fun z hz => bounds_i64 (hwf z hz)⟩
theorem trod_structs {t e : TypeId} {fs : Array Field} {k : Nat} (ht : P.underlying t = some (.slice e)) (he : P.underlying e = some (.struct fs)) (hone : oneCellFields P fs = true) (hC : P.cellsOf e = fs.size) (hk : fs.size = k)
    (hint : ∀ (j : Nat) (f : Field), fs[j]? = some f → P.underlying f.type = some (.int .i64)) {fuel : Nat} {y : DataW H × List MemPlace} (hf : DataW.trod enc P w base (fun _ => true) held fuel t [v] = some y) :
    ∃ A n c, ∃ zs : List Int, v = .slice A n c ∧ zs.length = n * k ∧ Row w A (n * k) (fun i => .int .i64 (zs.getD i 0)) ∧ n ≤ c ∧ c ≤ maxLen ∧ (∀ z ∈ zs, -9223372036854775808 ≤ z ∧ z ≤ 9223372036854775807) := by
  obtain ⟨a0, len, cap, rfl⟩ := slice_of_trod ht hf
  subst hk
  rcases open_slice ht hf with ⟨hcs, _⟩ | ⟨x, l, c, m, nf, D, Pl, hcs, _, hl, hm, hmm, _, hat⟩
  · simp at hcs
    obtain ⟨rfl, rfl, rfl⟩ := hcs
    exact ⟨none, 0, 0, [], rfl, by simp, by rw [Nat.zero_mul]; exact Row.nil _ _ _, Nat.le_refl _, by unfold maxLen; omega, by simp⟩
  · simp at hcs
    obtain ⟨rfl, rfl, rfl⟩ := hcs
    simp only [if_true] at hmm
    have hcell : ∀ q, q < len * fs.size → ∃ z, w.cell? (x.add q) = some (.int .i64 z) ∧ -9223372036854775808 ≤ z ∧ z ≤ 9223372036854775807 := by
      intro q hq
      have hp : 0 < fs.size := by
        rcases Nat.eq_zero_or_pos fs.size with h | h
        · rw [h, Nat.mul_zero] at hq; omega
        · exact h
      have hi : q / fs.size < len := Nat.div_lt_of_lt_mul (by rw [Nat.mul_comm]; exact hq)
      have hj : q % fs.size < fs.size := Nat.mod_lt _ hp
      obtain ⟨cells, hcells, htr⟩ := hat (q / fs.size) (by omega)
      rw [hC] at hcells
      obtain ⟨_, _, _, _, hlen, hys, hff⟩ := DataW.trod_struct he htr
      obtain ⟨_, _, hread⟩ := World.cells?_some hcells
      have hlt : q % fs.size < cells.length := by rw [hlen, hC]; exact hj
      have hc := hread (q % fs.size) hj
      rw [List.getElem?_eq_getElem hlt] at hc
      have hfj : fs[q % fs.size]? = some fs[q % fs.size] := by simp [hj]
      obtain ⟨o1, k1⟩ := hone_of hone (q % fs.size) _ hfj
      have h1 := hff (q % fs.size) _ hfj
      rw [o1, k1, List.drop_eq_getElem_cons hlt, List.take_succ_cons, List.take_zero] at h1
      obtain ⟨z, hz, _, hw⟩ := DataW.trod_int (hint (q % fs.size) _ hfj) (h1.trans (List.getElem?_eq_getElem (by omega)))
      have e : q / fs.size * fs.size + q % fs.size = q := by rw [Nat.mul_comm]; exact Nat.div_add_mod q fs.size
      rw [Go.Deep.add_add, e] at hc
      simp only [List.cons.injEq, and_true] at hz
      rw [hz] at hc
      exact ⟨z, hc, bounds_i64 hw⟩
    have hget : ∀ q, q < len * fs.size → ∃ z, w.cell? (x.add q) = some (.int .i64 z) ∧ (zsOf w x (len * fs.size)).getD q 0 = z := by
      intro q hq
      obtain ⟨z, hz, _⟩ := hcell q hq
      refine ⟨z, hz, ?_⟩
      simp [zsOf, List.getD_eq_getElem?_getD, hq, hz]
    refine ⟨some x, len, cap, zsOf w x (len * fs.size), rfl, by simp [zsOf], fun h0 => ?_, hl, hm, fun z hz => ?_⟩
    · obtain ⟨z0, h00, _⟩ := hcell 0 h0
      have hs : x.spot = none := spot_none (a := x) (by simpa [Addr.add] using h00)
      obtain ⟨b, o, s⟩ := x
      simp only at hs
      subst hs
      refine ⟨b, o, rfl, World.block_lt_of_cell? w ⟨b, o, none⟩ (by simpa [Addr.add] using h00), fun i hi => ?_⟩
      obtain ⟨z, hz, hg⟩ := hget i hi
      have hadd : (⟨b, o, none⟩ : Addr).add i = ⟨b, o + i, none⟩ := by unfold Addr.add; split <;> simp_all
      rw [hadd] at hz
      rw [hz]
      exact congrArg (fun z => some (Value.int .i64 z)) hg.symm
    · obtain ⟨q, hq, rfl⟩ := List.mem_map.1 hz
      obtain ⟨z, hz', hb⟩ := hcell q (List.mem_range.1 hq)
      rw [hz']
      exact hb
/-- A struct of any number of one-cell fields, by value: each field's cell with its reading. -/
theorem open_agg {t : TypeId} {fs : Array Field} {spare : Nat → Bool} (hs : P.underlying t = some (.struct fs)) (hone : oneCellFields P fs = true) (hC : P.cellsOf t = fs.size)
    (hv : Value.okWide P w r b0 t v) (h : DataW.Trod enc P w base spare held t v d ps) :
    ∃ (vs : List Value) (n : Nat), v = .agg vs.toArray ∧ vs.length = fs.size ∧ ∀ (j : Nat) (f : Field), fs[j]? = some f → ∃ u y, vs[j]? = some u ∧ DataW.trod enc P w base spare held n f.type [u] = some y := by
  obtain ⟨cs, rfl, hsz⟩ := okWide_struct hs hv
  obtain ⟨fuel, hf⟩ := h
  obtain ⟨xs, n, _, hx, _, hlen, hg⟩ := DataW.trod_struct hs hf
  refine ⟨cs.toList, n, rfl, by rw [Array.length_toList, hsz, hC], fun j f hj => ?_⟩
  obtain ⟨ho, hk⟩ := hone_of hone j f hj
  have hjl : j < fs.size := (Array.getElem?_eq_some_iff.1 hj).1
  have hcl : j < cs.toList.length := by rw [Array.length_toList, hsz, hC]; exact hjl
  have h1 := hg j f hj
  rw [ho, hk] at h1
  have h2 : ((Value.agg cs).cells.toList.drop j).take 1 = [cs.toList[j]] := by
    show (cs.toList.drop j).take 1 = _
    rw [List.drop_eq_getElem_cons hcl]; rfl
  rw [h2] at h1
  exact ⟨cs.toList[j], xs[j]'(by omega), List.getElem?_eq_getElem hcl, h1.trans (List.getElem?_eq_getElem (by omega))⟩
end
end Go.Proofs.Ytalmdccgpigppaa
namespace Go.Proofs.Ytalmdccgpigppaa
open Go.RowKit Go.WideShapes Go.ChangeShapes Go.Deep Go.Joins

section
variable {H : Type} {enc : TypeId × Value → H} {P : Program} {w : World} {base b0 : Nat} {held : Bool} {r : Reach} {v : Value} {d : DataW H} {ps : List MemPlace}
theorem open_structs {t e : TypeId} {fs : Array Field} {k : Nat} (ht : P.underlying t = some (.slice e)) (he : P.underlying e = some (.struct fs)) (hone : oneCellFields P fs = true) (hC : P.cellsOf e = fs.size) (hk : fs.size = k) (h0 : 0 < k)
    (hval : Value.okWide P w r b0 t v) (hd : DataW.Trod enc P w base (fun _ => true) held t v d ps) :
    ∃ A n c, v = .slice A n c ∧ n ≤ c ∧ c ≤ maxLen ∧ ∀ i, i < n → ∃ b o, ∃ vs : List Value, A = some ⟨b, o, none⟩ ∧ b < w.heap.size ∧ vs.length = k ∧ (∀ j, j < k → w.cell? ⟨b, o + i * k + j, none⟩ = vs[j]?) ∧
      ∃ fuel, ∀ (j : Nat) (f : Field), fs[j]? = some f → ∃ u y, vs[j]? = some u ∧ DataW.trod enc P w base (fun _ => true) held fuel f.type [u] = some y := by
  obtain ⟨a0, len, cap, rfl⟩ := okWide_slice ht hval
  obtain ⟨fuel, hf⟩ := hd
  subst hk
  rcases open_slice ht hf with ⟨hcs, _⟩ | ⟨x, l, c, m, nf, D, Pl, hcs, _, hl, hm, hmm, _, hat⟩
  · simp [Value.cells] at hcs
    obtain ⟨rfl, rfl, rfl⟩ := hcs
    exact ⟨none, 0, 0, rfl, Nat.le_refl _, by unfold maxLen; omega, fun i hi => absurd hi (by omega)⟩
  · simp [Value.cells] at hcs
    obtain ⟨rfl, rfl, rfl⟩ := hcs
    simp only [if_true] at hmm
    refine ⟨some x, len, cap, rfl, hl, hm, fun i hi => ?_⟩
    obtain ⟨cells, hcells, htr⟩ := hat i (by omega)
    rw [hC] at hcells
    obtain ⟨xs, n, _, _, hlen, hys, hff⟩ := DataW.trod_struct he htr
    obtain ⟨_, _, hread⟩ := World.cells?_some hcells
    have hread' : ∀ j, j < fs.size → w.cell? ((x.add (i * fs.size)).add j) = cells[j]? := fun j hj => hread j hj
    have hc0 := hread' 0 h0
    have hlt0 : 0 < cells.length := by rw [hlen, hC]; exact h0
    rw [List.getElem?_eq_getElem hlt0, Go.Deep.add_add] at hc0
    have hs : x.spot = none := by
      obtain ⟨cells0, hcells0, htr0⟩ := hat 0 (by omega)
      rw [hC] at hcells0
      obtain ⟨_, _, _, _, hlen0, _, _⟩ := DataW.trod_struct he htr0
      obtain ⟨_, _, hread0⟩ := World.cells?_some hcells0
      have h9 := hread0 0 h0
      have hlt9 : 0 < cells0.length := by rw [hlen0, hC]; exact h0
      rw [List.getElem?_eq_getElem hlt9] at h9
      exact spot_none (a := x) (by simpa [Addr.add] using h9)
    obtain ⟨b, o, s⟩ := x
    simp only at hs
    subst hs
    have hadd : ∀ q, (⟨b, o, none⟩ : Addr).add q = ⟨b, o + q, none⟩ := fun q => by unfold Addr.add; split <;> simp_all
    rw [hadd] at hc0
    refine ⟨b, o, cells, rfl, World.block_lt_of_cell? w _ hc0, by rw [hlen, hC], fun j hj => ?_, n, fun j f hj => ?_⟩
    · have := hread' j hj
      rw [Go.Deep.add_add, hadd] at this
      rw [Nat.add_assoc]
      exact this
    · obtain ⟨ho, hk⟩ := hone_of hone j f hj
      have hjl : j < fs.size := (Array.getElem?_eq_some_iff.1 hj).1
      have hcl : j < cells.length := by rw [hlen, hC]; exact hjl
      have h1 := hff j f hj
      rw [ho, hk, List.drop_eq_getElem_cons hcl, List.take_succ_cons, List.take_zero] at h1
      exact ⟨cells[j], xs[j]'(by omega), List.getElem?_eq_getElem hcl, h1.trans (List.getElem?_eq_getElem (by omega))⟩
end
/-- What is done to a disk. -/
structure DoV where
  kind : Int
  n : Int
  b : List UInt8
def DosRd (w : World) (A : Option Addr) (n : Nat) (l : List DoV) : Prop :=
  l.length = n ∧ ∀ k x, l[k]? = some x → ∃ b o B m c, A = some ⟨b, o, none⟩ ∧ b < w.heap.size ∧ w.cell? ⟨b, o + k * 3 + 0, none⟩ = some (.int .i64 x.kind) ∧ w.cell? ⟨b, o + k * 3 + 1, none⟩ = some (.int .i64 x.n) ∧ w.cell? ⟨b, o + k * 3 + 2, none⟩ = some (.slice B m c) ∧
    RB w B m x.b ∧ m ≤ c ∧ c ≤ maxLen ∧ (-9223372036854775808 ≤ x.kind ∧ x.kind ≤ 9223372036854775807) ∧ (-9223372036854775808 ≤ x.n ∧ x.n ≤ 9223372036854775807)
theorem DosRd.below {w w' : World} {A : Option Addr} {n B0 : Nat} {l : List DoV} (h : DosRd w A n l) (hb : Below B0 w w') (hB : w.heap.size ≤ B0) : DosRd w' A n l := by
  refine ⟨h.1, fun k x hx => ?_⟩
  obtain ⟨b, o, B, m, c, hA, hlt, c0, c1, c2, hr, rest⟩ := h.2 k x hx
  have hs := hb.size
  exact ⟨b, o, B, m, c, hA, by omega, by rw [hb.cell (p := ⟨b, o + k * 3 + 0, none⟩) (by show b < B0; omega)]; exact c0, by rw [hb.cell (p := ⟨b, o + k * 3 + 1, none⟩) (by show b < B0; omega)]; exact c1, by rw [hb.cell (p := ⟨b, o + k * 3 + 2, none⟩) (by show b < B0; omega)]; exact c2, hr.below hb hB, rest⟩
theorem list_of {α : Type} {P : Nat → α → Prop} {n : Nat} (h : ∀ i, i < n → ∃ x, P i x) : ∃ l : List α, l.length = n ∧ ∀ k x, l[k]? = some x → P k x := by
  induction n with
  | zero => exact ⟨[], rfl, fun k x hx => by simp at hx⟩
  | succ n ih =>
    obtain ⟨l, hl, hp⟩ := ih (fun i hi => h i (by omega))
    obtain ⟨x, hx⟩ := h n (by omega)
    refine ⟨l ++ [x], by simp [hl], fun k y hy => ?_⟩
    rcases Nat.lt_or_ge k n with hk | hk
    · rw [List.getElem?_append_left (by omega)] at hy; exact hp k y hy
    · rw [List.getElem?_append_right (by omega)] at hy
      have : k - l.length = 0 := by
        rcases Nat.eq_zero_or_pos (k - l.length) with q | q
        · exact q
        · rw [List.getElem?_eq_none (by simp; omega)] at hy; cases hy
      rw [this] at hy
      simp only [List.getElem?_cons_zero, Option.some.injEq] at hy
      have e : k = n := by omega
      subst e hy
      exact hx
section
variable {H : Type} {enc : TypeId × Value → H} {w : World} {base b0 : Nat} {held : Bool} {r : Reach} {v : Value} {d : DataW H} {ps : List MemPlace}
end
end Go.Proofs.Ytalmdccgpigppaa
namespace Go.Proofs.Ytalmdccgpigppaa
open Go.RowKit

theorem zeroMeter : (Try.prog.info? 217).map (fun i => (i.zero, i.size)) = some (some (.agg #[.int .i64 0, .int .i64 0, .int .i64 0, .int .i64 0, .int .i64 0, .int .i64 0]), 6) := by kernel_rfl

section
variable {P : Program} {f : FuncId} {fn : Func}
theorem run_call_swap (hf : P.funcs[f]? = some fn) (hname : (fn.name == "runtime.NumGoroutine") = false) (hb : fn.body.isNone = true) (hn : Extern.findNext fn = none) (k : IntKind)
    (he : Extern.find fn = some (Extern.Atomic.swapT (.int k))) {a : Addr} {x y : Int} {w : World} (hc : w.cell? a = some (.int k x)) (hz : w.frozen? a = false) :
    (callFunc f #[.pointer (some a), .int k y]).run P w = .ok (.value (.int k x)) (w.setCell a (.int k y)) := by
  rw [run_callFunc_extern hf hname hb hn he]
  change (Sem.run P (do
    let a' ← asAddr (.pointer (some a))
    let old ← Extern.Atomic.read (.int k) a'
    store a' (.int k y) .atomic
    pure old) w).andThen _ = _
  simp [Extern.Atomic.read, asAddr, hc, hz, run_store P w a (.int k y) .atomic rfl, Result.andThen]
end

theorem aadd_any (g k : Nat) (x y : Int) (w : World) (hc : w.cell? ⟨g, k, none⟩ = some (.int .i64 x)) (hz : w.frozen? ⟨g, k, none⟩ = false) :
    Calls Try.prog 148 #[.pointer (some ⟨g, k, none⟩), .int .i64 y] w fun e w' => e = .returned (.int .i64 (wrap64 (x + y))) ∧ w.setCell ⟨g, k, none⟩ (.int .i64 (wrap64 (x + y))) = w' := by
  have hl := run_call_add (P := Try.prog) Try.func150 (by kernel_rfl) (by kernel_rfl) (by kernel_rfl) .i64 (by kernel_rfl) (y := y) (s := wrap64 (x + y)) hc hz (by simp [go_sem, wrap64, IntKind.wrap_i64])
  generalize wrap64 (x + y) = z at *
  go_enter Try.func148, Try.ntmps148
  go_wp2
  go_ret
  exact ⟨rfl, rfl⟩
theorem has_yes (g : Nat) (kind : Int) (w : World) (h1 : 1 ≤ kind) (h2 : kind ≤ 6) : Calls Try.prog 147 #[.pointer (some ⟨g, 0, none⟩), .int .i64 kind] w fun e w' => e = .returned (.bool true) ∧ w = w' := by
  go_enter Try.func147, Try.ntmps147
  go_wp2
  go_ret
  exact ⟨rfl, rfl⟩
theorem has_no (g : Nat) (kind : Int) (w : World) (h : ¬ (1 ≤ kind ∧ kind ≤ 6)) : Calls Try.prog 147 #[.pointer (some ⟨g, 0, none⟩), .int .i64 kind] w fun e w' => e = .returned (.bool false) ∧ w = w' := by
  have h' : kind < 1 ∨ (1 ≤ kind ∧ 6 < kind) := by omega
  clear h
  rcases h' with h | ⟨h1, h2⟩
  all_goals
    go_enter Try.func147, Try.ntmps147
    go_wp2
    go_ret
    exact ⟨ret_bool (by first | (simp; done) | (simp; omega)), rfl⟩
theorem has_nil (kind : Int) (w : World) : Calls Try.prog 147 #[.pointer none, .int .i64 kind] w fun e w' => e = .returned (.bool false) ∧ w = w' := by
  go_enter Try.func147, Try.ntmps147
  go_wp2
  go_ret
  exact ⟨rfl, rfl⟩

def MeterAt (w : World) (g : Nat) (l : List Int) : Prop := l.length = 6 ∧ Blk w g 217 (l.map iv)
def mPut (l : List Int) (kind x : Int) : List Int := l.set (kind - 1).toNat x
def mGet (l : List Int) (kind : Int) : Int := l.getD (kind - 1).toNat 0
theorem mPut_len (l : List Int) (kind x : Int) : (mPut l kind x).length = l.length := by simp [mPut]
theorem MeterAt.cell {w : World} {g : Nat} {l : List Int} (h : MeterAt w g l) (k : Nat) (hk : k < 6) : w.cell? ⟨g, k, none⟩ = some (.int .i64 (mGet l ((k : Int) + 1))) := by
  rw [h.2.cell]
  have : k < l.length := by rw [h.1]; exact hk
  unfold mGet iv
  rw [show ((k : Int) + 1 - 1).toNat = k from by omega]
  simp [List.getD_eq_getElem?_getD, this]
theorem MeterAt.put {w : World} {g : Nat} {l : List Int} (h : MeterAt w g l) (k : Nat) (x : Int) : MeterAt (w.setCell ⟨g, k, none⟩ (.int .i64 x)) g (mPut l ((k : Int) + 1) x) := by
  refine ⟨by rw [mPut_len]; exact h.1, ?_⟩
  unfold mPut
  rw [show ((k : Int) + 1 - 1).toNat = k from by omega, List.map_set]
  exact h.2.set_ k _
theorem newmeter_any (w : World) : Calls Try.prog 108 #[] w fun e w' => e = .returned (.pointer (some ⟨w.heap.size, 0, none⟩)) ∧ MeterAt w' w.heap.size [0, 0, 0, 0, 0, 0] ∧ Below w.heap.size w w' ∧ w'.heap.size = w.heap.size + 1 := by
  have hbu : ∀ w : World, (Instr.build 217 #[]).run Try.prog w = .ok (.agg #[.int .i64 0, .int .i64 0, .int .i64 0, .int .i64 0, .int .i64 0, .int .i64 0]) w := fun w => run_build w _ _ _ (by kernel_rfl)
  go_enter Try.func108, Try.ntmps108
  go_wp2
  go_ret
  exact ⟨rfl, ⟨rfl, Blk.top _ rfl rfl⟩, (by (repeat' (first | (with_reducible exact Below.refl _ _) | (with_reducible assumption) | (with_reducible refine Below.drew ?_) | (with_reducible refine below_drewN ?_ _) | (with_reducible refine Below.alloc ?_ ?_ _) | (with_reducible refine Below.setCell ?_ ?_ _) | omega | (simp; done) | (simp; omega)))), by simp⟩

theorem add_yes (g : Nat) (l : List Int) (kind n : Int) (w : World) (hm : MeterAt w g l) (h1 : 1 ≤ kind) (h2 : kind ≤ 6) :
    Calls Try.prog 133 #[.pointer (some ⟨g, 0, none⟩), .int .i64 kind, .int .i64 n] w fun e w' => e = .returned (.bool true) ∧ MeterAt w' g (mPut l kind (wrap64 (mGet l kind + n))) ∧ w.grownBy w' (some g) ∧ w'.heap.size = w.heap.size := by
  obtain ⟨k, rfl⟩ : ∃ k : Nat, kind = (k : Int) + 1 := ⟨(kind - 1).toNat, by omega⟩
  have hk : k < 6 := by omega
  have hc := hm.cell k hk
  have hz := hm.2.frozen k
  have hp := fun x => Lib.hid (hm.put k x)
  generalize mGet l ((k : Int) + 1) = x at *
  have hput : ∀ x, Hid (MeterAt (w.setCell ⟨g, k, none⟩ (.int .i64 x)) g (mPut l ((k : Int) + 1) x)) := hp
  clear hp
  go_enter Try.func133, Try.ntmps133
  go_wp2_with (first
    | (go_at_call 147; (with_reducible refine (has_yes _ _ _ h1 h2).mono ?_); rintro e w1 ⟨rfl, rfl⟩)
    | (go_at_call 148; (with_reducible refine (aadd_any _ _ _ _ _ hc hz).mono ?_); rintro e w1 ⟨rfl, rfl⟩))
  go_ret
  exact ⟨rfl, (hput _).out, grown_setCell _, by simp [World.setCell]⟩
def mRaise (l : List Int) (kind n : Int) : List Int := if mGet l kind < n then mPut l kind n else l
/-- A kind that there is not, or a meter that is none. -/
def NoKind (A : Option Addr) (kind : Int) : Prop := (∃ g, A = some ⟨g, 0, none⟩ ∧ ¬ (1 ≤ kind ∧ kind ≤ 6)) ∨ A = none
theorem has_not (A : Option Addr) (kind : Int) (w : World) (h : NoKind A kind) : Calls Try.prog 147 #[.pointer A, .int .i64 kind] w fun e w' => e = .returned (.bool false) ∧ w = w' := by
  rcases h with ⟨g, rfl, h⟩ | rfl
  · exact has_no g kind w h
  · exact has_nil kind w
theorem add_no (A : Option Addr) (kind n : Int) (w : World) (h : NoKind A kind) : Calls Try.prog 133 #[.pointer A, .int .i64 kind, .int .i64 n] w fun e w' => e = .returned (.bool false) ∧ w = w' := by
  go_enter Try.func133, Try.ntmps133
  go_wp2_with (go_at_call 147; (with_reducible refine (has_not _ _ _ h).mono ?_); rintro e w1 ⟨rfl, rfl⟩)
  go_ret
  exact ⟨rfl, rfl⟩
end Go.Proofs.Ytalmdccgpigppaa
namespace Go.Proofs.Ytalmdccgpigppaa
open Go.RowKit
theorem MeterAt.alloc {w : World} {g : Nat} {l : List Int} (h : MeterAt w g l) (o : Obj) : MeterAt (w.alloc o) g l := ⟨h.1, h.2.alloc o⟩
theorem MeterAt.below {w w' : World} {g B : Nat} {l : List Int} (h : MeterAt w g l) (hb : Below B w w') (hg : g < B) : MeterAt w' g l := ⟨h.1, h.2.below hb hg⟩
theorem MeterAt.grown {w w' : World} {g : Nat} {row : Option Nat} {l : List Int} (h : MeterAt w g l) (hb : w.grownBy w' row) (hg : row ≠ some g) : MeterAt w' g l := ⟨h.1, h.2.grown hb hg⟩
theorem MeterAt.drewN {w : World} {g : Nat} {l : List Int} (h : MeterAt w g l) (n : Nat) : MeterAt (w.drewN n) g l := ⟨h.1, h.2.drewN n⟩
/-- Counts whatever the kind. -/
def inK (kind : Int) : Bool := decide (1 ≤ kind ∧ kind ≤ 6)
def mAdd (l : List Int) (kind n : Int) : List Int := if inK kind then mPut l kind (wrap64 (mGet l kind + n)) else l
def mCnt (l : List Int) (kind : Int) : Int := if inK kind then mGet l kind else 0
def mTake (l : List Int) (kind : Int) : List Int := if inK kind then mPut l kind 0 else l
def mRse (l : List Int) (kind n : Int) : List Int := if inK kind then mRaise l kind n else l
theorem inK_yes {kind : Int} (h : inK kind = true) : 1 ≤ kind ∧ kind ≤ 6 := by simpa [inK] using h
theorem inK_no {kind : Int} {g : Nat} (h : inK kind = false) : NoKind (some ⟨g, 0, none⟩) kind := .inl ⟨g, rfl, by simpa [inK] using h⟩
theorem add_any (g : Nat) (l : List Int) (kind n : Int) (w : World) (hm : MeterAt w g l) :
    Calls Try.prog 133 #[.pointer (some ⟨g, 0, none⟩), .int .i64 kind, .int .i64 n] w fun e w' => e = .returned (.bool (inK kind)) ∧ MeterAt w' g (mAdd l kind n) ∧ w.grownBy w' (some g) ∧ w'.heap.size = w.heap.size := by
  cases h : inK kind with
  | true => unfold mAdd; rw [if_pos h]; exact add_yes g l kind n w hm (inK_yes h).1 (inK_yes h).2
  | false => unfold mAdd; rw [if_neg (by simp [h])]; exact (add_no _ kind n w (inK_no h)).mono fun e w' ⟨he, hw⟩ => by subst hw; exact ⟨he, hm, World.grownBy.refl _ _, rfl⟩
theorem mGet_put {l : List Int} {kind x : Int} (hl : l.length = 6) (h : inK kind = true) : mGet (mPut l kind x) kind = x := by
  have := inK_yes h
  unfold mGet mPut
  have hk : (kind - 1).toNat < l.length := by omega
  generalize (kind - 1).toNat = q at *
  simp [List.getD_eq_getElem?_getD, hk]
theorem mGet_far {l : List Int} {k1 k2 x : Int} (h1 : inK k1 = true) (h2 : inK k2 = true) (hne : k1 ≠ k2) : mGet (mPut l k1 x) k2 = mGet l k2 := by
  have a := inK_yes h1
  have b := inK_yes h2
  unfold mGet mPut
  have hk : (k1 - 1).toNat ≠ (k2 - 1).toNat := by omega
  generalize (k1 - 1).toNat = q at *
  generalize (k2 - 1).toNat = r at *
  simp [List.getD_eq_getElem?_getD, List.getElem?_set_ne hk]
theorem mCnt_far {l : List Int} {k1 k2 : Int} (hne : k1 ≠ k2) (n m : Int) : mCnt (mTake (mRse (mAdd l k1 n) k1 m) k1) k2 = mCnt l k2 := by
  unfold mCnt
  cases h2 : inK k2 with
  | false => simp
  | true =>
    simp only [if_true]
    unfold mTake mRse mAdd mRaise
    cases h1 : inK k1 with
    | false => simp
    | true =>
      simp only [if_true]
      rw [mGet_far h1 h2 hne]
      split
      · rw [mGet_far h1 h2 hne, mGet_far h1 h2 hne]
      · rw [mGet_far h1 h2 hne]
theorem mCnt_take {l : List Int} (hl : l.length = 6) (kind : Int) : mCnt (mTake l kind) kind = 0 := by
  unfold mCnt mTake
  cases h : inK kind with
  | false => simp
  | true => simp only [if_true]; exact mGet_put hl h
theorem mCnt_add {l : List Int} (hl : l.length = 6) (kind n : Int) : mCnt (mAdd l kind n) kind = if inK kind then wrap64 (mCnt l kind + n) else 0 := by
  unfold mCnt mAdd
  cases h : inK kind with
  | false => simp
  | true => simp only [if_true]; exact mGet_put hl h
theorem wrap_take (s t c : Int) (h : c = wrap64 (s - t)) : 0 = wrap64 (s - wrap64 (t + c)) := by subst h; unfold wrap64; omega
theorem wrap_add (s t c n : Int) (h : c = wrap64 (s - t)) : wrap64 (c + n) = wrap64 (wrap64 (s + n) - t) := by subst h; unfold wrap64; omega

end Go.Proofs.Ytalmdccgpigppaa
