/- How arguments are opened: numbers, bools, strings, slices of bytes and of numbers, small structs and arrays. -/
import Derived.Test.YtninidpbchcliaaMem
import Derived.Test.YtninidpbchcliaaRows
import Derived.ProofKit
import Derived.OpenShut
import Derived.Lib.SmallJoins
namespace Go.Proofs.Ytninidpbchcliaa
open Go.RowKit Go.WideShapes Go.ChangeShapes

theorem spot_none {w : World} {a : Addr} {v : Value} (h : w.cell? a = some v) : a.spot = none := by
  unfold World.cell? at h
  split at h
  · split at h
    · cases h
    · rename_i hs; simpa using hs
  · cases h

section
variable {H : Type} {enc : TypeId × Value → H} {P : Program} {w : World} {base b0 : Nat} {spare : Nat → Bool} {held : Bool} {r : Reach} {v : Value} {d : DataW H} {ps : List MemPlace}

theorem args_int {t : TypeId} {k : IntKind} (ht : P.underlying t = some (.int k)) (hval : Value.okWide P w r b0 t v) (hd : DataW.Trod enc P w base spare held t v d ps) :
    ∃ n, v = .int k n ∧ (Lit.int k n).wf = true := by
  obtain ⟨n, h, _, _, hw⟩ := open_int ht hval hd
  exact ⟨n, h, hw⟩
theorem args_bool {t : TypeId} (ht : P.underlying t = some .bool) (hval : Value.okWide P w r b0 t v) (hd : DataW.Trod enc P w base spare held t v d ps) : ∃ b, v = .bool b := by
  obtain ⟨n, h, _⟩ := open_bool ht hval hd
  exact ⟨n, h⟩
theorem args_string {t : TypeId} (ht : P.underlying t = some .string) (hval : Value.okWide P w r b0 t v) (hd : DataW.Trod enc P w base spare held t v d ps) : ∃ s, v = .string s ∧ s.size ≤ maxLen := by
  obtain ⟨n, h, _, _, hl⟩ := Go.ChangeMaps.open_string ht hval hd
  exact ⟨n, h, hl⟩

theorem row_of_ints {k : IntKind} {x : Addr} {len : Nat} {zs : List Int} (hz : len ≤ zs.length) (hcell : ∀ i, i < zs.length → w.cell? (x.add i) = some (.int k (zs.getD i 0))) :
    Row w (some x) len (fun i => .int k (zs.getD i 0)) := by
  intro h0
  have h := hcell 0 (by omega)
  have hs : x.spot = none := spot_none (a := x) (by simpa [Addr.add] using h)
  obtain ⟨b, o, s⟩ := x
  simp only at hs
  subst hs
  refine ⟨b, o, rfl, ?_, fun i hi => ?_⟩
  · exact World.block_lt_of_cell? w ⟨b, o, none⟩ (by simpa [Addr.add] using h)
  · have := hcell i (by omega)
    have hadd : (⟨b, o, none⟩ : Addr).add i = ⟨b, o + i, none⟩ := by unfold Addr.add; split <;> simp_all
    rwa [hadd] at this

theorem args_ints_of {t e : TypeId} {k : IntKind} (ht : P.underlying t = some (.slice e)) (he : P.underlying e = some (.int k)) (hc : P.cellsOf e = 1) (hval : Value.okWide P w r b0 t v)
    (hd : DataW.Trod enc P w base (fun _ => true) held t v d ps) :
    ∃ A n c, ∃ zs : List Int, v = .slice A n c ∧ zs.length = n ∧ Row w A n (fun i => .int k (zs.getD i 0)) ∧ n ≤ c ∧ c ≤ maxLen ∧ (∀ z ∈ zs, (Lit.int k z).wf = true) := by
  obtain ⟨a0, len, cap, rfl⟩ := okWide_slice ht hval
  obtain ⟨fuel, hf⟩ := hd
  rcases open_ints ht he hc hf with ⟨hcs, _⟩ | ⟨x, l, c, zs, hcs, _, hl, hm, hz, _, hcell, hwz⟩
  · simp [Value.cells] at hcs
    obtain ⟨rfl, rfl, rfl⟩ := hcs
    exact ⟨none, 0, 0, [], rfl, rfl, Row.nil _ _ _, Nat.le_refl _, by unfold maxLen; omega, by simp⟩
  · simp [Value.cells] at hcs
    obtain ⟨rfl, rfl, rfl⟩ := hcs
    simp only [if_true] at hz
    refine ⟨some x, len, cap, zs.take len, rfl, by simp; omega, (row_of_ints (by omega) hcell).congr fun i hi => ?_, hl, hm, fun z hzm => hwz z (List.mem_of_mem_take hzm)⟩
    simp [List.getD_eq_getElem?_getD, hi]

theorem args_bytes {t e : TypeId} (ht : P.underlying t = some (.slice e)) (he : P.underlying e = some (.int .u8)) (hc : P.cellsOf e = 1) (hval : Value.okWide P w r b0 t v)
    (hd : DataW.Trod enc P w base (fun _ => true) held t v d ps) :
    ∃ A n c l, v = .slice A n c ∧ RB w A n l ∧ n ≤ c ∧ c ≤ maxLen := by
  obtain ⟨A, n, c, zs, rfl, hlen, hrow, hnc, hm, hwf⟩ := args_ints_of ht he hc hval hd
  refine ⟨A, n, c, zs.map fun z => UInt8.ofNat z.toNat, rfl, ⟨by simpa using hlen, hrow.congr fun i hi => ?_⟩, hnc, hm⟩
  have hi' : i < zs.length := by omega
  have hb := bounds_u8 (hwf _ (List.getElem_mem hi'))
  simp only [byteAt, List.getD_eq_getElem?_getD, List.getElem?_map, List.getElem?_eq_getElem hi', Option.map_some, Option.getD_some]
  congr 1
  rw [UInt8.toNat_ofNat_of_lt' (by simp [UInt8.size]; omega)]
  omega

theorem args_ints {t e : TypeId} (ht : P.underlying t = some (.slice e)) (he : P.underlying e = some (.int .i64)) (hc : P.cellsOf e = 1) (hval : Value.okWide P w r b0 t v)
    (hd : DataW.Trod enc P w base (fun _ => true) held t v d ps) :
    ∃ A n c l, v = .slice A n c ∧ RI w A n l ∧ n ≤ c ∧ c ≤ maxLen ∧ (∀ z ∈ l, -9223372036854775808 ≤ z ∧ z ≤ 9223372036854775807) := by
  obtain ⟨A, n, c, zs, rfl, hlen, hrow, hnc, hm, hwf⟩ := args_ints_of ht he hc hval hd
  exact ⟨A, n, c, zs, rfl, ⟨hlen, hrow⟩, hnc, hm, fun z hz => bounds_i64 (hwf z hz)⟩
theorem args_array {n : Nat} {t e : TypeId} {k : IntKind} (ht : P.underlying t = some (.array n e)) (he : P.underlying e = some (.int k)) (hc : P.cellsOf e = 1) (hct : P.cellsOf t = n) (hval : Value.okWide P w r b0 t v)
    (hd : DataW.Trod enc P w base spare held t v d ps) : ∃ zs : List Int, v = .agg (zs.map (Value.int k)).toArray ∧ zs.length = n ∧ ∀ z ∈ zs, (Lit.int k z).wf = true := by
  simp only [Value.okWide, ht] at hval
  obtain ⟨cs, rfl, hsz, _⟩ := hval
  obtain ⟨fuel, hf⟩ := hd
  obtain ⟨xs, m, _, _, hcl, hxl, hat⟩ := DataW.trod_array ht hf
  simp only [Value.cells, hct] at hcl hat
  have hl : cs.toList.length = n := by simpa using hcl
  have hall : ∀ i, i < n → ∃ z, cs.toList[i]? = some (.int k z) ∧ (Lit.int k z).wf = true := by
    intro i hi
    have h := hat i hi
    rw [hc, Nat.mul_one] at h
    have hx : xs[i]? = some (xs[i]'(by omega)) := List.getElem?_eq_getElem (by omega)
    rw [hx] at h
    obtain ⟨z, hz, _, hw⟩ := DataW.trod_int he h
    have h1 : cs.toList.drop i = cs.toList[i]'(by omega) :: cs.toList.drop (i + 1) := List.drop_eq_getElem_cons (by omega)
    rw [h1] at hz
    simp only [List.take_succ_cons, List.take_zero, List.cons.injEq, and_true] at hz
    exact ⟨z, by rw [List.getElem?_eq_getElem (by omega), hz], hw⟩
  refine ⟨cs.toList.map fun v => match v with | .int _ z => z | _ => 0, ?_, by simpa using hl, fun z hz => ?_⟩
  · congr 1
    apply Array.ext_getElem?
    intro i
    rw [← Array.getElem?_toList]
    simp only [List.getElem?_toArray, List.getElem?_map]
    rcases Nat.lt_or_ge i n with hi | hi
    · obtain ⟨z, hz, _⟩ := hall i hi
      rw [hz]; rfl
    · rw [List.getElem?_eq_none (by omega)]; rfl
  · obtain ⟨v, hv, rfl⟩ := List.mem_map.1 hz
    obtain ⟨i, hi, rfl⟩ := List.mem_iff_getElem.1 hv
    obtain ⟨z, hz, hw⟩ := hall i (by omega)
    rw [List.getElem?_eq_getElem hi] at hz
    injection hz with hz
    rw [hz]; exact hw
theorem args_byteArray {n : Nat} {t e : TypeId} (ht : P.underlying t = some (.array n e)) (he : P.underlying e = some (.int .u8)) (hc : P.cellsOf e = 1) (hct : P.cellsOf t = n) (hval : Value.okWide P w r b0 t v)
    (hd : DataW.Trod enc P w base spare held t v d ps) : ∃ l : List UInt8, v = .agg (l.map bv).toArray ∧ l.length = n := by
  obtain ⟨zs, rfl, hl, hw⟩ := args_array ht he hc hct hval hd
  refine ⟨zs.map fun z => UInt8.ofNat z.toNat, ?_, by simpa using hl⟩
  congr 2
  rw [List.map_map]
  apply List.map_congr_left
  intro z hz
  have hb := bounds_u8 (hw z hz)
  show Value.int .u8 z = Value.int .u8 ((UInt8.ofNat z.toNat).toNat : Int)
  congr 1
  rw [UInt8.toNat_ofNat_of_lt' (by simp [UInt8.size]; omega)]
  omega
end
end Go.Proofs.Ytninidpbchcliaa
