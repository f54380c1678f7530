/- Parts: ArgsProg. -/
import Derived.Test.YtpmkpckldnnigaaGreatPr07
import Derived.Test.YtpmkpckldnnigaaGreatPr03
namespace Go.Proofs.YtpmkpckldnnigaaGreat
open Go.ChangeShapes Go.WideShapes Go.RowKit Go.Deep

theorem rdS_of_ints {α : Type} {size : Nat} {enc : α → List Value} {w : World} {A : Option Addr} {n : Nat} {zs : List Int} (henc : ∀ x, (enc x).length = size) (h0 : 0 < size) (mk : (Nat → Int) → α)
    (hmk : ∀ g j, j < size → (enc (mk g))[j]? = some (.int .i64 (g j))) (hrow : Row w A (n * size) (fun i => .int .i64 (zs.getD i 0))) :
    RdS size enc w A n ((List.range n).map fun k => mk (fun j => zs.getD (k * size + j) 0)) := by
  refine ⟨by simp, by rw [flat_len henc]; simp, hrow.congr fun i hi => ?_⟩
  have hk : i / size < n := Nat.div_lt_of_lt_mul (by rw [Nat.mul_comm]; exact hi)
  have hj : i % size < size := Nat.mod_lt _ h0
  have e : i / size * size + i % size = i := by rw [Nat.mul_comm]; exact Nat.div_add_mod i size
  have h := flat_at henc hj ((List.range n).map fun k => mk (fun j => zs.getD (k * size + j) 0)) (i / size) (mk (fun j => zs.getD (i / size * size + j) 0)) (by simp [hk])
  rw [e, hmk _ _ hj, e] at h
  generalize List.flatMap enc _ = F at *
  show _ = F.getD i undef
  generalize zs.getD i 0 = z at *
  rw [List.getD_eq_getElem?_getD, h]
  rfl

def I64 (z : Int) : Prop := -9223372036854775808 ≤ z ∧ z ≤ 9223372036854775807
structure ProgAll (p : PV) : Prop where
  ins : ∀ z ∈ p.ins, I64 z
  outs : ∀ z ∈ p.outs, I64 z
  regs : I64 p.regs
  cells : ∀ x ∈ p.cells, I64 x.1 ∧ I64 x.2
  code : ∀ x ∈ p.code, I64 x.op ∧ I64 x.a ∧ I64 x.b ∧ I64 x.c ∧ I64 x.k
theorem getD_I64 {zs : List Int} (h : ∀ z ∈ zs, I64 z) (i : Nat) : I64 (zs.getD i 0) := by
  rw [List.getD_eq_getElem?_getD]
  rcases Nat.lt_or_ge i zs.length with h1 | h1
  · rw [List.getElem?_eq_getElem h1]; exact h _ (List.getElem_mem h1)
  · rw [List.getElem?_eq_none h1]; exact ⟨by decide, by decide⟩
section
variable {H : Type} {enc : TypeId × Value → H} {w : World} {base b0 : Nat} {held : Bool} {r : Reach} {v : Value} {d : DataW H} {ps : List MemPlace}
set_option maxRecDepth 100000 in
theorem args_prog (hval : Value.okWide Tryz.prog w r b0 27 v) (hd : DataW.Trod enc Tryz.prog w base (fun _ => true) held 27 v d ps) :
    ∃ x p, v = .agg #[.slice x.A1 x.n1 x.c1, .slice x.A2 x.n2 x.c2, .int .i64 p.regs, .slice x.A3 x.n3 x.c3, .slice x.A4 x.n4 x.c4] ∧ ProgRd w x p ∧ ProgAll p := by
  obtain ⟨vs, n, rfl, hlen, hf⟩ := open_agg Tryz.underlying27 (by kernel_rfl) (by kernel_rfl) hval hd
  match vs, hlen with
  | [v0, v1, v2, v3, v4], _ =>
    obtain ⟨u0, y0, e0, t0⟩ := hf 0 _ rfl
    obtain ⟨u1, y1, e1, t1⟩ := hf 1 _ rfl
    obtain ⟨u2, y2, e2, t2⟩ := hf 2 _ rfl
    obtain ⟨u3, y3, e3, t3⟩ := hf 3 _ rfl
    obtain ⟨u4, y4, e4, t4⟩ := hf 4 _ rfl
    injection e0 with e0; injection e1 with e1; injection e2 with e2; injection e3 with e3; injection e4 with e4
    subst e0 e1 e2 e3 e4
    obtain ⟨A1, n1, c1, l1, rfl, r1, k1, m1, w1⟩ := trod_ints Tryz.underlying23 Tryz.underlying3 (by kernel_rfl) t0
    obtain ⟨A2, n2, c2, l2, rfl, r2, k2, m2, w2⟩ := trod_ints Tryz.underlying23 Tryz.underlying3 (by kernel_rfl) t1
    obtain ⟨z, hz, _, hw⟩ := DataW.trod_int Tryz.underlying3 t2
    have hz : v2 = .int .i64 z := by simpa using hz
    subst hz
    obtain ⟨A3, n3, c3, l3, rfl, _, r3, k3, m3, w3⟩ := trod_structs (k := 2) Tryz.underlying24 Tryz.underlying196 (by kernel_rfl) (by kernel_rfl) rfl (fun j f h => by
      match j, h with
      | 0, h => simp at h; subst h; exact Tryz.underlying3
      | 1, h => simp at h; subst h; exact Tryz.underlying3
      | k + 2, h => simp at h) t3
    obtain ⟨A4, n4, c4, l4, rfl, _, r4, k4, m4, w4⟩ := trod_structs (k := 5) Tryz.underlying25 Tryz.underlying133 (by kernel_rfl) (by kernel_rfl) rfl (fun j f h => by
      match j, h with
      | 0, h => simp at h; subst h; exact Tryz.underlying3
      | 1, h => simp at h; subst h; exact Tryz.underlying3
      | 2, h => simp at h; subst h; exact Tryz.underlying3
      | 3, h => simp at h; subst h; exact Tryz.underlying3
      | 4, h => simp at h; subst h; exact Tryz.underlying3
      | k + 5, h => simp at h) t4
    have q3 := rdS_of_ints cellE_len (by omega) (fun g => (g 0, g 1)) (fun g j hj => by
      match j, hj with
      | 0, _ => rfl
      | 1, _ => rfl) r3
    have q4 := rdS_of_ints insE_len (by omega) (fun g => (⟨g 0, g 1, g 2, g 3, g 4⟩ : Ins)) (fun g j hj => by
      match j, hj with
      | 0, _ => rfl
      | 1, _ => rfl
      | 2, _ => rfl
      | 3, _ => rfl
      | 4, _ => rfl) r4
    refine ⟨⟨A1, n1, c1, A2, n2, c2, A3, n3, c3, A4, n4, c4⟩, ⟨l1, l2, z, _, _⟩, rfl, ⟨r1, r2, q3, q4, ⟨k1, m1⟩, ⟨k2, m2⟩, ⟨k3, m3⟩, ⟨k4, m4⟩⟩, w1, w2, bounds_i64 hw, fun x hx => ?_, fun x hx => ?_⟩
    · obtain ⟨k, _, rfl⟩ := List.mem_map.1 hx
      exact ⟨getD_I64 w3 _, getD_I64 w3 _⟩
    · obtain ⟨k, _, rfl⟩ := List.mem_map.1 hx
      exact ⟨getD_I64 w4 _, getD_I64 w4 _, getD_I64 w4 _, getD_I64 w4 _, getD_I64 w4 _⟩
end
end Go.Proofs.YtpmkpckldnnigaaGreat
