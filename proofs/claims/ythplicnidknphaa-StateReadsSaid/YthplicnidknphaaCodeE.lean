/- Contracts of package code and of its reference: are two programs one? -/
import Derived.Test.YthplicnidknphaaPlainCode
import Derived.Test.YthplicnidknphaaInts
import Derived.Test.YthplicnidknphaaBlk
namespace Go.Proofs.Ythplicnidknphaa
open Go.RowKit

theorem eqFields_ints {P : Program} (w : World) {it : TypeId} (hit : P.underlying it = some (.int .i64)) (hk : P.plainKey it = true) (d : Nat) (xs ys : List Int) : ∀ fs : List Field,
    (∀ f ∈ fs, f.type = it ∧ f.name ≠ "_" ∧ f.offset < xs.length ∧ f.offset < ys.length) →
    (Op.eqFields (d + 1) (xs.map iv).toArray (ys.map iv).toArray fs).run P w = .ok (fs.all fun f => xs.getD f.offset 0 == ys.getD f.offset 0) w := by
  intro fs
  induction fs with
  | nil => intro _; simp [Op.eqFields]
  | cons f fs ih =>
    intro h
    obtain ⟨h1, h2, h3, h4⟩ := h f (by simp)
    have e1 : (xs.map iv).toArray[f.offset]? = some (iv (xs.getD f.offset 0)) := by simp [List.getD_eq_getElem?_getD, h3]
    have e2 : (ys.map iv).toArray[f.offset]? = some (iv (ys.getD f.offset 0)) := by simp [List.getD_eq_getElem?_getD, h4]
    have h5 : (Op.equalIn (d + 1) f.type (iv (xs.getD f.offset 0)) (iv (ys.getD f.offset 0))).run P w = .ok (xs.getD f.offset 0 == ys.getD f.offset 0) w := by
      rw [h1]; exact run_equalIn_int w d it .i64 .i64 _ _ hit
    simp only [Op.eqFields, h2, ne_eq, not_false_eq_true, if_true, Sem.run_bind, run_part_plain w (h1 ▸ hk) e1, run_part_plain w (h1 ▸ hk) e2, Result.andThen_ok, h5, List.all_cons]
    cases hb : (xs.getD f.offset 0 == ys.getD f.offset 0) with
    | false => simp
    | true =>
      simp only [Bool.not_true, Bool.false_eq_true, if_false, Bool.true_and]
      exact ih fun g hg => h g (by simp [hg])
/-- '==' of two structs of numbers. -/
theorem run_eq_ints {P : Program} (w : World) {t it : TypeId} (hit : P.underlying it = some (.int .i64)) (hk : P.plainKey it = true) {fs : Array Field} (ht : P.underlying t = some (.struct fs)) (hp : P.stoodInHeld t = false) (n : Nat)
    (hfs : (fs.toList.all fun f => f.type == it && (f.name != "_" && decide (f.offset < n))) = true) (hoff : fs.toList.map (·.offset) = List.range n) (xs ys : List Int) (hx : xs.length = n) (hy : ys.length = n) :
    (Op.equalIn 10000 t (.agg (xs.map iv).toArray) (.agg (ys.map iv).toArray)).run P w = .ok (decide (xs = ys)) w := by
  have hfo : P.fieldsOf t = fs := by unfold Program.fieldsOf; rw [ht]
  rw [show 10000 = 9999 + 1 from rfl, run_equalIn_struct w 9999 _ _ _ (by rw [hfo]; exact ht) hp, hfo, show 9999 = 9998 + 1 from rfl,
    eqFields_ints w hit hk 9998 xs ys fs.toList (fun f hf => by
      have := List.all_eq_true.1 hfs f hf
      simp only [Bool.and_eq_true, beq_iff_eq, bne_iff_ne, decide_eq_true_eq] at this
      exact ⟨this.1, this.2.1, by omega, by omega⟩)]
  congr 1
  have : (fs.toList.all fun f => xs.getD f.offset 0 == ys.getD f.offset 0) = ((fs.toList.map (·.offset)).all fun o => xs.getD o 0 == ys.getD o 0) := by rw [List.all_map]; rfl
  rw [this, hoff, Bool.eq_iff_iff, decide_eq_true_eq, List.all_eq_true]
  constructor
  · intro h
    apply List.ext_getElem (by omega)
    intro i h1 h2
    have := h i (List.mem_range.2 (by omega))
    simpa [List.getD_eq_getElem?_getD, h1, h2] using this
  · rintro rfl i _; simp
set_option maxRecDepth 100000 in
theorem run_eq_cell (x y : Int × Int) (w : World) : (Op.equalIn 10000 96 (.agg #[.int .i64 x.1, .int .i64 x.2]) (.agg #[.int .i64 y.1, .int .i64 y.2])).run Try.prog w = .ok (decide (x = y)) w := by
  have h := run_eq_ints (P := Try.prog) w Try.underlying3 (by kernel_rfl) Try.underlying96 (by kernel_rfl) 2 (by kernel_rfl) (by kernel_rfl) [x.1, x.2] [y.1, y.2] rfl rfl
  have e : decide ([x.1, x.2] = [y.1, y.2]) = decide (x = y) := by
    rw [decide_eq_decide]
    constructor
    · intro h; injection h with h1 h; injection h with h2 _; exact Prod.ext h1 h2
    · rintro rfl; rfl
  exact h.trans (congrArg (fun b => Result.ok b w) e)
set_option maxRecDepth 100000 in
theorem run_eq_ins (x y : Ins) (w : World) : (Op.equalIn 10000 100 (.agg #[.int .i64 x.op, .int .i64 x.a, .int .i64 x.b, .int .i64 x.c, .int .i64 x.k]) (.agg #[.int .i64 y.op, .int .i64 y.a, .int .i64 y.b, .int .i64 y.c, .int .i64 y.k])).run Try.prog w = .ok (decide (x = y)) w := by
  have h := run_eq_ints (P := Try.prog) w Try.underlying3 (by kernel_rfl) Try.underlying100 (by kernel_rfl) 5 (by kernel_rfl) (by kernel_rfl) [x.op, x.a, x.b, x.c, x.k] [y.op, y.a, y.b, y.c, y.k] rfl rfl
  have e : decide ([x.op, x.a, x.b, x.c, x.k] = [y.op, y.a, y.b, y.c, y.k]) = decide (x = y) := by
    rw [decide_eq_decide]
    constructor
    · intro h
      injection h with h1 h; injection h with h2 h; injection h with h3 h; injection h with h4 h; injection h with h5 _
      cases x; cases y; simp_all
    · rintro rfl; rfl
  exact h.trans (congrArg (fun b => Result.ok b w) e)
set_option maxHeartbeats 400000 in
theorem eqints_any (A B : Option Addr) (n m c d : Nat) (l k : List Int) (w : World) (ha : RI w A n l) (hb : RI w B m k) (hn : n ≤ maxLen) :
    Calls Try.prog 73 #[.slice A n c, .slice B m d] w fun e w' => e = .returned (.bool (decide (l = k))) ∧ ∃ q, w' = w.drewN q := by
  unfold maxLen at hn
  by_cases hnm : n = m
  · subst hnm
    have hlen : l.length = k.length := ha.1.trans hb.1.symm
    have hl := Lib.hid ha.1
    have hk := Lib.hid hlen
    have hnn : (((n : Nat) : Int) != (n : Int)) = false := by simp
    clear hlen
    generalize hz : decide (l = k) = z
    have Hz := Lib.hid hz; clear hz
    go_enter Try.func73, Try.ntmps73
    go_wp2
    go_loopw [13] (fun i wr => ∃ j q, j ≤ n ∧ i = .int .i64 (j : Nat) ∧ Hid (∀ i, i < j → intAt l i = intAt k i) ∧ wr = w.drewN q) (fun i _ => n - (intOf i).toNat)
    case atStart => exact ⟨0, 0, Nat.zero_le _, rfl, fun i hi => absurd hi (by omega), rfl⟩
    case round =>
      obtain ⟨j, q, hj, rfl, hall, rfl⟩ := hrel
      by_cases hlt : j < n
      · obtain ⟨b0, o0, rfl, _, hc0⟩ := ha.at_ hlt
        obtain ⟨b1, o1, rfl, _, hc1⟩ := hb.at_ hlt
        have hlt' : (j : Int) < n := by omega
        by_cases heq : intAt l j = intAt k j
        · have hE := Lib.hid heq
          have hne : ((intAt l j) != (intAt k j)) = false := by simp [heq]
          clear heq
          go_wp2
          go_quiet (fail)
          go_wp2
          go_roundw
          case rel =>
            refine ⟨j + 1, q + nq, by omega, by go_num, fun i hi => ?_, rfl⟩
            rcases Nat.lt_or_ge i j with h | h
            · exact hall.out i h
            · rw [show i = j from by omega]; exact hE.out
          case measure => simp [intOf]; omega
        · have hE := Lib.hid heq
          have hne : ((intAt l j) != (intAt k j)) = true := by
            rw [bne_iff_ne]; exact heq
          clear heq
          go_wp2
          go_quiet (fail)
          go_wp2
          go_ret
          refine ⟨ret_bool ?_, q + nq, World.drewN_drewN _ _ _⟩
          rw [← Hz.out, eq_comm, decide_eq_false_iff_not]
          rintro rfl
          exact hE.out rfl
      · go_wp2
        go_ret
        refine ⟨ret_bool ?_, _, rfl⟩
        rw [← Hz.out, eq_comm, decide_eq_true_eq]
        exact intAt_inj hk.out (fun i hi => hall.out i (by have := hl.out; omega))
  · have hne : (((n : Nat) : Int) != (m : Int)) = true := by rw [bne_iff_ne]; omega
    have hz : decide (l = k) = false := by
      rw [decide_eq_false_iff_not]; rintro rfl; exact hnm (ha.1.symm.trans hb.1)
    rw [hz]
    clear hz hnm
    go_enter Try.func73, Try.ntmps73
    go_wp2
    go_ret
    exact ⟨rfl, 0, rfl⟩

set_option maxHeartbeats 1000000 in
theorem eqcells_any (A B : Option Addr) (n m c d : Nat) (l k : List (Int × Int)) (w : World) (ha : RdS 2 cellE w A n l) (hb : RdS 2 cellE w B m k) (hn : n ≤ maxLen) :
    Calls Try.prog 85 #[.slice A n c, .slice B m d] w fun e w' => e = .returned (.bool (decide (l = k))) ∧ ∃ q, w' = w.drewN q := by
  unfold maxLen at hn
  by_cases hnm : n = m
  · subst hnm
    have hl := Lib.hid ha.1
    have hk := Lib.hid hb.1
    have hnn : (((n : Nat) : Int) != (n : Int)) = false := by simp
    generalize hz : decide (l = k) = z
    have Hz := Lib.hid hz; clear hz
    go_enter Try.func85, Try.ntmps85
    go_wp2
    go_loopw [13] (fun i wr => ∃ j q, j ≤ n ∧ i = .int .i64 (j : Nat) ∧ Hid (∀ i, i < j → l[i]? = k[i]?) ∧ wr = w.drewN q) (fun i _ => n - (intOf i).toNat)
    case atStart => exact ⟨0, 0, Nat.zero_le _, rfl, fun i hi => absurd hi (by omega), rfl⟩
    case round =>
      obtain ⟨j, q, hj, rfl, hall, rfl⟩ := hrel
      by_cases hlt : j < n
      · obtain ⟨b0, o0, x, rfl, _, hx, hc0⟩ := ha.at_ cellE_len (by omega) hlt
        obtain ⟨b1, o1, y, rfl, _, hy, hc1⟩ := hb.at_ cellE_len (by omega) hlt
        have p0 : w.cell? ⟨b0, o0 + j * 2, none⟩ = some (.int .i64 x.1) := hc0 0 (by omega)
        have q0 : w.cell? ⟨b1, o1 + j * 2, none⟩ = some (.int .i64 y.1) := hc1 0 (by omega)
        have p1 : w.cell? ⟨b0, o0 + j * 2 + 1, none⟩ = some (.int .i64 x.2) := hc0 1 (by omega)
        have q1 : w.cell? ⟨b1, o1 + j * 2 + 1, none⟩ = some (.int .i64 y.2) := hc1 1 (by omega)
        have hlt' : (j : Int) < n := by omega
        have hj0 : (0 : Int) ≤ (j : Int) := by omega
        have heq := fun w => run_eq_cell x y w
        have Hx := Lib.hid hx
        have Hy := Lib.hid hy
        clear hc0 hc1 hx hy
        cases hxy : decide (x = y) with
        | true =>
          have hE : Hid (x = y) := Lib.hid (of_decide_eq_true hxy)
          rw [hxy] at heq
          clear hxy
          go_wp2
          go_quiet (fail)
          go_wp2
          go_roundw
          case rel =>
            refine ⟨j + 1, q + nq, by omega, by go_num, fun i hi => ?_, rfl⟩
            rcases Nat.lt_or_ge i j with h | h
            · exact hall.out i h
            · rw [show i = j from by omega, Hx.out, Hy.out, hE.out]
          case measure => simp [intOf]; omega
        | false =>
          have hE : Hid (x ≠ y) := Lib.hid (of_decide_eq_false hxy)
          rw [hxy] at heq
          clear hxy
          go_wp2
          go_quiet (fail)
          go_wp2
          go_ret
          refine ⟨ret_bool ?_, q + nq, World.drewN_drewN _ _ _⟩
          rw [← Hz.out, eq_comm, decide_eq_false_iff_not]
          rintro rfl
          have h1 := Hx.out
          rw [Hy.out] at h1
          exact hE.out (Option.some.inj h1).symm
      · go_wp2
        go_ret
        refine ⟨ret_bool ?_, _, rfl⟩
        rw [← Hz.out, eq_comm, decide_eq_true_eq]
        apply List.ext_getElem?
        intro i
        rcases Nat.lt_or_ge i j with h | h
        · exact hall.out i h
        · rw [List.getElem?_eq_none (by rw [hl.out]; omega), List.getElem?_eq_none (by rw [hk.out]; omega)]
  · have hne : (((n : Nat) : Int) != (m : Int)) = true := by rw [bne_iff_ne]; omega
    have hz : decide (l = k) = false := by
      rw [decide_eq_false_iff_not]; rintro rfl; exact hnm (ha.1.symm.trans hb.1)
    rw [hz]
    clear hz hnm
    go_enter Try.func85, Try.ntmps85
    go_wp2
    go_ret
    exact ⟨rfl, 0, rfl⟩

set_option maxHeartbeats 1000000 in
theorem eqins_any (A B : Option Addr) (n m c d : Nat) (l k : List (Ins)) (w : World) (ha : RdS 5 insE w A n l) (hb : RdS 5 insE w B m k) (hn : n ≤ maxLen) :
    Calls Try.prog 86 #[.slice A n c, .slice B m d] w fun e w' => e = .returned (.bool (decide (l = k))) ∧ ∃ q, w' = w.drewN q := by
  unfold maxLen at hn
  by_cases hnm : n = m
  · subst hnm
    have hl := Lib.hid ha.1
    have hk := Lib.hid hb.1
    have hnn : (((n : Nat) : Int) != (n : Int)) = false := by simp
    generalize hz : decide (l = k) = z
    have Hz := Lib.hid hz; clear hz
    go_enter Try.func86, Try.ntmps86
    go_wp2
    go_loopw [13] (fun i wr => ∃ j q, j ≤ n ∧ i = .int .i64 (j : Nat) ∧ Hid (∀ i, i < j → l[i]? = k[i]?) ∧ wr = w.drewN q) (fun i _ => n - (intOf i).toNat)
    case atStart => exact ⟨0, 0, Nat.zero_le _, rfl, fun i hi => absurd hi (by omega), rfl⟩
    case round =>
      obtain ⟨j, q, hj, rfl, hall, rfl⟩ := hrel
      by_cases hlt : j < n
      · obtain ⟨b0, o0, x, rfl, _, hx, hc0⟩ := ha.at_ insE_len (by omega) hlt
        obtain ⟨b1, o1, y, rfl, _, hy, hc1⟩ := hb.at_ insE_len (by omega) hlt
        have p0 : w.cell? ⟨b0, o0 + j * 5, none⟩ = some (.int .i64 x.op) := hc0 0 (by omega)
        have q0 : w.cell? ⟨b1, o1 + j * 5, none⟩ = some (.int .i64 y.op) := hc1 0 (by omega)
        have p1 : w.cell? ⟨b0, o0 + j * 5 + 1, none⟩ = some (.int .i64 x.a) := hc0 1 (by omega)
        have q1 : w.cell? ⟨b1, o1 + j * 5 + 1, none⟩ = some (.int .i64 y.a) := hc1 1 (by omega)
        have p2 : w.cell? ⟨b0, o0 + j * 5 + 2, none⟩ = some (.int .i64 x.b) := hc0 2 (by omega)
        have q2 : w.cell? ⟨b1, o1 + j * 5 + 2, none⟩ = some (.int .i64 y.b) := hc1 2 (by omega)
        have p3 : w.cell? ⟨b0, o0 + j * 5 + 3, none⟩ = some (.int .i64 x.c) := hc0 3 (by omega)
        have q3 : w.cell? ⟨b1, o1 + j * 5 + 3, none⟩ = some (.int .i64 y.c) := hc1 3 (by omega)
        have p4 : w.cell? ⟨b0, o0 + j * 5 + 4, none⟩ = some (.int .i64 x.k) := hc0 4 (by omega)
        have q4 : w.cell? ⟨b1, o1 + j * 5 + 4, none⟩ = some (.int .i64 y.k) := hc1 4 (by omega)
        have hlt' : (j : Int) < n := by omega
        have hj0 : (0 : Int) ≤ (j : Int) := by omega
        have heq := fun w => run_eq_ins x y w
        have Hx := Lib.hid hx
        have Hy := Lib.hid hy
        clear hc0 hc1 hx hy
        cases hxy : decide (x = y) with
        | true =>
          have hE : Hid (x = y) := Lib.hid (of_decide_eq_true hxy)
          rw [hxy] at heq
          clear hxy
          go_wp2
          go_quiet (fail)
          go_wp2
          go_roundw
          case rel =>
            refine ⟨j + 1, q + nq, by omega, by go_num, fun i hi => ?_, rfl⟩
            rcases Nat.lt_or_ge i j with h | h
            · exact hall.out i h
            · rw [show i = j from by omega, Hx.out, Hy.out, hE.out]
          case measure => simp [intOf]; omega
        | false =>
          have hE : Hid (x ≠ y) := Lib.hid (of_decide_eq_false hxy)
          rw [hxy] at heq
          clear hxy
          go_wp2
          go_quiet (fail)
          go_wp2
          go_ret
          refine ⟨ret_bool ?_, q + nq, World.drewN_drewN _ _ _⟩
          rw [← Hz.out, eq_comm, decide_eq_false_iff_not]
          rintro rfl
          have h1 := Hx.out
          rw [Hy.out] at h1
          exact hE.out (Option.some.inj h1).symm
      · go_wp2
        go_ret
        refine ⟨ret_bool ?_, _, rfl⟩
        rw [← Hz.out, eq_comm, decide_eq_true_eq]
        apply List.ext_getElem?
        intro i
        rcases Nat.lt_or_ge i j with h | h
        · exact hall.out i h
        · rw [List.getElem?_eq_none (by rw [hl.out]; omega), List.getElem?_eq_none (by rw [hk.out]; omega)]
  · have hne : (((n : Nat) : Int) != (m : Int)) = true := by rw [bne_iff_ne]; omega
    have hz : decide (l = k) = false := by
      rw [decide_eq_false_iff_not]; rintro rfl; exact hnm (ha.1.symm.trans hb.1)
    rw [hz]
    clear hz hnm
    go_enter Try.func86, Try.ntmps86
    go_wp2
    go_ret
    exact ⟨rfl, 0, rfl⟩
end Go.Proofs.Ythplicnidknphaa
