/- Parts: DoW, Do37. -/
import Derived.Test.YtalmdccgpigppaaPr18
import Derived.Test.YtalmdccgpigppaaPr04
import Derived.Test.YtalmdccgpigppaaPr41
namespace Go.Proofs.Ytalmdccgpigppaa
open Go.RowKit Go.WideShapes Go.ChangeShapes Go.Deep Go.Joins
set_option linter.unusedVariables false
set_option linter.unusedSimpArgs false
/-- What is done to a feed or to a sink. -/
structure DoW where
  kind : Int
  n : Int
  l : List Int
  b : List UInt8
def DosW (w : World) (A : Option Addr) (n : Nat) (l : List DoW) : Prop :=
  l.length = n ∧ ∀ k x, l[k]? = some x → ∃ b o C q e B m c, A = some ⟨b, o, none⟩ ∧ b < w.heap.size ∧ w.cell? ⟨b, o + k * 4 + 0, none⟩ = some (.int .i64 x.kind) ∧ w.cell? ⟨b, o + k * 4 + 1, none⟩ = some (.int .i64 x.n) ∧ w.cell? ⟨b, o + k * 4 + 2, none⟩ = some (.slice C q e) ∧ w.cell? ⟨b, o + k * 4 + 3, none⟩ = some (.slice B m c) ∧
    RI w C q x.l ∧ q ≤ e ∧ e ≤ maxLen ∧ RB w B m x.b ∧ m ≤ c ∧ c ≤ maxLen ∧ (-9223372036854775808 ≤ x.kind ∧ x.kind ≤ 9223372036854775807) ∧ (-9223372036854775808 ≤ x.n ∧ x.n ≤ 9223372036854775807) ∧ IntOk x.l
theorem DosW.below {w w' : World} {A : Option Addr} {n B0 : Nat} {l : List DoW} (h : DosW w A n l) (hb : Below B0 w w') (hB : w.heap.size ≤ B0) : DosW w' A n l := by
  refine ⟨h.1, fun k x hx => ?_⟩
  obtain ⟨b, o, C, q, e, B, m, c, hA, hlt, c0, c1, c2, c3, hi, h1, h2, hr, rest⟩ := h.2 k x hx
  have hs := hb.size
  have hc : ∀ j, w'.cell? ⟨b, j, none⟩ = w.cell? ⟨b, j, none⟩ := fun j => hb.cell (p := ⟨b, j, none⟩) (by show b < B0; omega)
  exact ⟨b, o, C, q, e, B, m, c, hA, by omega, by rw [hc]; exact c0, by rw [hc]; exact c1, by rw [hc]; exact c2, by rw [hc]; exact c3, hi.below hb hB, h1, h2, hr.below hb hB, rest⟩
theorem DosW.get {w : World} {A : Option Addr} {n k : Nat} {l : List DoW} {x : DoW} (h : DosW w A n l) (hx : l[k]? = some x) :
    ∃ b o C q e B m d, A = some ⟨b, o, none⟩ ∧ RI w C q x.l ∧ q ≤ e ∧ e ≤ maxLen ∧ RB w B m x.b ∧ m ≤ d ∧ d ≤ maxLen ∧ (-9223372036854775808 ≤ x.n ∧ x.n ≤ 9223372036854775807) ∧ IntOk x.l ∧
      ∀ (w' : World) (B0 : Nat), Below B0 w w' → w.heap.size ≤ B0 → b < w'.heap.size ∧ w'.cell? ⟨b, o + k * 4, none⟩ = some (.int .i64 x.kind) ∧ w'.cell? ⟨b, o + k * 4 + 1, none⟩ = some (.int .i64 x.n) ∧ w'.cell? ⟨b, o + k * 4 + 2, none⟩ = some (.slice C q e) ∧ w'.cell? ⟨b, o + k * 4 + 3, none⟩ = some (.slice B m d) := by
  obtain ⟨b, o, C, q, e, B, m, c, hA, hlt, c0, c1, c2, c3, hi, h1, h2, hr, hm, hc, _, hn, ho⟩ := h.2 k x hx
  refine ⟨b, o, C, q, e, B, m, c, hA, hi, h1, h2, hr, hm, hc, hn, ho, fun w' B0 hb hB => ?_⟩
  have hs := hb.size
  have hcl : ∀ j, w'.cell? ⟨b, j, none⟩ = w.cell? ⟨b, j, none⟩ := fun j => hb.cell (p := ⟨b, j, none⟩) (by show b < B0; omega)
  exact ⟨by omega, by rw [hcl]; exact c0, by rw [hcl]; exact c1, by rw [hcl]; exact c2, by rw [hcl]; exact c3⟩
theorem intOk_of {l : List Int} (h : ∀ z ∈ l, -9223372036854775808 ≤ z ∧ z ≤ 9223372036854775807) : IntOk l := fun i hi => by
  unfold intAt
  rw [List.getD_eq_getElem?_getD, List.getElem?_eq_getElem hi]
  exact h _ (List.getElem_mem hi)
end Go.Proofs.Ytalmdccgpigppaa
namespace Go.Proofs.Ytalmdccgpigppaa
open Go.RowKit Go.WideShapes Go.ChangeShapes Go.Deep Go.Joins
set_option linter.unusedVariables false
set_option linter.unusedSimpArgs false
/-- What a law goes through with. -/
def few37B (l : List DoW) : Bool := l.all (fun x => decide (x.b.length ≤ 200) && decide (x.l.length ≤ 100)) && decide (l.length ≤ 20)
theorem few37B_true {l : List DoW} (h : few37B l = true) : l.length ≤ 20 ∧ ∀ x ∈ l, x.b.length ≤ 200 ∧ x.l.length ≤ 100 := by
  unfold few37B at h
  rw [Bool.and_eq_true, List.all_eq_true, decide_eq_true_eq] at h
  refine ⟨h.2, fun x hx => ?_⟩
  have := h.1 x hx
  rw [Bool.and_eq_true, decide_eq_true_eq, decide_eq_true_eq] at this
  exact this
theorem few37B_no {l : List DoW} {k : Nat} {x : DoW} (hx : l[k]? = some x) (h : 200 < x.b.length ∨ 100 < x.l.length) : few37B l = false := by
  cases hq : few37B l with
  | false => rfl
  | true => have := (few37B_true hq).2 x (List.mem_of_getElem? hx); omega
theorem few37B_all {l : List DoW} (h : ∀ (k : Nat) (x : DoW), l[k]? = some x → x.b.length ≤ 200 ∧ x.l.length ≤ 100) : few37B l = decide (l.length ≤ 20) := by
  unfold few37B
  rw [show l.all (fun x => decide (x.b.length ≤ 200) && decide (x.l.length ≤ 100)) = true from by
    rw [List.all_eq_true]
    intro x hx
    obtain ⟨k, hk⟩ := List.getElem?_of_mem hx
    rw [Bool.and_eq_true, decide_eq_true_eq, decide_eq_true_eq]
    exact h k x hk, Bool.true_and]
section
variable {H : Type} {enc : TypeId × Value → H} {w : World} {base b0 : Nat} {held : Bool} {r : Reach} {v : Value} {d : DataW H} {ps : List MemPlace}
set_option maxRecDepth 100000 in
theorem args_dos37 (hval : Value.okWide Try.prog w r b0 84 v) (hd : DataW.Trod enc Try.prog w base (fun _ => true) held 84 v d ps) :
    ∃ A n c l, v = .slice A n c ∧ DosW w A n l ∧ n ≤ c ∧ c ≤ maxLen := by
  obtain ⟨A, n, c, rfl, hn, hc, hat⟩ := open_structs (k := 4) Try.underlying84 Try.underlying95 (by kernel_rfl) (by kernel_rfl) rfl (by omega) hval hd
  have hx : ∀ i, i < n → ∃ x : DoW, ∃ b o C q e B m c, A = some ⟨b, o, none⟩ ∧ b < w.heap.size ∧ w.cell? ⟨b, o + i * 4 + 0, none⟩ = some (.int .i64 x.kind) ∧ w.cell? ⟨b, o + i * 4 + 1, none⟩ = some (.int .i64 x.n) ∧ w.cell? ⟨b, o + i * 4 + 2, none⟩ = some (.slice C q e) ∧ w.cell? ⟨b, o + i * 4 + 3, none⟩ = some (.slice B m c) ∧
      RI w C q x.l ∧ q ≤ e ∧ e ≤ maxLen ∧ RB w B m x.b ∧ m ≤ c ∧ c ≤ maxLen ∧ (-9223372036854775808 ≤ x.kind ∧ x.kind ≤ 9223372036854775807) ∧ (-9223372036854775808 ≤ x.n ∧ x.n ≤ 9223372036854775807) ∧ IntOk x.l := by
    intro i hi
    obtain ⟨b, o, vs, hA, hb, hl, hcell, fuel, hf⟩ := hat i hi
    obtain ⟨u0, y0, e0, t0⟩ := hf 0 _ rfl
    obtain ⟨u1, y1, e1, t1⟩ := hf 1 _ rfl
    obtain ⟨u2, y2, e2, t2⟩ := hf 2 _ rfl
    obtain ⟨u3, y3, e3, t3⟩ := hf 3 _ rfl
    obtain ⟨z0, hz0, _, hw0⟩ := DataW.trod_int Try.underlying3 t0
    obtain ⟨z1, hz1, _, hw1⟩ := DataW.trod_int Try.underlying3 t1
    have hz0 : u0 = .int .i64 z0 := by simpa using hz0
    have hz1 : u1 = .int .i64 z1 := by simpa using hz1
    subst hz0 hz1
    obtain ⟨C, q, c2, li, rfl, r2, k2, m2, hin⟩ := trod_ints Try.underlying54 Try.underlying3 (by kernel_rfl) t2
    obtain ⟨B, m, c', l, rfl, r1, k1, m1⟩ := trod_bytes Try.underlying26 Try.underlying5 (by kernel_rfl) t3
    exact ⟨⟨z0, z1, li, l⟩, b, o, C, q, c2, B, m, c', hA, hb, (hcell 0 (by omega)).trans e0, (hcell 1 (by omega)).trans e1, (hcell 2 (by omega)).trans e2, (hcell 3 (by omega)).trans e3, r2, k2, m2, r1, k1, m1, bounds_i64 hw0, bounds_i64 hw1, intOk_of hin⟩
  obtain ⟨l, hl, hp⟩ := list_of hx
  exact ⟨A, n, c, l, rfl, ⟨hl, hp⟩, hn, hc⟩
end
set_option maxRecDepth 100000 in
set_option maxHeartbeats 4000000 in
theorem few37_any (A : Option Addr) (n c : Nat) (l : List DoW) (w : World) (hl : DosW w A n l) (hn : n ≤ maxLen) :
    Calls Try.prog 38 #[.slice A n c] w fun e w' => e = .returned (.bool (few37B l)) ∧ Below w.heap.size w w' := by
  have hlen := Lib.hid hl.1
  unfold maxLen at hn
  go_enter Try.func38, Try.ntmps38
  go_wp2
  go_loopw [4, 7] (fun _ i wr => ∃ k : Nat, k ≤ n ∧ i = .int .i64 (k : Nat) ∧ (∀ (j : Nat) (x : DoW), j < k → l[j]? = some x → x.b.length ≤ 200 ∧ x.l.length ≤ 100) ∧ Below w.heap.size w wr) (fun _ i _ => n - (intOf i).toNat)
  case atStart => exact ⟨0, by omega, rfl, fun j x hj => absurd hj (by omega), Below.refl _ _⟩
  case round =>
    obtain ⟨k, hk, rfl, hsm, hbel⟩ := hrel
    have Hsm := Lib.hid hsm
    clear hsm
    by_cases hlt : k < n
    · have hkl : k < l.length := by rw [hlen.out]; exact hlt
      have hbs := hbel.size
      obtain ⟨x, hx⟩ : ∃ x, l[k]? = some x := ⟨_, List.getElem?_eq_getElem hkl⟩
      obtain ⟨b, o, C, q, e, B, m, d, rfl, hb, e0, e1, e2, e3, hi, hqe, he, hr, hmd, hd, _, _, _⟩ := (hl.below hbel (Nat.le_refl _)).2 k x hx
      have hm : m ≤ 9223372036854775807 := by unfold maxLen at hd; omega
      have hq : q ≤ 9223372036854775807 := by unfold maxLen at he; omega
      have HX := Lib.hid hx
      have Hr := Lib.hid hr.1
      have Hi := Lib.hid hi.1
      simp only [Nat.add_zero] at e0
      clear hx hr hd hi he
      by_cases hbig : 200 < m
      · have hno : Hid (few37B l = false) := few37B_no HX.out (.inl (by rw [Hr.out]; exact hbig))
        go_wp2
        go_ret
        exact ⟨ret_bool hno.out.symm, (by (repeat' (first | (with_reducible exact Below.refl _ _) | (with_reducible assumption) | (with_reducible refine Below.drew ?_) | (with_reducible refine below_drewN ?_ _) | (with_reducible refine Below.alloc ?_ ?_ _) | (with_reducible refine Below.setCell ?_ ?_ _) | omega | (simp; done) | (simp; omega))))⟩
      · by_cases hbig2 : 100 < q
        · have hno : Hid (few37B l = false) := few37B_no HX.out (.inr (by rw [Hi.out]; exact hbig2))
          go_wp2
          go_ret
          exact ⟨ret_bool hno.out.symm, (by (repeat' (first | (with_reducible exact Below.refl _ _) | (with_reducible assumption) | (with_reducible refine Below.drew ?_) | (with_reducible refine below_drewN ?_ _) | (with_reducible refine Below.alloc ?_ ?_ _) | (with_reducible refine Below.setCell ?_ ?_ _) | omega | (simp; done) | (simp; omega))))⟩
        · have hsm2 : Hid (∀ (j : Nat) (x : DoW), j < k + 1 → l[j]? = some x → x.b.length ≤ 200 ∧ x.l.length ≤ 100) := fun j x hj hx => by
            rcases Nat.lt_or_ge j k with q | q
            · exact Hsm.out j x q hx
            · have : j = k := by omega
              subst this
              rw [HX.out] at hx
              injection hx with hx
              rw [← hx, Hr.out, Hi.out]; omega
          go_wp2
          go_roundw
          case rel => exact ⟨k + 1, by omega, by go_num, hsm2.out, (by (repeat' (first | (with_reducible exact Below.refl _ _) | (with_reducible assumption) | (with_reducible refine Below.drew ?_) | (with_reducible refine below_drewN ?_ _) | (with_reducible refine Below.alloc ?_ ?_ _) | (with_reducible refine Below.setCell ?_ ?_ _) | omega | (simp; done) | (simp; omega))))⟩
          case measure => simp [intOf]; omega
    · have hk9 : k = n := by omega
      subst hk9
      have hall : Hid (few37B l = decide (k ≤ 20)) := by
        show _ = _
        rw [few37B_all (fun j x hx => Hsm.out j x (by rw [← hlen.out]; exact (List.getElem?_eq_some_iff.1 hx).1) hx), hlen.out]
      go_wp2
      go_ret
      exact ⟨ret_bool (by rw [hall.out]; first | rfl | (simp; done) | (simp; omega)), (by (repeat' (first | (with_reducible exact Below.refl _ _) | (with_reducible assumption) | (with_reducible refine Below.drew ?_) | (with_reducible refine below_drewN ?_ _) | (with_reducible refine Below.alloc ?_ ?_ _) | (with_reducible refine Below.setCell ?_ ?_ _) | omega | (simp; done) | (simp; omega))))⟩
end Go.Proofs.Ytalmdccgpigppaa
