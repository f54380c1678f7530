/- What is done, as an argument of the laws of tompionlaw10; Few. -/
import Derived.Test.YtalmdccgpigppaaDiskG
namespace Go.Proofs.Ytalmdccgpigppaa
open Go.RowKit Go.WideShapes Go.ChangeShapes Go.Deep Go.Joins
set_option linter.unusedVariables false
set_option linter.unusedSimpArgs false
section
variable {H : Type} {enc : TypeId × Value → H} {w : World} {base b0 : Nat} {held : Bool} {r : Reach} {v : Value} {d : DataW H} {ps : List MemPlace}
set_option maxRecDepth 100000 in
theorem args_dos10 (hval : Value.okWide Try.prog w r b0 22 v) (hd : DataW.Trod enc Try.prog w base (fun _ => true) held 22 v d ps) :
    ∃ A n c l, v = .slice A n c ∧ DosRd w A n l ∧ n ≤ c ∧ c ≤ maxLen := by
  obtain ⟨A, n, c, rfl, hn, hc, hat⟩ := open_structs (k := 3) Try.underlying22 Try.underlying36 (by kernel_rfl) (by kernel_rfl) rfl (by omega) hval hd
  have hx : ∀ i, i < n → ∃ x : DoV, ∃ b o B m c, A = some ⟨b, o, none⟩ ∧ b < w.heap.size ∧ w.cell? ⟨b, o + i * 3 + 0, none⟩ = some (.int .i64 x.kind) ∧ w.cell? ⟨b, o + i * 3 + 1, none⟩ = some (.int .i64 x.n) ∧ w.cell? ⟨b, o + i * 3 + 2, none⟩ = some (.slice B m c) ∧
      RB w B m x.b ∧ m ≤ c ∧ c ≤ maxLen ∧ (-9223372036854775808 ≤ x.kind ∧ x.kind ≤ 9223372036854775807) ∧ (-9223372036854775808 ≤ x.n ∧ x.n ≤ 9223372036854775807) := by
    intro i hi
    obtain ⟨b, o, vs, hA, hb, hl, hcell, fuel, hf⟩ := hat i hi
    obtain ⟨u0, y0, e0, t0⟩ := hf 0 _ rfl
    obtain ⟨u1, y1, e1, t1⟩ := hf 1 _ rfl
    obtain ⟨u2, y2, e2, t2⟩ := hf 2 _ rfl
    obtain ⟨z0, hz0, _, hw0⟩ := DataW.trod_int Try.underlying3 t0
    obtain ⟨z1, hz1, _, hw1⟩ := DataW.trod_int Try.underlying3 t1
    have hz0 : u0 = .int .i64 z0 := by simpa using hz0
    have hz1 : u1 = .int .i64 z1 := by simpa using hz1
    subst hz0 hz1
    obtain ⟨B, m, c', l, rfl, r1, k1, m1⟩ := trod_bytes Try.underlying26 Try.underlying5 (by kernel_rfl) t2
    exact ⟨⟨z0, z1, l⟩, b, o, B, m, c', hA, hb, (hcell 0 (by omega)).trans e0, (hcell 1 (by omega)).trans e1, (hcell 2 (by omega)).trans e2, r1, k1, m1, bounds_i64 hw0, bounds_i64 hw1⟩
  obtain ⟨l, hl, hp⟩ := list_of hx
  exact ⟨A, n, c, l, rfl, ⟨hl, hp⟩, hn, hc⟩
end
/-- What a law goes through with. -/
def few10B (l : List DoV) : Bool := l.all (fun x => decide (x.b.length ≤ 700)) && decide (l.length ≤ 20)
theorem few10B_true {l : List DoV} (h : few10B l = true) : l.length ≤ 20 ∧ ∀ x ∈ l, x.b.length ≤ 700 := by
  unfold few10B at h
  rw [Bool.and_eq_true, List.all_eq_true, decide_eq_true_eq] at h
  exact ⟨h.2, fun x hx => of_decide_eq_true (h.1 x hx)⟩
theorem few10B_no {l : List DoV} {k : Nat} {x : DoV} (hx : l[k]? = some x) (h : 700 < x.b.length) : few10B l = false := by
  cases hq : few10B l with
  | false => rfl
  | true => have := (few10B_true hq).2 x (List.mem_of_getElem? hx); omega
theorem few10B_all {l : List DoV} (h : ∀ (k : Nat) (x : DoV), l[k]? = some x → x.b.length ≤ 700) : few10B l = decide (l.length ≤ 20) := by
  unfold few10B
  rw [show l.all (fun x => decide (x.b.length ≤ 700)) = true from by
    rw [List.all_eq_true]
    intro x hx
    obtain ⟨k, hk⟩ := List.getElem?_of_mem hx
    exact decide_eq_true (h k x hk), Bool.true_and]
set_option maxRecDepth 100000 in
set_option maxHeartbeats 4000000 in
theorem few10_any (A : Option Addr) (n c : Nat) (l : List DoV) (w : World) (hl : DosRd w A n l) (hn : n ≤ maxLen) :
    Calls Try.prog 9 #[.slice A n c] w fun e w' => e = .returned (.bool (few10B l)) ∧ Below w.heap.size w w' := by
  have hlen := Lib.hid hl.1
  unfold maxLen at hn
  go_enter Try.func9, Try.ntmps9
  go_wp2
  go_loopw [4, 7] (fun _ i wr => ∃ k : Nat, k ≤ n ∧ i = .int .i64 (k : Nat) ∧ (∀ (j : Nat) (x : DoV), j < k → l[j]? = some x → x.b.length ≤ 700) ∧ Below w.heap.size w wr) (fun _ i _ => n - (intOf i).toNat)
  case atStart => exact ⟨0, by omega, rfl, fun j x hj => absurd hj (by omega), Below.refl _ _⟩
  case round =>
    obtain ⟨k, hk, rfl, hsm, hbel⟩ := hrel
    have Hsm := Lib.hid hsm
    clear hsm
    by_cases hlt : k < n
    · have hkl : k < l.length := by rw [hlen.out]; exact hlt
      have hbs := hbel.size
      obtain ⟨x, hx⟩ : ∃ x, l[k]? = some x := ⟨_, List.getElem?_eq_getElem hkl⟩
      obtain ⟨b, o, B, m, d, rfl, hb, e0, e1, e2, hr, hmd, hd, _, _⟩ := (hl.below hbel (Nat.le_refl _)).2 k x hx
      have hm : m ≤ 9223372036854775807 := by unfold maxLen at hd; omega
      have HX := Lib.hid hx
      have Hr := Lib.hid hr.1
      simp only [Nat.add_zero] at e0
      clear hx hr hd
      by_cases hbig : 700 < m
      · have hno : Hid (few10B l = false) := few10B_no HX.out (by rw [Hr.out]; exact hbig)
        go_wp2
        go_ret
        exact ⟨ret_bool hno.out.symm, (by (repeat' (first | (with_reducible exact Below.refl _ _) | (with_reducible assumption) | (with_reducible refine Below.drew ?_) | (with_reducible refine below_drewN ?_ _) | (with_reducible refine Below.alloc ?_ ?_ _) | (with_reducible refine Below.setCell ?_ ?_ _) | omega | (simp; done) | (simp; omega))))⟩
      · have hsm2 : Hid (∀ (j : Nat) (x : DoV), j < k + 1 → l[j]? = some x → x.b.length ≤ 700) := fun j x hj hx => by
          rcases Nat.lt_or_ge j k with q | q
          · exact Hsm.out j x q hx
          · have : j = k := by omega
            subst this
            rw [HX.out] at hx
            injection hx with hx
            rw [← hx, Hr.out]; omega
        go_wp2
        go_roundw
        case rel => exact ⟨k + 1, by omega, by go_num, hsm2.out, (by (repeat' (first | (with_reducible exact Below.refl _ _) | (with_reducible assumption) | (with_reducible refine Below.drew ?_) | (with_reducible refine below_drewN ?_ _) | (with_reducible refine Below.alloc ?_ ?_ _) | (with_reducible refine Below.setCell ?_ ?_ _) | omega | (simp; done) | (simp; omega))))⟩
        case measure => simp [intOf]; omega
    · have hk9 : k = n := by omega
      subst hk9
      have hall : Hid (few10B l = decide (k ≤ 20)) := by
        show _ = _
        rw [few10B_all (fun j x hx => Hsm.out j x (by rw [← hlen.out]; exact (List.getElem?_eq_some_iff.1 hx).1) hx), hlen.out]
      go_wp2
      go_ret
      exact ⟨ret_bool (by rw [hall.out]; first | rfl | (simp; done) | (simp; omega)), (by (repeat' (first | (with_reducible exact Below.refl _ _) | (with_reducible assumption) | (with_reducible refine Below.drew ?_) | (with_reducible refine below_drewN ?_ _) | (with_reducible refine Below.alloc ?_ ?_ _) | (with_reducible refine Below.setCell ?_ ?_ _) | omega | (simp; done) | (simp; omega))))⟩
end Go.Proofs.Ytalmdccgpigppaa
