/- What stands beside a disk: words that what is done to a disk spares. The area's law: arguments, Few. -/
import Derived.Test.YtninidpbchcliaaAreaC
namespace Go.Proofs.Ytninidpbchcliaa
open Go.RowKit Go.WideShapes Go.ChangeShapes Go.Deep Go.Joins
set_option linter.unusedVariables false
set_option linter.unusedSimpArgs false
/-- A word on memory that new blocks, and what is done to a disk, spare. -/
def Sp (R : World → Prop) : Prop := ∀ w w', R w → (Below w.heap.size w w' ∨ ∃ base p A c D, DiskAt w base p A c D ∧ Keep (foot p A) w w') → R w'
theorem Sp.and {R S : World → Prop} (h : Sp R) (k : Sp S) : Sp (fun w => R w ∧ S w) := fun w w' hr hc => ⟨h w w' hr.1 hc, k w w' hr.2 hc⟩
theorem Sp.true_ : Sp (fun _ => True) := fun _ _ h _ => h
theorem Sp.blk (g : Nat) (t : TypeId) (cs : List Value) (h1 : t ≠ 50) (h2 : t ≠ 33) (h3 : t ≠ 4) (h4 : t ≠ 145) (h5 : t ≠ 133) : Sp (fun w => Blk w g t cs) := fun w w' h hc => by
  rcases hc with hb | ⟨base, p, A, c, D, hd, k⟩
  · exact h.below hb h.lt
  · exact hd.spares h k h1 h2 h3 h4 h5
theorem Sp.area (ga d f m : Nat) : Sp (fun w => AreaAt w ga d f m) := Sp.blk _ _ _ (by decide) (by decide) (by decide) (by decide) (by decide)
theorem Sp.ow {α : Type} {enc : α → Value} (b : Nat) (e : TypeId) (B : Option Addr) (n d : Nat) (l : List α) (h1 : e ≠ 50) (h2 : e ≠ 33) (h3 : e ≠ 4) (h4 : e ≠ 145) (h5 : e ≠ 133) : Sp (fun w => Ow enc w b e B n d l) := fun w w' h hc => by
  rcases hc with hb | ⟨base, p, A, c, D, hd, k⟩
  · exact h.below hb (Nat.le_refl _)
  · exact hd.sparesOw h k h1 h2 h3 h4 h5
theorem Sp.ob (b : Nat) (B : Option Addr) (n d : Nat) (l : List UInt8) : Sp (fun w => OB w b 5 B n d l) := Sp.ow _ _ _ _ _ _ (by decide) (by decide) (by decide) (by decide) (by decide)
structure St (w0 : World) (base : Nat) (p : DiskP) (R : World → Prop) (D : DiskV) (w : World) : Prop where
  bel : Below base w0 w
  bs : base ≤ w0.heap.size
  dk : DiskS w base p D
  r : R w
section
variable {w0 w w' : World} {base : Nat} {p : DiskP} {A : Option Addr} {c : Nat} {D D' : DiskV} {R S : World → Prop}
theorem St.size (h : St w0 base p R D w) : base ≤ w.heap.size := Nat.le_trans h.bs h.bel.size
theorem St.below (h : St w0 base p R D w) (hR : Sp R) (hb : Below w.heap.size w w') : St w0 base p R D w' :=
  ⟨h.bel.trans (hb.mono h.size), h.bs, h.dk.below hb, hR _ _ h.r (.inl hb)⟩
theorem St.next (h : St w0 base p R D w) (hR : Sp R) (hd : DiskAt w base p A c D) (hN : DiskNext w base p A D' w') : St w0 base p R D' w' := by
  have hN' := hN
  obtain ⟨A', c', h1, k, _⟩ := hN
  exact ⟨h.bel.trans (hd.belowK k h.size), h.bs, ⟨A', c', h1⟩, hR _ _ h.r (.inr ⟨_, _, _, _, _, hd, k⟩)⟩
theorem St.kept (h : St w0 base p R D w) (hR : Sp R) (hd : DiskAt w base p A c D) (h1 : DiskAt w' base p A c D') (k : Keep (foot p A) w w') : St w0 base p R D' w' :=
  ⟨h.bel.trans (hd.belowK k h.size), h.bs, ⟨A, c, h1⟩, hR _ _ h.r (.inr ⟨_, _, _, _, _, hd, k⟩)⟩
theorem St.with_ (h : St w0 base p R D w) (hS : S w) : St w0 base p (fun w => R w ∧ S w) D w := ⟨h.bel, h.bs, h.dk, h.r, hS⟩
theorem St.drop (h : St w0 base p (fun w => R w ∧ S w) D w) : St w0 base p R D w := ⟨h.bel, h.bs, h.dk, h.r.1⟩
end
/-- What is done to an area. -/
structure Do8V where
  kind : Int
  n : Int
  k : Int
  m : Int
  b : List UInt8
def do8C (x : Do8V) (B : Option Addr) (m c : Nat) : List Value := [.int .i64 x.kind, .int .i64 x.n, .int .i64 x.k, .int .i64 x.m, .slice B m c]
def i64ok (n : Int) : Prop := -9223372036854775808 ≤ n ∧ n ≤ 9223372036854775807
def Dos8Rd (w : World) (A : Option Addr) (n : Nat) (l : List Do8V) : Prop :=
  l.length = n ∧ ∀ k x, l[k]? = some x → ∃ b o B m c, A = some ⟨b, o, none⟩ ∧ b < w.heap.size ∧ (∀ j, j < 5 → w.cell? ⟨b, o + k * 5 + j, none⟩ = (do8C x B m c)[j]?) ∧
    RB w B m x.b ∧ m ≤ c ∧ c ≤ maxLen ∧ i64ok x.n ∧ i64ok x.m ∧ i64ok x.k
theorem Dos8Rd.below {w w' : World} {A : Option Addr} {n B0 : Nat} {l : List Do8V} (h : Dos8Rd w A n l) (hb : Below B0 w w') (hB : w.heap.size ≤ B0) : Dos8Rd w' A n l := by
  refine ⟨h.1, fun k x hx => ?_⟩
  obtain ⟨b, o, B, m, c, hA, hlt, hc, hr, rest⟩ := h.2 k x hx
  have hs := hb.size
  exact ⟨b, o, B, m, c, hA, by omega, fun j hj => (hb.cell (p := ⟨b, o + k * 5 + j, none⟩) (by show b < B0; omega)).trans (hc j hj), hr.below hb hB, rest⟩
theorem Dos8Rd.get {w : World} {A : Option Addr} {n k : Nat} {l : List Do8V} {x : Do8V} (h : Dos8Rd w A n l) (hx : l[k]? = some x) :
    ∃ b o B m d, A = some ⟨b, o, none⟩ ∧ RB w B m x.b ∧ m ≤ d ∧ d ≤ maxLen ∧ i64ok x.n ∧ i64ok x.m ∧ i64ok x.k ∧
      ∀ (w' : World) (B0 : Nat), Below B0 w w' → w.heap.size ≤ B0 → b < w'.heap.size ∧ w'.cell? ⟨b, o + k * 5, none⟩ = some (.int .i64 x.kind) ∧ w'.cell? ⟨b, o + k * 5 + 1, none⟩ = some (.int .i64 x.n) ∧ w'.cell? ⟨b, o + k * 5 + 2, none⟩ = some (.int .i64 x.k) ∧ w'.cell? ⟨b, o + k * 5 + 3, none⟩ = some (.int .i64 x.m) ∧ w'.cell? ⟨b, o + k * 5 + 4, none⟩ = some (.slice B m d) := by
  obtain ⟨b, o, B, m, c, hA, hlt, hc, hr, hm, hcm, hn, hmm, hk⟩ := h.2 k x hx
  refine ⟨b, o, B, m, c, hA, hr, hm, hcm, hn, hmm, hk, fun w' B0 hb hB => ?_⟩
  have hs := hb.size
  have go : ∀ j, j < 5 → w'.cell? ⟨b, o + k * 5 + j, none⟩ = (do8C x B m c)[j]? := fun j hj => (hb.cell (p := ⟨b, o + k * 5 + j, none⟩) (by show b < B0; omega)).trans (hc j hj)
  exact ⟨by omega, go 0 (by omega), go 1 (by omega), go 2 (by omega), go 3 (by omega), go 4 (by omega)⟩
section
variable {H : Type} {enc : TypeId × Value → H} {w : World} {base b0 : Nat} {held : Bool} {r : Reach} {v : Value} {d : DataW H} {ps : List MemPlace}
set_option maxRecDepth 100000 in
theorem args_dos8 (hval : Value.okWide Try.prog w r b0 70 v) (hd : DataW.Trod enc Try.prog w base (fun _ => true) held 70 v d ps) :
    ∃ A n c l, v = .slice A n c ∧ Dos8Rd w A n l ∧ n ≤ c ∧ c ≤ maxLen := by
  obtain ⟨A, n, c, rfl, hn, hc, hat⟩ := open_structs (k := 5) Try.underlying70 Try.underlying76 (by kernel_rfl) (by kernel_rfl) rfl (by omega) hval hd
  have hx : ∀ i, i < n → ∃ x : Do8V, ∃ b o B m c, A = some ⟨b, o, none⟩ ∧ b < w.heap.size ∧ (∀ j, j < 5 → w.cell? ⟨b, o + i * 5 + j, none⟩ = (do8C x B m c)[j]?) ∧
      RB w B m x.b ∧ m ≤ c ∧ c ≤ maxLen ∧ i64ok x.n ∧ i64ok x.m ∧ i64ok x.k := by
    intro i hi
    obtain ⟨b, o, vs, hA, hb, hl, hcell, fuel, hf⟩ := hat i hi
    obtain ⟨u0, y0, e0, t0⟩ := hf 0 _ rfl
    obtain ⟨u1, y1, e1, t1⟩ := hf 1 _ rfl
    obtain ⟨u2, y2, e2, t2⟩ := hf 2 _ rfl
    obtain ⟨u3, y3, e3, t3⟩ := hf 3 _ rfl
    obtain ⟨u4, y4, e4, t4⟩ := hf 4 _ rfl
    obtain ⟨z0, hz0, _, hw0⟩ := DataW.trod_int Try.underlying3 t0
    obtain ⟨z1, hz1, _, hw1⟩ := DataW.trod_int Try.underlying3 t1
    obtain ⟨z2, hz2, _, hw2⟩ := DataW.trod_int Try.underlying3 t2
    obtain ⟨z3, hz3, _, hw3⟩ := DataW.trod_int Try.underlying3 t3
    have hz0 : u0 = .int .i64 z0 := by simpa using hz0
    have hz1 : u1 = .int .i64 z1 := by simpa using hz1
    have hz2 : u2 = .int .i64 z2 := by simpa using hz2
    have hz3 : u3 = .int .i64 z3 := by simpa using hz3
    subst hz0 hz1 hz2 hz3
    obtain ⟨B, m, c', l, rfl, r1, k1, m1⟩ := trod_bytes Try.underlying23 Try.underlying5 (by kernel_rfl) t4
    refine ⟨⟨z0, z1, z2, z3, l⟩, b, o, B, m, c', hA, hb, fun j hj => ?_, r1, k1, m1, bounds_i64 hw1, bounds_i64 hw3, bounds_i64 hw2⟩
    rw [hcell j hj]
    match j, hj with
    | 0, _ => exact e0
    | 1, _ => exact e1
    | 2, _ => exact e2
    | 3, _ => exact e3
    | 4, _ => exact e4
  obtain ⟨l, hl, hp⟩ := list_of hx
  exact ⟨A, n, c, l, rfl, ⟨hl, hp⟩, hn, hc⟩
set_option maxRecDepth 100000 in
theorem args_span (hval : Value.okWide Try.prog w r b0 69 v) (hd : DataW.Trod enc Try.prog w base (fun _ => true) held 69 v d ps) :
    ∃ f m, v = .agg #[.int .i64 f, .int .i64 m] ∧ i64ok f ∧ i64ok m := by
  obtain ⟨vs, n, rfl, hlen, hf⟩ := open_agg Try.underlying69 (by kernel_rfl) (by kernel_rfl) hval hd
  match vs, hlen with
  | [v0, v1], _ =>
    obtain ⟨u0, y0, e0, t0⟩ := hf 0 _ rfl
    obtain ⟨u1, y1, e1, t1⟩ := hf 1 _ rfl
    injection e0 with e0; injection e1 with e1
    subst e0 e1
    obtain ⟨z0, hz0, _, hw0⟩ := DataW.trod_int Try.underlying3 t0
    obtain ⟨z1, hz1, _, hw1⟩ := DataW.trod_int Try.underlying3 t1
    have hz0 : v0 = .int .i64 z0 := by simpa using hz0
    have hz1 : v1 = .int .i64 z1 := by simpa using hz1
    subst hz0 hz1
    exact ⟨z0, z1, rfl, bounds_i64 hw0, bounds_i64 hw1⟩
end
/-- What a law goes through with. -/
def few8B (l : List Do8V) : Bool := l.all (fun x => decide (x.b.length ≤ 200)) && decide (l.length ≤ 40)
theorem few8B_true {l : List Do8V} (h : few8B l = true) : l.length ≤ 40 ∧ ∀ x ∈ l, x.b.length ≤ 200 := by
  unfold few8B at h
  rw [Bool.and_eq_true, List.all_eq_true, decide_eq_true_eq] at h
  exact ⟨h.2, fun x hx => of_decide_eq_true (h.1 x hx)⟩
theorem few8B_no {l : List Do8V} {k : Nat} {x : Do8V} (hx : l[k]? = some x) (h : 200 < x.b.length) : few8B l = false := by
  cases hq : few8B l with
  | false => rfl
  | true => have := (few8B_true hq).2 x (List.mem_of_getElem? hx); omega
theorem few8B_all {l : List Do8V} (h : ∀ (k : Nat) (x : Do8V), l[k]? = some x → x.b.length ≤ 200) : few8B l = decide (l.length ≤ 40) := by
  unfold few8B
  rw [show l.all (fun x => decide (x.b.length ≤ 200)) = true from by
    rw [List.all_eq_true]
    intro x hx
    obtain ⟨k, hk⟩ := List.getElem?_of_mem hx
    exact decide_eq_true (h k x hk), Bool.true_and]
set_option maxRecDepth 100000 in
set_option maxHeartbeats 4000000 in
theorem few8_any (A : Option Addr) (n c : Nat) (l : List Do8V) (w : World) (hl : Dos8Rd w A n l) (hn : n ≤ maxLen) :
    Calls Try.prog 38 #[.slice A n c] w fun e w' => e = .returned (.bool (few8B l)) ∧ Below w.heap.size w w' := by
  have hlen := Lib.hid hl.1
  unfold maxLen at hn
  go_enter Try.func38, Try.ntmps38
  go_wp2
  go_loopw [4, 7] (fun _ i wr => ∃ k : Nat, k ≤ n ∧ i = .int .i64 (k : Nat) ∧ (∀ (j : Nat) (x : Do8V), j < k → l[j]? = some x → x.b.length ≤ 200) ∧ Below w.heap.size w wr) (fun _ i _ => n - (intOf i).toNat)
  case atStart => exact ⟨0, by omega, rfl, fun j x hj => absurd hj (by omega), Below.refl _ _⟩
  case round =>
    obtain ⟨k, hk, rfl, hsm, hbel⟩ := hrel
    have Hsm := Lib.hid hsm
    clear hsm
    by_cases hlt : k < n
    · have hkl : k < l.length := by rw [hlen.out]; exact hlt
      have hbs := hbel.size
      obtain ⟨x, hx⟩ : ∃ x, l[k]? = some x := ⟨_, List.getElem?_eq_getElem hkl⟩
      obtain ⟨b, o, B, m, d, rfl, hr, hmd, hd, _, _, _, hget⟩ := hl.get hx
      obtain ⟨hb, e0, e1, e2, e3, e4⟩ := hget wr _ hbel (Nat.le_refl _)
      have hm : m ≤ 9223372036854775807 := by unfold maxLen at hd; omega
      have HX := Lib.hid hx
      have Hr := Lib.hid hr.1
      clear hx hr hd hget
      by_cases hbig : 200 < m
      · have hno : Hid (few8B l = false) := few8B_no HX.out (by rw [Hr.out]; exact hbig)
        go_wp2
        go_ret
        exact ⟨ret_bool hno.out.symm, (by (repeat' (first | (with_reducible exact Below.refl _ _) | (with_reducible assumption) | (with_reducible refine Below.drew ?_) | (with_reducible refine below_drewN ?_ _) | (with_reducible refine Below.alloc ?_ ?_ _) | (with_reducible refine Below.setCell ?_ ?_ _) | omega | (simp; done) | (simp; omega))))⟩
      · have hsm2 : Hid (∀ (j : Nat) (x : Do8V), j < k + 1 → l[j]? = some x → x.b.length ≤ 200) := fun j x hj hx => by
          rcases Nat.lt_or_ge j k with q | q
          · exact Hsm.out j x q hx
          · have : j = k := by omega
            subst this
            rw [HX.out] at hx
            injection hx with hx
            rw [← hx, Hr.out]; omega
        go_wp2
        go_roundw
        case rel => first
          | exact ⟨k + 1, by omega, by go_num, hsm2.out, (by (repeat' (first | (with_reducible exact Below.refl _ _) | (with_reducible assumption) | (with_reducible refine Below.drew ?_) | (with_reducible refine below_drewN ?_ _) | (with_reducible refine Below.alloc ?_ ?_ _) | (with_reducible refine Below.setCell ?_ ?_ _) | omega | (simp; done) | (simp; omega))))⟩
          | ((repeat apply Exists.intro); exact ⟨⟨k + 1, by omega, by go_num, hsm2.out, (by (repeat' (first | (with_reducible exact Below.refl _ _) | (with_reducible assumption) | (with_reducible refine Below.drew ?_) | (with_reducible refine below_drewN ?_ _) | (with_reducible refine Below.alloc ?_ ?_ _) | (with_reducible refine Below.setCell ?_ ?_ _) | omega | (simp; done) | (simp; omega))))⟩, rfl⟩)
        case measure => simp [intOf]; omega
    · have hk9 : k = n := by omega
      subst hk9
      have hall : Hid (few8B l = decide (k ≤ 40)) := by
        show _ = _
        rw [few8B_all (fun j x hx => Hsm.out j x (by rw [← hlen.out]; exact (List.getElem?_eq_some_iff.1 hx).1) hx), hlen.out]
      go_wp2
      go_ret
      exact ⟨ret_bool (by rw [hall.out]; first | rfl | (simp; done) | (simp; omega)), (by (repeat' (first | (with_reducible exact Below.refl _ _) | (with_reducible assumption) | (with_reducible refine Below.drew ?_) | (with_reducible refine below_drewN ?_ _) | (with_reducible refine Below.alloc ?_ ?_ _) | (with_reducible refine Below.setCell ?_ ?_ _) | omega | (simp; done) | (simp; omega))))⟩
end Go.Proofs.Ytninidpbchcliaa
