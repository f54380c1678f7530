/- Parts: DoW, Do35, FeedD, PlainFeedD, FeedE, FeedK. -/
import Derived.Test.YtalmdccgpigppaaPart05
import Derived.Test.YtalmdccgpigppaaPart18
import Derived.Test.YtalmdccgpigppaaPart19
import Derived.Test.YtalmdccgpigppaaPart23
import Derived.Test.YtalmdccgpigppaaPart24
namespace Go.Proofs.Ytalmdccgpigppaa
open Go.RowKit Go.WideShapes Go.ChangeShapes Go.Deep Go.Joins
set_option linter.unusedVariables false
set_option linter.unusedSimpArgs false
/-- What is done to a feed or to a sink. -/
structure DoW where
  kind : Int
  n : Int
  l : List Int
  b : List UInt8
def doW (x : DoW) (C : Option Addr) (q e : Nat) (B : Option Addr) (m c : Nat) : List Value := [.int .i64 x.kind, .int .i64 x.n, .slice C q e, .slice B m c]
def DosW (w : World) (A : Option Addr) (n : Nat) (l : List DoW) : Prop :=
  l.length = n ∧ ∀ k x, l[k]? = some x → ∃ b o C q e B m c, A = some ⟨b, o, none⟩ ∧ b < w.heap.size ∧ w.cell? ⟨b, o + k * 4 + 0, none⟩ = some (.int .i64 x.kind) ∧ w.cell? ⟨b, o + k * 4 + 1, none⟩ = some (.int .i64 x.n) ∧ w.cell? ⟨b, o + k * 4 + 2, none⟩ = some (.slice C q e) ∧ w.cell? ⟨b, o + k * 4 + 3, none⟩ = some (.slice B m c) ∧
    RI w C q x.l ∧ q ≤ e ∧ e ≤ maxLen ∧ RB w B m x.b ∧ m ≤ c ∧ c ≤ maxLen ∧ (-9223372036854775808 ≤ x.kind ∧ x.kind ≤ 9223372036854775807) ∧ (-9223372036854775808 ≤ x.n ∧ x.n ≤ 9223372036854775807) ∧ IntOk x.l
theorem DosW.below {w w' : World} {A : Option Addr} {n B0 : Nat} {l : List DoW} (h : DosW w A n l) (hb : Below B0 w w') (hB : w.heap.size ≤ B0) : DosW w' A n l := by
  refine ⟨h.1, fun k x hx => ?_⟩
  obtain ⟨b, o, C, q, e, B, m, c, hA, hlt, c0, c1, c2, c3, hi, h1, h2, hr, rest⟩ := h.2 k x hx
  have hs := hb.size
  have hc : ∀ j, w'.cell? ⟨b, j, none⟩ = w.cell? ⟨b, j, none⟩ := fun j => hb.cell (p := ⟨b, j, none⟩) (by show b < B0; omega)
  exact ⟨b, o, C, q, e, B, m, c, hA, by omega, by rw [hc]; exact c0, by rw [hc]; exact c1, by rw [hc]; exact c2, by rw [hc]; exact c3, hi.below hb hB, h1, h2, hr.below hb hB, rest⟩
theorem DosW.get {w : World} {A : Option Addr} {n k : Nat} {l : List DoW} {x : DoW} (h : DosW w A n l) (hx : l[k]? = some x) :
    ∃ b o C q e B m d, A = some ⟨b, o, none⟩ ∧ RI w C q x.l ∧ q ≤ e ∧ e ≤ maxLen ∧ RB w B m x.b ∧ m ≤ d ∧ d ≤ maxLen ∧ (-9223372036854775808 ≤ x.n ∧ x.n ≤ 9223372036854775807) ∧ IntOk x.l ∧
      ∀ (w' : World) (B0 : Nat), Below B0 w w' → w.heap.size ≤ B0 → b < w'.heap.size ∧ w'.cell? ⟨b, o + k * 4, none⟩ = some (.int .i64 x.kind) ∧ w'.cell? ⟨b, o + k * 4 + 1, none⟩ = some (.int .i64 x.n) ∧ w'.cell? ⟨b, o + k * 4 + 2, none⟩ = some (.slice C q e) ∧ w'.cell? ⟨b, o + k * 4 + 3, none⟩ = some (.slice B m d) := by
  obtain ⟨b, o, C, q, e, B, m, c, hA, hlt, c0, c1, c2, c3, hi, h1, h2, hr, hm, hc, _, hn, ho⟩ := h.2 k x hx
  refine ⟨b, o, C, q, e, B, m, c, hA, hi, h1, h2, hr, hm, hc, hn, ho, fun w' B0 hb hB => ?_⟩
  have hs := hb.size
  have hcl : ∀ j, w'.cell? ⟨b, j, none⟩ = w.cell? ⟨b, j, none⟩ := fun j => hb.cell (p := ⟨b, j, none⟩) (by show b < B0; omega)
  exact ⟨by omega, by rw [hcl]; exact c0, by rw [hcl]; exact c1, by rw [hcl]; exact c2, by rw [hcl]; exact c3⟩
theorem intOk_of {l : List Int} (h : ∀ z ∈ l, -9223372036854775808 ≤ z ∧ z ≤ 9223372036854775807) : IntOk l := fun i hi => by
  unfold intAt
  rw [List.getD_eq_getElem?_getD, List.getElem?_eq_getElem hi]
  exact h _ (List.getElem_mem hi)
/-- What a law goes through with. -/
def fewWB (l : List DoW) : Bool := l.all (fun x => decide (x.b.length ≤ 200) && decide (x.l.length ≤ 20)) && decide (l.length ≤ 40)
theorem fewWB_true {l : List DoW} (h : fewWB l = true) : l.length ≤ 40 ∧ ∀ x ∈ l, x.b.length ≤ 200 ∧ x.l.length ≤ 20 := by
  unfold fewWB at h
  rw [Bool.and_eq_true, List.all_eq_true, decide_eq_true_eq] at h
  refine ⟨h.2, fun x hx => ?_⟩
  have := h.1 x hx
  rw [Bool.and_eq_true, decide_eq_true_eq, decide_eq_true_eq] at this
  exact this
theorem fewWB_no {l : List DoW} {k : Nat} {x : DoW} (hx : l[k]? = some x) (h : 200 < x.b.length ∨ 20 < x.l.length) : fewWB l = false := by
  cases hq : fewWB l with
  | false => rfl
  | true => have := (fewWB_true hq).2 x (List.mem_of_getElem? hx); omega
theorem fewWB_all {l : List DoW} (h : ∀ (k : Nat) (x : DoW), l[k]? = some x → x.b.length ≤ 200 ∧ x.l.length ≤ 20) : fewWB l = decide (l.length ≤ 40) := by
  unfold fewWB
  rw [show l.all (fun x => decide (x.b.length ≤ 200) && decide (x.l.length ≤ 20)) = true from by
    rw [List.all_eq_true]
    intro x hx
    obtain ⟨k, hk⟩ := List.getElem?_of_mem hx
    rw [Bool.and_eq_true, decide_eq_true_eq, decide_eq_true_eq]
    exact h k x hk, Bool.true_and]
end Go.Proofs.Ytalmdccgpigppaa
namespace Go.Proofs.Ytalmdccgpigppaa
open Go.RowKit Go.WideShapes Go.ChangeShapes Go.Deep Go.Joins
set_option linter.unusedVariables false
set_option linter.unusedSimpArgs false
section
variable {H : Type} {enc : TypeId × Value → H} {w : World} {base b0 : Nat} {held : Bool} {r : Reach} {v : Value} {d : DataW H} {ps : List MemPlace}
set_option maxRecDepth 100000 in
theorem args_dos35 (hval : Value.okWide Try.prog w r b0 55 v) (hd : DataW.Trod enc Try.prog w base (fun _ => true) held 55 v d ps) :
    ∃ A n c l, v = .slice A n c ∧ DosW w A n l ∧ n ≤ c ∧ c ≤ maxLen := by
  obtain ⟨A, n, c, rfl, hn, hc, hat⟩ := open_structs (k := 4) Try.underlying55 Try.underlying65 (by kernel_rfl) (by kernel_rfl) rfl (by omega) hval hd
  have hx : ∀ i, i < n → ∃ x : DoW, ∃ b o C q e B m c, A = some ⟨b, o, none⟩ ∧ b < w.heap.size ∧ w.cell? ⟨b, o + i * 4 + 0, none⟩ = some (.int .i64 x.kind) ∧ w.cell? ⟨b, o + i * 4 + 1, none⟩ = some (.int .i64 x.n) ∧ w.cell? ⟨b, o + i * 4 + 2, none⟩ = some (.slice C q e) ∧ w.cell? ⟨b, o + i * 4 + 3, none⟩ = some (.slice B m c) ∧
      RI w C q x.l ∧ q ≤ e ∧ e ≤ maxLen ∧ RB w B m x.b ∧ m ≤ c ∧ c ≤ maxLen ∧ (-9223372036854775808 ≤ x.kind ∧ x.kind ≤ 9223372036854775807) ∧ (-9223372036854775808 ≤ x.n ∧ x.n ≤ 9223372036854775807) ∧ IntOk x.l := by
    intro i hi
    obtain ⟨b, o, vs, hA, hb, hl, hcell, fuel, hf⟩ := hat i hi
    obtain ⟨u0, y0, e0, t0⟩ := hf 0 _ rfl
    obtain ⟨u1, y1, e1, t1⟩ := hf 1 _ rfl
    obtain ⟨u2, y2, e2, t2⟩ := hf 2 _ rfl
    obtain ⟨u3, y3, e3, t3⟩ := hf 3 _ rfl
    obtain ⟨z0, hz0, _, hw0⟩ := DataW.trod_int Try.underlying3 t0
    obtain ⟨z1, hz1, _, hw1⟩ := DataW.trod_int Try.underlying3 t1
    have hz0 : u0 = .int .i64 z0 := by simpa using hz0
    have hz1 : u1 = .int .i64 z1 := by simpa using hz1
    subst hz0 hz1
    obtain ⟨C, q, c2, li, rfl, r2, k2, m2, hin⟩ := trod_ints Try.underlying54 Try.underlying3 (by kernel_rfl) t2
    obtain ⟨B, m, c', l, rfl, r1, k1, m1⟩ := trod_bytes Try.underlying26 Try.underlying5 (by kernel_rfl) t3
    exact ⟨⟨z0, z1, li, l⟩, b, o, C, q, c2, B, m, c', hA, hb, (hcell 0 (by omega)).trans e0, (hcell 1 (by omega)).trans e1, (hcell 2 (by omega)).trans e2, (hcell 3 (by omega)).trans e3, r2, k2, m2, r1, k1, m1, bounds_i64 hw0, bounds_i64 hw1, intOk_of hin⟩
  obtain ⟨l, hl, hp⟩ := list_of hx
  exact ⟨A, n, c, l, rfl, ⟨hl, hp⟩, hn, hc⟩
end
set_option maxRecDepth 100000 in
set_option maxHeartbeats 4000000 in
theorem few35_any (A : Option Addr) (n c : Nat) (l : List DoW) (w : World) (hl : DosW w A n l) (hn : n ≤ maxLen) :
    Calls Try.prog 21 #[.slice A n c] w fun e w' => e = .returned (.bool (fewWB l)) ∧ Below w.heap.size w w' := by
  have hlen := Lib.hid hl.1
  unfold maxLen at hn
  go_enter Try.func21, Try.ntmps21
  go_wp2
  go_loopw [4, 7] (fun _ i wr => ∃ k : Nat, k ≤ n ∧ i = .int .i64 (k : Nat) ∧ (∀ (j : Nat) (x : DoW), j < k → l[j]? = some x → x.b.length ≤ 200 ∧ x.l.length ≤ 20) ∧ Below w.heap.size w wr) (fun _ i _ => n - (intOf i).toNat)
  case atStart => exact ⟨0, by omega, rfl, fun j x hj => absurd hj (by omega), Below.refl _ _⟩
  case round =>
    obtain ⟨k, hk, rfl, hsm, hbel⟩ := hrel
    have Hsm := Lib.hid hsm
    clear hsm
    by_cases hlt : k < n
    · have hkl : k < l.length := by rw [hlen.out]; exact hlt
      have hbs := hbel.size
      obtain ⟨x, hx⟩ : ∃ x, l[k]? = some x := ⟨_, List.getElem?_eq_getElem hkl⟩
      obtain ⟨b, o, C, q, e, B, m, d, rfl, hb, e0, e1, e2, e3, hi, hqe, he, hr, hmd, hd, _, _, _⟩ := (hl.below hbel (Nat.le_refl _)).2 k x hx
      have hm : m ≤ 9223372036854775807 := by unfold maxLen at hd; omega
      have hq : q ≤ 9223372036854775807 := by unfold maxLen at he; omega
      have HX := Lib.hid hx
      have Hr := Lib.hid hr.1
      have Hi := Lib.hid hi.1
      simp only [Nat.add_zero] at e0
      clear hx hr hd hi he
      by_cases hbig : 200 < m
      · have hno : Hid (fewWB l = false) := fewWB_no HX.out (.inl (by rw [Hr.out]; exact hbig))
        go_wp2
        go_ret
        exact ⟨ret_bool hno.out.symm, (by (repeat' (first | (with_reducible exact Below.refl _ _) | (with_reducible assumption) | (with_reducible refine Below.drew ?_) | (with_reducible refine below_drewN ?_ _) | (with_reducible refine Below.alloc ?_ ?_ _) | (with_reducible refine Below.setCell ?_ ?_ _) | omega | (simp; done) | (simp; omega))))⟩
      · by_cases hbig2 : 20 < q
        · have hno : Hid (fewWB l = false) := fewWB_no HX.out (.inr (by rw [Hi.out]; exact hbig2))
          go_wp2
          go_ret
          exact ⟨ret_bool hno.out.symm, (by (repeat' (first | (with_reducible exact Below.refl _ _) | (with_reducible assumption) | (with_reducible refine Below.drew ?_) | (with_reducible refine below_drewN ?_ _) | (with_reducible refine Below.alloc ?_ ?_ _) | (with_reducible refine Below.setCell ?_ ?_ _) | omega | (simp; done) | (simp; omega))))⟩
        · have hsm2 : Hid (∀ (j : Nat) (x : DoW), j < k + 1 → l[j]? = some x → x.b.length ≤ 200 ∧ x.l.length ≤ 20) := fun j x hj hx => by
            rcases Nat.lt_or_ge j k with q | q
            · exact Hsm.out j x q hx
            · have : j = k := by omega
              subst this
              rw [HX.out] at hx
              injection hx with hx
              rw [← hx, Hr.out, Hi.out]; omega
          go_wp2
          go_roundw
          case rel => exact ⟨k + 1, by omega, by go_num, hsm2.out, (by (repeat' (first | (with_reducible exact Below.refl _ _) | (with_reducible assumption) | (with_reducible refine Below.drew ?_) | (with_reducible refine below_drewN ?_ _) | (with_reducible refine Below.alloc ?_ ?_ _) | (with_reducible refine Below.setCell ?_ ?_ _) | omega | (simp; done) | (simp; omega))))⟩
          case measure => simp [intOf]; omega
    · have hk9 : k = n := by omega
      subst hk9
      have hall : Hid (fewWB l = decide (k ≤ 40)) := by
        show _ = _
        rw [fewWB_all (fun j x hx => Hsm.out j x (by rw [← hlen.out]; exact (List.getElem?_eq_some_iff.1 hx).1) hx), hlen.out]
      go_wp2
      go_ret
      exact ⟨ret_bool (by rw [hall.out]; first | rfl | (simp; done) | (simp; omega)), (by (repeat' (first | (with_reducible exact Below.refl _ _) | (with_reducible assumption) | (with_reducible refine Below.drew ?_) | (with_reducible refine below_drewN ?_ _) | (with_reducible refine Below.alloc ?_ ?_ _) | (with_reducible refine Below.setCell ?_ ?_ _) | omega | (simp; done) | (simp; omega))))⟩
end Go.Proofs.Ytalmdccgpigppaa
namespace Go.Proofs.Ytalmdccgpigppaa
open Go.RowKit
set_option linter.unusedVariables false
set_option linter.unusedSimpArgs false
def Made35 (w : World) (D : DiskV) (e : Ending) (w' : World) : Prop := ∃ p ga, e = .returned (.tuple #[.pointer (some ⟨p.d, 0, none⟩), .pointer (some ⟨ga, 0, none⟩)]) ∧ DiskS w' w.heap.size p D ∧ AreaAt w' ga p.d 1 8 ∧ Below w.heap.size w w'
theorem made35_ok (B : Option Addr) (n d : Nat) (img : List UInt8) (room : Int) (w : World) (hr : RB w B n img) (hnd : n ≤ d) (r0 : 0 ≤ room) (r1 : room ≤ 10) (hl : n ≤ 1280) (hu : (usedN img : Int) ≤ room) :
    Calls Try.prog 23 #[.slice B n d, .int .i64 room] w (Made35 w (loadD 10 room img (usedN img))) := by
  have hld : Calls Try.prog 45 #[.slice B n d, .int .i64 10, .int .i64 room] w (LdPost w (loadD 10 room img (usedN img))) := load_ok B n d img 10 room w hr hnd (by omega) (by omega) r0 r1 (by omega) hu
  have hmany : (loadD 10 room img (usedN img)).many = 10 := rfl
  generalize loadD 10 room img (usedN img) = D at *
  have hna : ∀ {w1 : World} {p : DiskP}, DiskS w1 w.heap.size p D → w.heap.size ≤ w1.heap.size → Calls Try.prog 46 #[.pointer (some ⟨p.d, 0, none⟩), .agg #[.int .i64 1, .int .i64 8]] w1 fun e w' => ∃ ga, e = .returned (.tuple #[.pointer (some ⟨ga, 0, none⟩), .int .i64 0]) ∧ AreaAt w' ga p.d 1 8 ∧ w1.heap.size ≤ ga ∧ DiskS w' w.heap.size p D ∧ Step mutD w.heap.size p w1 w' := fun h hs => s_anew h hs 1 8 (by omega) (by rw [hmany]; omega)
  go_enter Try.func23, Try.ntmps23
  go_wp2_with (first
    | ((go_at_call 45; (with_reducible refine (hld).mono ?_); rintro e w1 ⟨p, rfl, h1, b1⟩); have H1 := Lib.hid h1; have s1 := b1.size; clear h1)
    | ((go_at_call 46; (with_reducible refine (hna H1.out s1).mono ?_); rintro e w2 ⟨ga, rfl, ha2, hg2, h2, s2⟩); have H2 := Lib.hid h2; have A2 := Lib.hid ha2; clear h2 ha2)
    | fail "no arm")
  go_ret2
  exact ⟨p, ga, rfl, H2.out, A2.out, b1.trans s2.bel⟩
theorem fdopen_ok {w : World} {base ga f m : Nat} {ts : List Int} {p : DiskP} {D : DiskV} (ha : AreaAt w ga p.d f m) (hm : 1 ≤ m) (hd : DiskS w base p D) (hs : base ≤ w.heap.size) (hfm : f + m ≤ D.many) (hwt : D.waits.length < 900000) (A : Option Addr) (n c : Nat) (ht : IntsAt w base A n ts) {D' : DiskV} {next : Nat} (h : fOpenV D f m 3 ts = (D', next, 0)) :
    Calls Try.prog 24 #[.pointer (some ⟨ga, 0, none⟩), .slice A n c] w fun e w' => ∃ g, e = .returned (.tuple #[.pointer (some ⟨g, 0, none⟩), .int .i64 0]) ∧ w.heap.size ≤ g ∧ JRowsAt 143 w' base g ga 3 next ts ∧ DiskS w' base p D' ∧ Step mutD base p w w' := by
  have := fdopen_any ha hm hd hs hfm hwt A n c ht
  rw [h] at this
  exact this.mono fun e w' ⟨P, h1, _, h3, h4, h5⟩ => by
    obtain ⟨g, e1, e2, e3⟩ := h3 rfl
    subst e1
    exact ⟨g, h1, e2, e3, h4, h5⟩
theorem ints_lit {w : World} {base g : Nat} {cs : Array Value} {l : List Int} (hg : w.heap[g]? = some (.cells cs 3 (0, 0))) (h : cs.toList = l.map iv) (hm : l.length ≤ maxLen) : IntsAt w base (some ⟨g, 0, none⟩) l.length l :=
  ⟨(Rd.of_block hg h).ri, hm, fun _ g' hg' => by
    simp only [Option.map_some, Option.some.injEq] at hg'
    subst hg'
    exact .inr ⟨cs.toList, by unfold Blk; rw [hg]⟩⟩
end Go.Proofs.Ytalmdccgpigppaa
namespace Go.Proofs.Ytalmdccgpigppaa
open Go.RowKit
set_option linter.unusedVariables false
set_option linter.unusedSimpArgs false
def F0 : DiskV := loadD 10 10 [] 0
def F1 : DiskV := (fOpenV F0 1 8 3 [1, 2]).1
def F2 : DiskV := (fAddV F1 1 8 3 0 [1, 2] [7, 1]).1
def F3 : DiskV := (fAddV F2 1 8 3 1 [1, 2] [-8, 0]).1
def F4 : DiskV := crashV F3 []
def F5 : DiskV := (fOpenV F4 1 8 3 [1, 2]).1
theorem f_facts : (fOpenV F0 1 8 3 [1, 2]).2 = (0, 0) ∧ (fAddV F1 1 8 3 0 [1, 2] [7, 1]).2 = (1, 0, 0) ∧ (fAddV F2 1 8 3 1 [1, 2] [-8, 0]).2 = (2, 1, 0) ∧ (fOpenV F4 1 8 3 [1, 2]).2 = (2, 0) ∧ (fGetV F5 1 8 3 2 [1, 2] 0).2 = ([7, 1], 0) := by decide +kernel
theorem pair_eq {α β : Type} {a : α × β} {b : β} (h : a.2 = b) : a = (a.1, b) := by subst h; rfl
theorem f_eqs : fOpenV F0 1 8 3 [1, 2] = (F1, 0, 0) ∧ fAddV F1 1 8 3 0 [1, 2] [7, 1] = (F2, 1, 0, 0) ∧ fAddV F2 1 8 3 1 [1, 2] [-8, 0] = (F3, 2, 1, 0) ∧ fOpenV F4 1 8 3 [1, 2] = (F5, 2, 0) := by
  obtain ⟨f1, f2, f3, f4, _⟩ := f_facts
  refine ⟨?_, ?_, ?_, ?_⟩
  · exact pair_eq f1
  · exact pair_eq f2
  · exact pair_eq f3
  · exact pair_eq f4
theorem f_many : F0.many = 10 ∧ F1.many = 10 ∧ F2.many = 10 ∧ F3.many = 10 ∧ F4.many = 10 ∧ F5.many = 10 := by decide +kernel
theorem f_waits : F0.waits.length = 0 ∧ F1.waits.length = 0 ∧ F2.waits.length = 0 ∧ F3.waits.length = 0 ∧ F4.waits.length = 0 ∧ F5.waits.length = 0 := by decide +kernel
theorem startF (ts : List Int) (hr : rightB ts = true) : ∃ D2, fOpenV F0 1 8 3 ts = (D2, 0, 0) ∧ FdOn D2 ts [] := by
  have hs : ∀ n : Fin 8, byteAt (secOf F0.now ((1 + n.val : Nat) : Int)) 127 = 0 := by decide +kernel
  have hw : F0.waits = [] := by decide +kernel
  have hc : FdC F0 ts [] [] := ⟨by decide +kernel, hr, RowsOk.nil ts, Nat.zero_le _, rfl, Nat.le_refl _, by decide +kernel, fun s => secOf F0.now (s : Int),
    ⟨⟨⟨by decide +kernel, by decide +kernel, by decide +kernel, by decide +kernel, by decide +kernel, by decide +kernel, fun p hp => (by rw [hw] at hp; cases hp), by decide +kernel, by decide +kernel, by decide +kernel⟩, by decide +kernel, by decide +kernel, by decide +kernel, by decide +kernel⟩, hw, fun s hs => rfl⟩, fun n hn => ⟨fun l hl => absurd hl (by simp), fun _ => .inl (hs ⟨n, hn⟩)⟩⟩
  obtain ⟨D2, got, e, h1, h2, h3, h4⟩ := hc.opened
  have : got = [] := List.eq_nil_of_length_eq_zero (by simpa using h4)
  subst this
  exact ⟨D2, e, h1⟩
end Go.Proofs.Ytalmdccgpigppaa
namespace Go.Proofs.Ytalmdccgpigppaa
open Go.RowKit
set_option linter.unusedVariables false
set_option linter.unusedSimpArgs false
set_option maxRecDepth 100000 in
set_option maxHeartbeats 8000000 in
theorem awake35 (w : World) : Calls Try.prog 20 #[] w fun e w' => e = .returned (.bool true) ∧ Below w.heap.size w w' := by
  obtain ⟨f1, f2, f3, f4⟩ := f_eqs
  have f5 := f_facts.2.2.2.2
  obtain ⟨m0, m1, m2, m3, m4, m5⟩ := f_many
  obtain ⟨w0, w1, w2, w3, w4, w5⟩ := f_waits
  have hr12 : rightB [1, 2] = true := by decide
  have hmd : Calls Try.prog 23 #[.slice none 0 0, .int .i64 10] w (Made35 w F0) := made35_ok none 0 0 [] 10 w ⟨rfl, Row.nil _ _ _⟩ (by omega) (by omega) (by omega) (by omega) (by show ((0 : Nat) : Int) ≤ 10; omega)
  have i12 : ∀ (W : World) (base : Nat), IntsAt (W.alloc (.cells #[.int .i64 1, .int .i64 2] 3)) base (some ⟨W.heap.size, 0, none⟩) 2 [1, 2] := fun W base => ints_lit (l := [1, 2]) (heap_top _ _ rfl) rfl (by decide)
  have c1 : ∀ {W : World} {base ga : Nat} {p : DiskP}, AreaAt W ga p.d 1 8 → DiskS W base p F0 → base ≤ W.heap.size → Calls Try.prog 24 #[.pointer (some ⟨ga, 0, none⟩), .slice (some ⟨W.heap.size, 0, none⟩) 2 2] (W.alloc (.cells #[.int .i64 1, .int .i64 2] 3)) fun e w' => ∃ g, e = .returned (.tuple #[.pointer (some ⟨g, 0, none⟩), .int .i64 0]) ∧ W.heap.size ≤ g ∧ JRowsAt 143 w' base g ga 3 0 [1, 2] ∧ DiskS w' base p F1 ∧ Step mutD base p W w' :=
    fun {W base ga p} ha hd hs => (fdopen_ok (ha.alloc _) (by omega) (hd.alloc _) (by simp; omega) (by rw [m0]; omega) (by rw [w0]; omega) _ 2 2 (i12 W base) (D' := F1) (next := 0) f1).mono fun e w' ⟨g, h1, h2, h3, h4, h5⟩ => ⟨g, h1, by simp at h2; omega, h3, h4, (Step.of_below ((Below.refl _ _).alloc (Nat.le_refl _) _) hs).trans h5⟩
  have c5 : ∀ {W : World} {base ga : Nat} {p : DiskP}, AreaAt W ga p.d 1 8 → DiskS W base p F4 → base ≤ W.heap.size → Calls Try.prog 24 #[.pointer (some ⟨ga, 0, none⟩), .slice (some ⟨W.heap.size, 0, none⟩) 2 2] (W.alloc (.cells #[.int .i64 1, .int .i64 2] 3)) fun e w' => ∃ g, e = .returned (.tuple #[.pointer (some ⟨g, 0, none⟩), .int .i64 0]) ∧ W.heap.size ≤ g ∧ JRowsAt 143 w' base g ga 3 2 [1, 2] ∧ DiskS w' base p F5 ∧ Step mutD base p W w' :=
    fun {W base ga p} ha hd hs => (fdopen_ok (ha.alloc _) (by omega) (hd.alloc _) (by simp; omega) (by rw [m4]; omega) (by rw [w4]; omega) _ 2 2 (i12 W base) (D' := F5) (next := 2) f4).mono fun e w' ⟨g, h1, h2, h3, h4, h5⟩ => ⟨g, h1, by simp at h2; omega, h3, h4, (Step.of_below ((Below.refl _ _).alloc (Nat.le_refl _) _) hs).trans h5⟩
  have c2 : ∀ {W : World} {base ga g : Nat} {p : DiskP}, JRowsAt 143 W base g ga 3 0 [1, 2] → AreaAt W ga p.d 1 8 → DiskS W base p F1 → base ≤ W.heap.size → Calls Try.prog 25 #[.pointer (some ⟨g, 0, none⟩), .slice (some ⟨W.heap.size, 0, none⟩) 2 2] (W.alloc (.cells #[.int .i64 7, .int .i64 1] 3)) fun e w' => e = .returned (.tuple #[.int .i64 0, .int .i64 0]) ∧ DiskS w' base p F2 ∧ JRowsAt 143 w' base g ga 3 1 [1, 2] ∧ Step mutJ base p W w' :=
    fun {W base ga g p} hj ha hd hs => by
      have hb : Below W.heap.size W (W.alloc (.cells #[.int .i64 7, .int .i64 1] 3)) := (Below.refl _ _).alloc (Nat.le_refl _) _
      have := fdadd_any (hj.below hb) (hd.alloc _) (by simp; omega) (ha.alloc _) (by rw [m1]; omega) (by omega) (by omega) (by rw [w1]; omega) hr12 (some ⟨W.heap.size, 0, none⟩) 2 2 (l := [7, 1]) (ints_lit (base := 0) (l := [7, 1]) (heap_top _ _ rfl) rfl (by decide)).ri (by decide) (by intro i hi; have : i = 0 ∨ i = 1 := (by simp at hi; omega); rcases this with rfl | rfl <;> decide)
      rw [f2] at this
      exact this.mono fun e w' ⟨h1, h2, h3, h4⟩ => ⟨h1, h2, h3, (Step.of_below hb hs).trans h4⟩
  have c3 : ∀ {W : World} {base ga g : Nat} {p : DiskP}, JRowsAt 143 W base g ga 3 1 [1, 2] → AreaAt W ga p.d 1 8 → DiskS W base p F2 → base ≤ W.heap.size → Calls Try.prog 25 #[.pointer (some ⟨g, 0, none⟩), .slice (some ⟨W.heap.size, 0, none⟩) 2 2] (W.alloc (.cells #[.int .i64 (-8), .int .i64 0] 3)) fun e w' => e = .returned (.tuple #[.int .i64 1, .int .i64 0]) ∧ DiskS w' base p F3 ∧ JRowsAt 143 w' base g ga 3 2 [1, 2] ∧ Step mutJ base p W w' :=
    fun {W base ga g p} hj ha hd hs => by
      have hb : Below W.heap.size W (W.alloc (.cells #[.int .i64 (-8), .int .i64 0] 3)) := (Below.refl _ _).alloc (Nat.le_refl _) _
      have := fdadd_any (hj.below hb) (hd.alloc _) (by simp; omega) (ha.alloc _) (by rw [m2]; omega) (by omega) (by omega) (by rw [w2]; omega) hr12 (some ⟨W.heap.size, 0, none⟩) 2 2 (l := [-8, 0]) (ints_lit (base := 0) (l := [-8, 0]) (heap_top _ _ rfl) rfl (by decide)).ri (by decide) (by intro i hi; have : i = 0 ∨ i = 1 := (by simp at hi; omega); rcases this with rfl | rfl <;> decide)
      rw [f3] at this
      exact this.mono fun e w' ⟨h1, h2, h3, h4⟩ => ⟨h1, h2, h3, (Step.of_below hb hs).trans h4⟩
  have c4 : ∀ {W : World} {base : Nat} {p : DiskP}, DiskS W base p F3 → base ≤ W.heap.size → Calls Try.prog 14 #[.pointer (some ⟨p.d, 0, none⟩), .slice none 0 0] W fun e w' => e = .returned (.tuple #[]) ∧ DiskS w' base p F4 ∧ Step mutD base p W w' := fun hd hs => s_crash hd hs none 0 0 [] ⟨rfl, Row.nil _ _ _⟩ (fun h => absurd h (by omega)) (by decide)
  have c6 : ∀ {W : World} {base ga g : Nat} {p : DiskP}, JRowsAt 143 W base g ga 3 2 [1, 2] → AreaAt W ga p.d 1 8 → DiskS W base p F5 → base ≤ W.heap.size → Calls Try.prog 27 #[.pointer (some ⟨g, 0, none⟩), .int .i64 0] W fun e w' => ∃ B d, e = .returned (.tuple #[.slice B 2 d, .int .i64 0]) ∧ RI w' B 2 [7, 1] ∧ JRowsAt 143 w' base g ga 3 2 [1, 2] ∧ Step mutD base p W w' :=
    fun hj ha hd hs => by
      have := fdget_any hj hd hs ha (by rw [m5]; omega) (by omega) 0
      rw [f5] at this
      exact this.mono fun e w' ⟨B, k, d, h1, h2, h3, h4⟩ => by
        have hk : k = 2 := h2.1.symm
        subst hk
        exact ⟨B, d, h1, h2.rd.ri, hj.step hd h4 (by decide) (by decide) (by decide), h4⟩
  have c8 : ∀ {W : World} {L : Option Addr} {d g : Nat}, RI W L 2 [7, 1] → g = W.heap.size → Calls Try.prog 36 #[.slice L 2 d, .slice (some ⟨g, 0, none⟩) 2 2] (W.alloc (.cells #[.int .i64 7, .int .i64 1] 3)) fun e w' => e = .returned (.bool true) ∧ ∃ q, w' = (W.alloc (.cells #[.int .i64 7, .int .i64 1] 3)).drewN q :=
    fun {W L d g} hl hg => by
      subst hg
      exact (ints_any L (some ⟨W.heap.size, 0, none⟩) 2 2 d 2 [7, 1] [7, 1] _ (hl.below (B := W.heap.size) ((Below.refl _ _).alloc (Nat.le_refl _) _) (Nat.le_refl _)) (ints_lit (base := 0) (l := [7, 1]) (heap_top _ _ rfl) rfl (by decide)).ri (by decide)).mono fun e w' ⟨h1, h2⟩ => ⟨by rw [h1, decide_eq_true (rfl : ([7, 1] : List Int) = [7, 1])], h2⟩
  generalize F5 = d6 at *
  generalize F4 = d5 at *
  generalize F3 = d4 at *
  generalize F2 = d3 at *
  generalize F1 = d2 at *
  generalize F0 = d1 at *
  clear f1 f2 f3 f4 f5 m0 m1 m2 m3 m4 m5 w0 w1 w2 w3 w4 w5 i12
  go_enter Try.func20, Try.ntmps20
  go_wp2_with (first
    | ((go_at_call 23; (with_reducible refine (hmd).mono ?_); rintro e w1 ⟨p, ga, rfl, h1, a1, b1⟩); have H1 := Lib.hid h1; have A1 := Lib.hid a1; have s1 := b1.size; clear h1 a1)
    | ((go_at_call 24; (with_reducible refine (c1 A1.out H1.out s1).mono ?_); rintro e w2 ⟨gj, rfl, g2, j2, h2, st2⟩); have A2 := Lib.hid (H1.out.area A1.out st2.tch (by decide)); have H2 := Lib.hid h2; have J2 := Lib.hid j2; have S2 := Lib.hid (b1.trans st2.bel); have s2 := S2.out.size; clear h2 j2 st2)
    | ((go_at_call 25; (with_reducible refine (c2 J2.out A2.out H2.out s2).mono ?_); rintro e w3 ⟨rfl, h3, j3, st3⟩); have A3 := Lib.hid (H2.out.area A2.out st3.tch (by decide)); have B3 := Lib.hid (S2.out.trans st3.bel); have H3 := Lib.hid h3; have J3 := Lib.hid j3; have s3 := B3.out.size; clear h3 j3 st3)
    | ((go_at_call 25; (with_reducible refine (c3 J3.out A3.out H3.out s3).mono ?_); rintro e w4 ⟨rfl, h4, j4, st4⟩); have A4 := Lib.hid (H3.out.area A3.out st4.tch (by decide)); have B4 := Lib.hid (B3.out.trans st4.bel); have H4 := Lib.hid h4; have J4 := Lib.hid j4; have s4 := B4.out.size; clear h4 j4 st4)
    | ((go_at_call 14; (with_reducible refine (c4 H4.out s4).mono ?_); rintro e w5 ⟨rfl, h5, st5⟩); have A5 := Lib.hid (H4.out.area A4.out st5.tch (by decide)); have B5 := Lib.hid (B4.out.trans st5.bel); have H5 := Lib.hid h5; have s5 := B5.out.size; clear h5 st5)
    | ((go_at_call 24; (with_reducible refine (c5 A5.out H5.out s5).mono ?_); rintro e w6 ⟨gk, rfl, g6, j6, h6, st6⟩); have A6 := Lib.hid (H5.out.area A5.out st6.tch (by decide)); have B6 := Lib.hid (B5.out.trans st6.bel); have H6 := Lib.hid h6; have J6 := Lib.hid j6; have s6 := B6.out.size; clear h6 j6 st6)
    | ((go_at_call 27; (with_reducible refine (c6 J6.out A6.out H6.out s6).mono ?_); rintro e w7 ⟨L, dd, rfl, r7, j7, st7⟩); have J7 := Lib.hid j7; have B7 := Lib.hid (B6.out.trans st7.bel); have s7 := B7.out.size; have R7 := Lib.hid r7; clear r7 st7 j7)
    | (go_at_call 26; (with_reducible refine (fdlen_any J7.out).mono ?_); rintro e w8 ⟨rfl, rfl⟩)
    | ((go_at_call 36; (with_reducible refine (c8 R7.out rfl).mono ?_); rintro e w10 ⟨rfl, q10, rfl⟩))
    | fail "no arm")
  go_ret
  exact ⟨rfl, below_drewN ((B7.out.alloc s7 _)) q10⟩
end Go.Proofs.Ytalmdccgpigppaa
namespace Go.Proofs.Ytalmdccgpigppaa
open Go.RowKit
set_option linter.unusedVariables false
set_option linter.unusedSimpArgs false
/-- A disk, an area of it and a journal of rows in it. -/
structure SeatAt (t : TypeId) (w0 w : World) (p : DiskP) (ga g : Nat) (kind : Int) (D : DiskV) (next : Nat) (ts : List Int) : Prop where
  d : DiskS w w0.heap.size p D
  a : AreaAt w ga p.d 1 8
  j : JRowsAt t w w0.heap.size g ga kind next ts
  b : Below w0.heap.size w0 w
section
variable {t : TypeId} {w0 w w' : World} {p : DiskP} {ga g next n' : Nat} {kind : Int} {D D' : DiskV} {ts : List Int} {M : List TypeId}
theorem SeatAt.size (h : SeatAt t w0 w p ga g kind D next ts) : w0.heap.size ≤ w.heap.size := h.b.size
theorem SeatAt.below (h : SeatAt t w0 w p ga g kind D next ts) (hb : Below w.heap.size w w') : SeatAt t w0 w' p ga g kind D next ts :=
  ⟨h.d.below hb, Blk.below h.a hb (Blk.lt h.a), h.j.below hb, h.b.trans (hb.mono h.size)⟩
theorem SeatAt.step (h : SeatAt t w0 w p ga g kind D next ts) (hd : DiskS w' w0.heap.size p D') (k : Step M w0.heap.size p w w') (h1 : t ∉ 4 :: M) (h2 : 178 ∉ 4 :: M) (h3 : 3 ∉ 4 :: M) (h4 : 169 ∉ 4 :: M) : SeatAt t w0 w' p ga g kind D' next ts :=
  ⟨hd, h.d.area h.a k.tch h4, h.j.step h.d k h1 h2 h3, h.b.trans k.bel⟩
/-- As step, where the journal is another. -/
theorem SeatAt.stepJ {g' : Nat} (h : SeatAt t w0 w p ga g kind D next ts) (hd : DiskS w' w0.heap.size p D') (hj : JRowsAt t w' w0.heap.size g' ga kind n' ts) (k : Step M w0.heap.size p w w') (h4 : 169 ∉ 4 :: M) : SeatAt t w0 w' p ga g' kind D' n' ts :=
  ⟨hd, h.d.area h.a k.tch h4, hj, h.b.trans k.bel⟩
end
/-- What is done, in the law's own variable. -/
def XAt (t : TypeId) (w : World) (g : Nat) (x : DoW) (C : Option Addr) (q e : Nat) (B : Option Addr) (m c : Nat) : Prop := Blk w g t (doW x C q e B m c)
theorem ow_empty {α : Type} {enc : α → Value} {W : World} {base g : Nat} {e : TypeId} (h : Blk W g e []) (hb : base ≤ g) : Ow enc W base e (some ⟨g, 0, none⟩) 0 0 [] :=
  ⟨rfl, rfl, .inr ⟨g, 0, #[], rfl, hb, h, Nat.le_refl _, by unfold maxLen; omega, rfl, rfl⟩⟩
theorem Blk.hdr {W : World} {g : Nat} {h : SlV} (hb : Blk W g 54 [slV h]) : Rd slV W (some ⟨g, 0, none⟩) 1 [h] := Rd.of_block (l := [h]) hb rfl
theorem ints_snoc {w : World} {base N : Nat} {hs : List SlV} {h : SlV} {Ls : List (List Int)} {L : List Int} (hl : Ls.length = N) (hhl : hs.length = N) (hi : ∀ (k : Nat) (h : SlV) (L : List Int), hs[k]? = some h → Ls[k]? = some L → IntsAt w base h.a h.n L) (hL : IntsAt w base h.a h.n L) :
    ∀ (k : Nat) (y : SlV) (Y : List Int), (hs ++ [h])[k]? = some y → (Ls ++ [L])[k]? = some Y → IntsAt w base y.a y.n Y := fun k y Y q1 q2 => by
  rcases Nat.lt_or_ge k N with hk | hk
  · rw [List.getElem?_append_left (by omega)] at q1 q2
    exact hi k y Y q1 q2
  · have hk9 : k = N := by
      have := (List.getElem?_eq_some_iff.1 q1).1
      rw [List.length_append, hhl, List.length_singleton] at this
      omega
    subst hk9
    rw [List.getElem?_append_right (by omega), hhl, Nat.sub_self] at q1
    rw [List.getElem?_append_right (by omega), hl, Nat.sub_self] at q2
    simp only [List.getElem?_cons_zero, Option.some.injEq] at q1 q2
    subst q1 q2
    exact hL
end Go.Proofs.Ytalmdccgpigppaa
