/- Parts: SinkA, SinkB, SinkC, PlainSinkC, Do36. -/
import Derived.Test.YtalmdccgpigppaaPart22
import Derived.Deep.DeepCutAuto
import Derived.Deep.CutBlock
import Derived.Test.YtalmdccgpigppaaPart23
import Derived.Test.YtalmdccgpigppaaPart25
namespace Go.Proofs.Ytalmdccgpigppaa
open Go.RowKit
set_option linter.unusedVariables false
set_option linter.unusedSimpArgs false
section
variable {w w' : World} {base g ga f m next : Nat} {kind : Int} {ts : List Int} {p : DiskP} {D : DiskV}
theorem skis_nil (w : World) : Calls Try.prog 70 #[.pointer none] w fun e w' => e = .returned (.bool false) ∧ w = w' := by
  go_enter Try.func70, Try.ntmps70
  go_wp2
  go_ret
  exact ⟨rfl, rfl⟩
theorem skis_yes (h : JRowsAt 151 w base g ga kind next ts) : Calls Try.prog 70 #[.pointer (some ⟨g, 0, none⟩)] w fun e w' => e = .returned (.bool true) ∧ w = w' := by
  obtain ⟨gj, A, n, c, hb, hg, hj, hi⟩ := h
  have c0 : w.cell? ⟨g, 0, none⟩ = some (.pointer (some ⟨gj, 0, none⟩)) := hb.cell 0
  clear hb hj hi
  go_enter Try.func70, Try.ntmps70
  go_wp2
  go_ret
  exact ⟨rfl, rfl⟩
theorem sklen_any (h : JRowsAt 151 w base g ga kind next ts) : Calls Try.prog 34 #[.pointer (some ⟨g, 0, none⟩)] w fun e w' => e = .returned (.int .i64 (next : Nat)) ∧ w = w' := by
  have hi := skis_yes h
  obtain ⟨gj, A, n, c, hb, hg, hj, _⟩ := h
  have c0 : w.cell? ⟨g, 0, none⟩ = some (.pointer (some ⟨gj, 0, none⟩)) := hb.cell 0
  have hl := jlen_any hj
  clear hb hj
  go_enter Try.func34, Try.ntmps34
  go_wp2_with (first
    | (go_at_call 70; (with_reducible refine (hi).mono ?_); rintro e w1 ⟨rfl, rfl⟩)
    | (go_at_call 62; (with_reducible refine (hl).mono ?_); rintro e w1 ⟨rfl, rfl⟩)
    | fail "no arm")
  go_ret
  exact ⟨rfl, rfl⟩
set_option maxRecDepth 100000 in
set_option maxHeartbeats 4000000 in
theorem skget_any (h : JRowsAt 151 w base g ga kind next ts) (hd : DiskS w base p D) (hs : base ≤ w.heap.size) (ha : AreaAt w ga p.d f m) (hfm : f + m ≤ D.many) (hnm : next ≤ 4096) (n : Int) :
    Calls Try.prog 35 #[.pointer (some ⟨g, 0, none⟩), .int .i64 n] w fun e w' => ∃ B k d, e = .returned (.tuple #[.slice B k d, .int .i64 (fGetV D f m kind next ts n).2.2]) ∧ Ow iv w' w.heap.size 3 B k d (fGetV D f m kind next ts n).2.1 ∧ DiskS w' base p (fGetV D f m kind next ts n).1 ∧ Step mutD base p w w' := by
  have his := skis_yes h
  have HH := Lib.hid h
  obtain ⟨gj, A, na, c, hb, hg, hj, hi⟩ := h
  have c0 : w.cell? ⟨g, 0, none⟩ = some (.pointer (some ⟨gj, 0, none⟩)) := hb.cell 0
  have hget := jget_any hj hd hs ha hfm hnm n
  have HB := Lib.hid hb
  have HI := Lib.hid hi
  have HD := Lib.hid hd
  obtain ⟨R, hR⟩ : ∃ R, R = jGetV D f m kind next n := ⟨_, rfl⟩
  rw [← hR] at hget
  obtain ⟨X, hX⟩ : ∃ X, X = fGetV D f m kind next ts n := ⟨_, rfl⟩
  have hXR : X = if R.2.2 ≠ 0 then (R.1, [], R.2.2) else if (readR ts R.2.1).2 ≠ 0 then (R.1, [], 41) else (R.1, (readR ts R.2.1).1, 0) := by rw [hX, hR]; rfl
  rw [← hX]
  have HX := Lib.hid hXR
  clear hb hi hd hj hX hR hXR
  obtain ⟨D1, bs, z⟩ := R
  simp only at hget HX
  by_cases hz : z = 0
  · subst hz
    have HX2 := Lib.hid (show X = if (readR ts bs).2 ≠ 0 then (D1, [], 41) else (D1, (readR ts bs).1, 0) from by rw [HX.out, if_neg (by simp)])
    clear HX
    have hrd := fun (W : World) (B : Option Addr) (k d : Nat) (r1 : RI W A na ts) (r2 : RB W B k bs) (hk : k ≤ d) (hd : d ≤ maxLen) => read_row A B na k c d ts bs W r1 r2 HI.out.len hk hd
    generalize hrr : readR ts bs = rr at *
    obtain ⟨l2, e2⟩ := rr
    clear hrr
    simp only at HX2
    by_cases he : e2 = 0
    · subst he
      have HXX := Lib.hid (show X = (D1, l2, 0) from by rw [HX2.out, if_neg (by simp)])
      clear HX2
      go_enter Try.func35, Try.ntmps35
      go_wp2_with (first
        | (go_at_call 70; (with_reducible refine (his).mono ?_); rintro e w1 ⟨rfl, rfl⟩)
        | ((go_at_call 67; (with_reducible refine (hget).mono ?_); rintro e w1 ⟨B1, k1, d1, rfl, o1, h1, st1⟩); have H1 := Lib.hid h1; have ST1 := Lib.hid st1; have I1 := Lib.hid (HI.out.step HD.out st1 (by decide)); have OB1 := Lib.hid o1; have cp := o1.cap; have s1 := st1.size; have hbk : Blk w1 g 151 [.pointer (some ⟨gj, 0, none⟩), .slice A na c] := HD.out.blk HB.out st1.tch (by decide); have x1 : w1.cell? ⟨g, 1, none⟩ = some (.slice A na c) := hbk.cell 1; clear o1 h1 st1 hbk)
        | ((go_at_call 68; (with_reducible refine (hrd _ _ _ _ I1.out.ri OB1.out.rd.rb cp.1 cp.2).mono ?_); rintro e w2 ⟨B2, k2, d2, rfl, o2, b2⟩); have H2 := Lib.hid (H1.out.below b2); have ST2 := Lib.hid (ST1.out.then_below (b2.mono s1) hs); have O2 := Lib.hid (o2.rebase (base' := w.heap.size) s1); clear o2 b2)
        | fail "no arm")
      go_ret2
      rw [HXX.out]
      exact ⟨B2, k2, d2, rfl, O2.out, H2.out, ST2.out⟩
    · have heb : (e2 != 0) = true := by rw [bne_iff_ne]; exact he
      have heI : (((e2 : Nat) : Int) != 0) = true := by rw [bne_iff_ne]; omega
      have HXX := Lib.hid (show X = (D1, [], 41) from by rw [HX2.out, if_pos he])
      clear HX2 he
      go_enter Try.func35, Try.ntmps35
      go_wp2_with (first
        | (go_at_call 70; (with_reducible refine (his).mono ?_); rintro e w1 ⟨rfl, rfl⟩)
        | ((go_at_call 67; (with_reducible refine (hget).mono ?_); rintro e w1 ⟨B1, k1, d1, rfl, o1, h1, st1⟩); have H1 := Lib.hid h1; have ST1 := Lib.hid st1; have I1 := Lib.hid (HI.out.step HD.out st1 (by decide)); have OB1 := Lib.hid o1; have cp := o1.cap; have s1 := st1.size; have hbk : Blk w1 g 151 [.pointer (some ⟨gj, 0, none⟩), .slice A na c] := HD.out.blk HB.out st1.tch (by decide); have x1 : w1.cell? ⟨g, 1, none⟩ = some (.slice A na c) := hbk.cell 1; clear o1 h1 st1 hbk)
        | ((go_at_call 68; (with_reducible refine (hrd _ _ _ _ I1.out.ri OB1.out.rd.rb cp.1 cp.2).mono ?_); rintro e w2 ⟨B2, k2, d2, rfl, o2, b2⟩); have H2 := Lib.hid (H1.out.below b2); have ST2 := Lib.hid (ST1.out.then_below (b2.mono s1) hs); clear o2 b2)
        | fail "no arm")
      go_ret2
      rw [HXX.out]
      exact ⟨none, 0, 0, rfl, Ow.nil _ _ _ _, H2.out, ST2.out⟩
  · have hzb : (z != 0) = true := by rw [bne_iff_ne]; exact hz
    have HXX := Lib.hid (show X = (D1, [], z) from by rw [HX.out, if_pos hz])
    clear HX hz
    go_enter Try.func35, Try.ntmps35
    go_wp2_with (first
      | (go_at_call 70; (with_reducible refine (his).mono ?_); rintro e w1 ⟨rfl, rfl⟩)
      | ((go_at_call 67; (with_reducible refine (hget).mono ?_); rintro e w1 ⟨B1, k1, d1, rfl, o1, h1, st1⟩); have H1 := Lib.hid h1; have ST1 := Lib.hid st1; clear o1 h1 st1)
      | fail "no arm")
    go_ret2
    rw [HXX.out]
    exact ⟨none, 0, 0, rfl, Ow.nil _ _ _ _, H1.out, ST1.out⟩
end
end Go.Proofs.Ytalmdccgpigppaa
namespace Go.Proofs.Ytalmdccgpigppaa
open Go.RowKit
set_option linter.unusedVariables false
set_option linter.unusedSimpArgs false
theorem skopen_nil (w : World) (A : Option Addr) (n c : Nat) : Calls Try.prog 31 #[.pointer none, .slice A n c] w fun e w' => e = .returned (.tuple #[.pointer none, .int .i64 1]) ∧ w = w' := by
  go_enter Try.func31, Try.ntmps31
  go_wp2_with (first
    | (go_at_call 47; (with_reducible refine (many_nil _).mono ?_); rintro e w1 ⟨rfl, rfl⟩)
    | fail "no arm")
  go_ret2
  exact ⟨rfl, rfl⟩
section
variable {w w' : World} {base ga f m : Nat} {ts : List Int} {p : DiskP} {D : DiskV}
set_option maxRecDepth 100000 in
set_option maxHeartbeats 8000000 in
theorem skopen_any (ha : AreaAt w ga p.d f m) (hm : 1 ≤ m) (hd : DiskS w base p D) (hs : base ≤ w.heap.size) (hfm : f + m ≤ D.many) (hwt : D.waits.length < 900000) (A : Option Addr) (n c : Nat) (ht : IntsAt w base A n ts) :
    Calls Try.prog 31 #[.pointer (some ⟨ga, 0, none⟩), .slice A n c] w (FOpPost 151 w base ga 4 ts p (fOpenV D f m 4 ts)) := by
  have hmany := many_any ha
  have hmz : ((m : Int) == 0) = false := by rw [beq_eq_false_iff_ne]; omega
  have hn := ht.len
  have hright := right_any A n c ts w ht.ri hn
  have hun : fOpenV D f m 4 ts = if rightB ts = false then (D, 0, 2)
    else if (jOpenV D f m 4).2.2 ≠ 0 then ((jOpenV D f m 4).1, 0, (jOpenV D f m 4).2.2)
    else if (fAllK (jOpenV D f m 4).1 f m 4 (jOpenV D f m 4).2.1 ts (jOpenV D f m 4).2.1).2 ≠ 0 then ((fAllK (jOpenV D f m 4).1 f m 4 (jOpenV D f m 4).2.1 ts (jOpenV D f m 4).2.1).1, 0, (fAllK (jOpenV D f m 4).1 f m 4 (jOpenV D f m 4).2.1 ts (jOpenV D f m 4).2.1).2)
    else ((fAllK (jOpenV D f m 4).1 f m 4 (jOpenV D f m 4).2.1 ts (jOpenV D f m 4).2.1).1, (jOpenV D f m 4).2.1, 0) := rfl
  obtain ⟨few1, few2, few3⟩ := jOpenV_few D f m 4
  have hok : D.many ≤ 4096 := by obtain ⟨A, c, h⟩ := hd; exact h.ok.many1
  have hop := jopen_any (kind := 4) ha hm hd hs hfm hwt
  generalize fOpenV D f m 4 ts = R at *
  generalize jOpenV D f m 4 = J at *
  obtain ⟨D1, nx, z⟩ := J
  simp only at hun hop few1 few3
  have HD := Lib.hid hd
  have HA := Lib.hid ha
  have HT := Lib.hid ht
  cases hr : rightB ts with
  | false =>
    rw [if_pos hr] at hun
    rw [hr] at hright
    subst hun
    clear hd ha ht hop hr
    go_enter Try.func31, Try.ntmps31
    go_wp2_with (first
      | (go_at_call 47; (with_reducible refine (hmany).mono ?_); rintro e w1 ⟨rfl, rfl⟩)
      | (go_at_call 60; (with_reducible refine (hright).mono ?_); rintro e w1 ⟨rfl, rfl⟩)
      | fail "no arm")
    go_ret2
    exact FOpPost.no (by simp) HD.out (Step.refl _ _ _ _)
  | true =>
    rw [if_neg (by rw [hr]; simp)] at hun
    rw [hr] at hright
    have hn8 : n ≤ 8 := by have := (rightB_true.1 hr).2.2; have := ht.ri.1; omega
    by_cases hz : z = 0
    · subst hz
      rw [if_neg (by simp)] at hun
      have HUN := Lib.hid hun
      clear hd ha ht hr hun few2
      go_enter Try.func31, Try.ntmps31
      go_upto_region 9 with (first
        | (go_at_call 47; (with_reducible refine (hmany).mono ?_); rintro e w1 ⟨rfl, rfl⟩)
        | (go_at_call 60; (with_reducible refine (hright).mono ?_); rintro e w1 ⟨rfl, rfl⟩)
        | ((go_at_call 61; (with_reducible refine (hop).mono ?_); rintro e w2 ⟨P2, rfl, n2, y2, h2, st2⟩); obtain ⟨gj, rfl, g2, j2⟩ := y2 rfl; have J2 := Lib.hid j2; have H2 := Lib.hid h2; have ST2 := Lib.hid st2; have s2 := st2.size; have T2 := Lib.hid (HT.out.step HD.out st2 (by decide)); clear n2 y2 j2 h2 st2)
        | (at_builtin; refine wpList_app (α := Int) (enc := iv) rfl rfl elemInt iv_one (s := .tmp 30) (N := n) (L := ts) rfl (Ow.new _ _ #[] [] rfl (by decide)) rfl (k := ts) (T2.out.ri.below (B := w2.heap.size) (by (repeat' (first | (with_reducible exact Below.refl _ _) | (with_reducible assumption) | (with_reducible refine Below.drew ?_) | (with_reducible refine below_drewN ?_ _) | (with_reducible refine Below.alloc ?_ ?_ _) | (with_reducible refine Below.setCell ?_ ?_ _) | omega | (simp; done) | (simp; omega)))) (Nat.le_refl _)).rd (by simp) (by simp) hn (by omega) (by first | omega | (simp; done) | (simp; omega)) ?_; intro A5 c5 w5 hown5 hg5 hat5 hb5; have b5 := Lib.hid ((show Below w2.heap.size w2 (w2.alloc (.cells #[] 3)) from (by (repeat' (first | (with_reducible exact Below.refl _ _) | (with_reducible assumption) | (with_reducible refine Below.drew ?_) | (with_reducible refine below_drewN ?_ _) | (with_reducible refine Below.alloc ?_ ?_ _) | (with_reducible refine Below.setCell ?_ ?_ _) | omega | (simp; done) | (simp; omega))))).trans hb5); have I5 := Lib.hid (show IntsAt w5 base A5 n ts from IntsAt.of_ow hown5); clear hown5 hg5 hat5 hb5)
        | fail "no arm")
      have bX : Below w2.heap.size w2 (w5.alloc (.cells #[.pointer (some ⟨gj, 0, none⟩), .slice A5 n c5] 151)) := b5.out.alloc (by have := b5.out.size; omega) _
      have bY : Below w5.heap.size w5 (w5.alloc (.cells #[.pointer (some ⟨gj, 0, none⟩), .slice A5 n c5] 151)) := (Below.refl _ _).alloc (Nat.le_refl _) _
      have J6 := Lib.hid (show JRowsAt 151 (w5.alloc (.cells #[.pointer (some ⟨gj, 0, none⟩), .slice A5 n c5] 151)) base w5.heap.size ga 4 nx ts from ⟨gj, A5, n, c5, Blk.top _ rfl rfl, by omega, (Blk.below J2.out bX (Blk.lt J2.out)), I5.out.below bY⟩)
      have H6 := Lib.hid (H2.out.below bX)
      have ST6 := Lib.hid (ST2.out.then_below (bX.mono s2) hs)
      have A6 := Lib.hid (HD.out.area HA.out ST6.out.tch (by decide))
      have s6 := ST6.out.size
      have s5 := b5.out.size
      generalize hW : w5.alloc (.cells #[.pointer (some ⟨gj, 0, none⟩), .slice A5 n c5] 151) = w6 at *
      have c6 : w6.cell? ⟨w5.heap.size, 0, none⟩ = some (.pointer (some ⟨gj, 0, none⟩)) := by rw [← hW]; exact Blk.cell (Blk.top _ rfl rfl) 0
      generalize hG : w5.heap.size = gf at *
      clear hW bX bY b5 I5 T2 J2 H2 ST2 HT hright hmany
      have hlen := sklen_any J6.out
      have hlj : Calls Try.prog 62 #[.pointer (some ⟨gj, 0, none⟩)] w6 fun e w' => e = .returned (.int .i64 (nx : Nat)) ∧ w6 = w' := by
        obtain ⟨gj', A, n', c', q1, _, q3, _⟩ := J6.out
        have := q1.cell 0
        rw [c6] at this
        injection this with this
        injection this with this
        injection this with this
        injection this with this
        subst this
        exact jlen_any q3
      have hnx : nx ≤ 4096 := by omega
      go_wp2_with (first
        | ((go_at_call 62; (with_reducible refine (hlj).mono ?_); rintro e w7 ⟨rfl, rfl⟩))
        | fail "no arm")
      go_loopw [9, 10, 11, 41] (fun _ _ _ i wr => ∃ (k : Nat) (Dk : DiskV), k ≤ nx ∧ i = .int .i64 (k : Nat) ∧ fAllK D1 f m 4 nx ts k = (Dk, 0) ∧ DiskS wr base p Dk ∧ Step mutD base p w6 wr) (fun _ _ _ i _ => nx - (intOf i).toNat)
      case atStart => exact ⟨0, D1, by omega, rfl, rfl, H6.out, Step.refl _ _ _ _⟩
      case round =>
        obtain ⟨k, Dk, hk, rfl, hall, hdk, hst⟩ := hrel
        have hsz := hst.size
        have hjk := J6.out.step H6.out hst (by decide) (by decide) (by decide)
        by_cases hlt : k < nx
        · have hak := H6.out.area A6.out hst.tch (by decide)
          have hmk : Dk.many = D.many := by have := fAllK_many D1 f m 4 nx ts k; rw [hall] at this; exact this.trans few1
          have hget := skget_any hjk hdk (by omega) hak (by rw [hmk]; exact hfm) hnx (k : Int)
          have hnext := fAllK_next hall
          generalize fGetV Dk f m 4 nx ts (k : Int) = G at *
          obtain ⟨Dn, ln, zn⟩ := G
          simp only at hget hnext
          have HDk := Lib.hid hdk
          have HST := Lib.hid hst
          clear hdk hjk hak hall
          by_cases he : zn = 0
          · subst he
            have HN := Lib.hid hnext
            clear hnext
            go_wp2_with (first
              | ((go_at_call 35; (with_reducible refine (hget).mono ?_); rintro e w8 ⟨L8, k8, d8, rfl, o8, h8, st8⟩))
              | fail "no arm")
            go_roundw
            case rel => first
              | exact ⟨k + 1, Dn, by omega, by go_num, HN.out, h8, HST.out.trans st8⟩
              | ((repeat apply Exists.intro); exact ⟨⟨k + 1, Dn, by omega, by go_num, HN.out, h8, HST.out.trans st8⟩, rfl⟩)
            case measure => simp [intOf]; omega
          · have hneb : (zn != 0) = true := by rw [bne_iff_ne]; exact he
            have hstop := fAllK_stop (D := D1) (f := f) (m := m) (kind := 4) (next := nx) (ts := ts) (k := k + 1) (n := nx) (by rw [hnext]; exact he) (by omega)
            have hR : R = (Dn, 0, zn) := by rw [HUN.out, hstop, hnext, if_pos he]
            subst hR
            have HE := Lib.hid he
            clear HUN hstop hnext he
            go_wp2_with (first
              | ((go_at_call 35; (with_reducible refine (hget).mono ?_); rintro e w8 ⟨L8, k8, d8, rfl, o8, h8, st8⟩))
              | fail "no arm")
            go_ret2
            exact FOpPost.no HE.out h8 ((ST6.out.trans HST.out).trans st8)
        · have hk9 : k = nx := by omega
          subst hk9
          have hR : R = (Dk, k, 0) := by rw [HUN.out, hall, if_neg (by simp)]
          subst hR
          have HDk := Lib.hid hdk
          have HST := Lib.hid hst
          have HJ := Lib.hid hjk
          clear hdk hst hjk hall HUN
          go_wp2
          go_ret2
          exact FOpPost.yes (by omega) HJ.out HDk.out (ST6.out.trans HST.out)
    · rw [if_pos hz] at hun
      have hzb : (z != 0) = true := by rw [bne_iff_ne]; exact hz
      subst hun
      have HZ := Lib.hid hz
      clear hd ha ht hr hz few2
      go_enter Try.func31, Try.ntmps31
      go_wp2_with (first
        | (go_at_call 47; (with_reducible refine (hmany).mono ?_); rintro e w1 ⟨rfl, rfl⟩)
        | (go_at_call 60; (with_reducible refine (hright).mono ?_); rintro e w1 ⟨rfl, rfl⟩)
        | ((go_at_call 61; (with_reducible refine (hop).mono ?_); rintro e w2 ⟨P2, rfl, n2, y2, h2, st2⟩); obtain rfl := n2 HZ.out)
        | fail "no arm")
      go_ret2
      exact FOpPost.no HZ.out h2 st2
end
end Go.Proofs.Ytalmdccgpigppaa
namespace Go.Proofs.Ytalmdccgpigppaa
open Go.RowKit
set_option linter.unusedVariables false
set_option linter.unusedSimpArgs false
theorem JRowsAt.parts {t : TypeId} {w : World} {base g ga next : Nat} {kind : Int} {ts : List Int} (h : JRowsAt t w base g ga kind next ts) :
    ∃ gj A n c, Blk w g t [.pointer (some ⟨gj, 0, none⟩), .slice A n c] ∧ base ≤ gj ∧ JrnAt w gj ga kind next ∧ IntsAt w base A n ts ∧ w.cell? ⟨g, 0, none⟩ = some (.pointer (some ⟨gj, 0, none⟩)) ∧ w.cell? ⟨g, 1, none⟩ = some (.slice A n c) := by
  obtain ⟨gj, A, n, c, hb, hg, hj, hi⟩ := h
  exact ⟨gj, A, n, c, hb, hg, hj, hi, hb.cell 0, hb.cell 1⟩

theorem skput_nil (w : World) (n : Int) (B : Option Addr) (k d : Nat) : Calls Try.prog 32 #[.pointer none, .int .i64 n, .slice B k d] w fun e w' => e = .returned (.tuple #[.bool false, .int .i64 1]) ∧ w = w' := by
  go_enter Try.func32, Try.ntmps32
  go_wp2_with (first
    | (go_at_call 70; (with_reducible refine (skis_nil _).mono ?_); rintro e w1 ⟨rfl, rfl⟩)
    | fail "no arm")
  go_ret2
  exact ⟨rfl, rfl⟩
theorem sklen_nil (w : World) : Calls Try.prog 34 #[.pointer none] w fun e w' => e = .returned (.int .i64 0) ∧ w = w' := by
  go_enter Try.func34, Try.ntmps34
  go_wp2_with (first
    | (go_at_call 70; (with_reducible refine (skis_nil _).mono ?_); rintro e w1 ⟨rfl, rfl⟩)
    | fail "no arm")
  go_ret
  exact ⟨rfl, rfl⟩
theorem skflush_nil (w : World) : Calls Try.prog 33 #[.pointer none] w fun e w' => e = .returned (.int .i64 1) ∧ w = w' := by
  go_enter Try.func33, Try.ntmps33
  go_wp2_with (first
    | (go_at_call 70; (with_reducible refine (skis_nil _).mono ?_); rintro e w1 ⟨rfl, rfl⟩)
    | fail "no arm")
  go_ret
  exact ⟨rfl, rfl⟩
section
variable {w w' : World} {base g ga f m next : Nat} {kind : Int} {ts l : List Int} {p : DiskP} {D : DiskV}
theorem skflush_any (h : JRowsAt 151 w base g ga kind next ts) (hd : DiskS w base p D) (hs : base ≤ w.heap.size) (ha : AreaAt w ga p.d f m) :
    Calls Try.prog 33 #[.pointer (some ⟨g, 0, none⟩)] w fun e w' => e = .returned (.int .i64 (flushV D).2) ∧ DiskS w' base p (flushV D).1 ∧ Step mutD base p w w' := by
  have his := skis_yes h
  obtain ⟨gj, A, n, c, hb, hg, hj, hi2, c0, c1⟩ := h.parts
  have hfl := jflush_any hj hd hs ha
  clear hb hj hi2 hd ha h
  go_enter Try.func33, Try.ntmps33
  go_wp2_with (first
    | (go_at_call 70; (with_reducible refine (his).mono ?_); rintro e w1 ⟨rfl, rfl⟩)
    | (go_at_call 66; (with_reducible refine (hfl).mono ?_); rintro e w1 ⟨rfl, h1, st1⟩)
    | fail "no arm")
  go_ret
  exact ⟨rfl, h1, st1⟩
set_option maxRecDepth 100000 in
set_option maxHeartbeats 8000000 in
theorem skput_any (h : JRowsAt 151 w base g ga kind next ts) (hd : DiskS w base p D) (hs : base ≤ w.heap.size) (ha : AreaAt w ga p.d f m) (hfm : f + m ≤ D.many) (hm : m ≤ 4096) (hnm : next ≤ m) (hw : D.waits.length < 900000) (hr : rightB ts = true) (nn : Int) (B : Option Addr) (k d : Nat) (hl : RI w B k l) (hk : k ≤ maxLen) (hi : IntOk l) :
    Calls Try.prog 32 #[.pointer (some ⟨g, 0, none⟩), .int .i64 nn, .slice B k d] w fun e w' => e = .returned (.tuple #[.bool (sPutV D f m kind next ts nn l).2.2.1, .int .i64 (sPutV D f m kind next ts nn l).2.2.2]) ∧ DiskS w' base p (sPutV D f m kind next ts nn l).1 ∧ JRowsAt 151 w' base g ga kind (sPutV D f m kind next ts nn l).2.1 ts ∧ Step mutJ base p w w' := by
  have his := skis_yes h
  have HJR := Lib.hid h
  obtain ⟨gj, A, n, c, hb, hg, hj, hi2, c0, c1⟩ := h.parts
  have hlen := fun (W : World) (q : JrnAt W gj ga kind next) => jlen_any q
  have hput : sPutV D f m kind next ts nn l = if nn < 0 ∨ (next : Int) < nn then (D, next, false, 2)
    else if fitsB ts l = false then (D, next, false, 41)
    else if nn < (next : Int) then (D, next, false, 0)
    else if (jAddV D f m kind next (rowB ts l ts.length)).2.2.2 ≠ 0 then ((jAddV D f m kind next (rowB ts l ts.length)).1, (jAddV D f m kind next (rowB ts l ts.length)).2.1, false, (jAddV D f m kind next (rowB ts l ts.length)).2.2.2)
    else ((jAddV D f m kind next (rowB ts l ts.length)).1, (jAddV D f m kind next (rowB ts l ts.length)).2.1, true, 0) := rfl
  have HB := Lib.hid hb
  have HJ := Lib.hid hj
  have HI := Lib.hid hi2
  have HD := Lib.hid hd
  have HA := Lib.hid ha
  generalize sPutV D f m kind next ts nn l = S at *
  by_cases h0 : nn < 0
  · rw [if_pos (.inl h0)] at hput
    subst hput
    clear hb hj hi2 hd ha h hl hi hw
    go_enter Try.func32, Try.ntmps32
    go_wp2_with (first
      | (go_at_call 70; (with_reducible refine (his).mono ?_); rintro e w1 ⟨rfl, rfl⟩)
      | fail "no arm")
    go_ret2
    exact ⟨rfl, HD.out, HJR.out, Step.refl _ _ _ _⟩
  by_cases h1 : (next : Int) < nn
  · rw [if_pos (.inr h1)] at hput
    subst hput
    clear hb hj hi2 hd ha h hl hi hw
    go_enter Try.func32, Try.ntmps32
    go_wp2_with (first
      | (go_at_call 70; (with_reducible refine (his).mono ?_); rintro e w1 ⟨rfl, rfl⟩)
      | (go_at_call 62; (with_reducible refine (hlen _ HJ.out).mono ?_); rintro e w1 ⟨rfl, rfl⟩)
      | fail "no arm")
    go_ret2
    exact ⟨rfl, HD.out, HJR.out, Step.refl _ _ _ _⟩
  rw [if_neg (by omega)] at hput
  cases hf : fitsB ts l with
  | false =>
    rw [if_pos hf] at hput
    have hwr := write_row A B n k c d ts l w hi2.ri hl hi2.len hk hr hf
    subst hput
    clear hb hj hi2 hd ha h hl hi hw hf
    go_enter Try.func32, Try.ntmps32
    go_wp2_with (first
      | (go_at_call 70; (with_reducible refine (his).mono ?_); rintro e w1 ⟨rfl, rfl⟩)
      | (go_at_call 62; (with_reducible refine (hlen _ HJ.out).mono ?_); rintro e w1 ⟨rfl, rfl⟩)
      | (go_at_call 64; (with_reducible refine (hwr).mono ?_); rintro e w1 ⟨rfl, rfl⟩)
      | fail "no arm")
    go_ret2
    exact ⟨rfl, HD.out, HJR.out, Step.refl _ _ _ _⟩
  | true =>
    rw [if_neg (by rw [hf]; simp)] at hput
    have hwr := rowwrite_ok A B n k c d ts l w hi2.ri hl hi2.len hk hf hi
    by_cases h2 : nn < (next : Int)
    · rw [if_pos h2] at hput
      subst hput
      clear hb hj hi2 hd ha h hl hi hf hw
      go_enter Try.func32, Try.ntmps32
      go_wp2_with (first
        | (go_at_call 70; (with_reducible refine (his).mono ?_); rintro e w1 ⟨rfl, rfl⟩)
        | (go_at_call 62; (with_reducible refine (hlen _ HJ.out).mono ?_); rintro e w1 ⟨rfl, rfl⟩)
        | (go_at_call 62; (with_reducible refine (hlen _ J1.out).mono ?_); rintro e w2 ⟨rfl, rfl⟩)
        | ((go_at_call 64; (with_reducible refine (hwr).mono ?_); rintro e w1 ⟨C1, N1, d1, rfl, o1, b1⟩); have J1 := Lib.hid (HJ.out.below b1); have H1 := Lib.hid (HD.out.below b1); have A1 := Lib.hid (show AreaAt w1 ga p.d f m from Blk.below HA.out b1 (Blk.lt HA.out)); have B1 := Lib.hid (Blk.below HB.out b1 (Blk.lt HB.out)); have I1 := Lib.hid (HI.out.below b1); have O1 := Lib.hid o1; have s1 := b1.size; have cp1 := o1.cap; have ST1 := Lib.hid (Step.of_below (M := mutJ) (base := base) (p := p) b1 hs); have e1 : w1.cell? ⟨g, 0, none⟩ = some (.pointer (some ⟨gj, 0, none⟩)) := B1.out.cell 0; clear o1 b1)
        | fail "no arm")
      go_ret2
      exact ⟨rfl, H1.out, ⟨gj, A, n, c, B1.out, hg, J1.out, I1.out⟩, ST1.out⟩
    · rw [if_neg h2] at hput
      have hadd := fun (W : World) (C : Option Addr) (N e : Nat) (h1 : JrnAt W gj ga kind next) (h2 : DiskS W base p D) (h3 : base ≤ W.heap.size) (h4 : AreaAt W ga p.d f m) (h5 : RB W C N (rowB ts l ts.length)) (h6 : N ≤ maxLen) => jadd_any h1 h2 h3 hg h4 hfm hm hnm (by omega) C N e _ h5 h6
      generalize jAddV D f m kind next (rowB ts l ts.length) = R at *
      obtain ⟨D1, n1, v1, z1⟩ := R
      simp only at hput hadd
      clear hb hj hi2 hd ha h hl hi hf hw
      by_cases hz : z1 = 0
      · subst hz
        rw [if_neg (by simp)] at hput
        subst hput
        go_enter Try.func32, Try.ntmps32
        go_wp2_with (first
          | (go_at_call 70; (with_reducible refine (his).mono ?_); rintro e w1 ⟨rfl, rfl⟩)
          | (go_at_call 62; (with_reducible refine (hlen _ HJ.out).mono ?_); rintro e w1 ⟨rfl, rfl⟩)
          | (go_at_call 62; (with_reducible refine (hlen _ J1.out).mono ?_); rintro e w2 ⟨rfl, rfl⟩)
          | ((go_at_call 64; (with_reducible refine (hwr).mono ?_); rintro e w1 ⟨C1, N1, d1, rfl, o1, b1⟩); have J1 := Lib.hid (HJ.out.below b1); have H1 := Lib.hid (HD.out.below b1); have A1 := Lib.hid (show AreaAt w1 ga p.d f m from Blk.below HA.out b1 (Blk.lt HA.out)); have B1 := Lib.hid (Blk.below HB.out b1 (Blk.lt HB.out)); have I1 := Lib.hid (HI.out.below b1); have O1 := Lib.hid o1; have s1 := b1.size; have cp1 := o1.cap; have ST1 := Lib.hid (Step.of_below (M := mutJ) (base := base) (p := p) b1 hs); have e1 : w1.cell? ⟨g, 0, none⟩ = some (.pointer (some ⟨gj, 0, none⟩)) := B1.out.cell 0; clear o1 b1)
          | ((go_at_call 65; (with_reducible refine (hadd _ _ _ _ J1.out H1.out (by omega) A1.out O1.out.rd.rb (by omega)).mono ?_); rintro e w2 ⟨rfl, h2, j2, st2⟩); have H2 := Lib.hid h2; have J2 := Lib.hid j2; have B2 := Lib.hid (H1.out.blk B1.out st2.tch (by decide)); have A2 := Lib.hid (H1.out.area A1.out st2.tch (by decide)); have I2 := Lib.hid (I1.out.step H1.out st2 (by decide)); have ST2 := Lib.hid (ST1.out.trans st2); have s2 := st2.size; have R2 := Lib.hid (show JRowsAt 151 w2 base g ga kind n1 ts from ⟨gj, A, n, c, B2.out, hg, J2.out, I2.out⟩); have e2 : w2.cell? ⟨g, 0, none⟩ = some (.pointer (some ⟨gj, 0, none⟩)) := B2.out.cell 0; clear h2 j2 st2)
          | fail "no arm")
        go_ret2
        exact ⟨rfl, H2.out, R2.out, ST2.out⟩
      · have hzb : (z1 != 0) = true := by rw [bne_iff_ne]; exact hz
        rw [if_pos hz] at hput
        subst hput
        clear hz
        go_enter Try.func32, Try.ntmps32
        go_wp2_with (first
          | (go_at_call 70; (with_reducible refine (his).mono ?_); rintro e w1 ⟨rfl, rfl⟩)
          | (go_at_call 62; (with_reducible refine (hlen _ HJ.out).mono ?_); rintro e w1 ⟨rfl, rfl⟩)
          | (go_at_call 62; (with_reducible refine (hlen _ J1.out).mono ?_); rintro e w2 ⟨rfl, rfl⟩)
          | ((go_at_call 64; (with_reducible refine (hwr).mono ?_); rintro e w1 ⟨C1, N1, d1, rfl, o1, b1⟩); have J1 := Lib.hid (HJ.out.below b1); have H1 := Lib.hid (HD.out.below b1); have A1 := Lib.hid (show AreaAt w1 ga p.d f m from Blk.below HA.out b1 (Blk.lt HA.out)); have B1 := Lib.hid (Blk.below HB.out b1 (Blk.lt HB.out)); have I1 := Lib.hid (HI.out.below b1); have O1 := Lib.hid o1; have s1 := b1.size; have cp1 := o1.cap; have ST1 := Lib.hid (Step.of_below (M := mutJ) (base := base) (p := p) b1 hs); have e1 : w1.cell? ⟨g, 0, none⟩ = some (.pointer (some ⟨gj, 0, none⟩)) := B1.out.cell 0; clear o1 b1)
          | ((go_at_call 65; (with_reducible refine (hadd _ _ _ _ J1.out H1.out (by omega) A1.out O1.out.rd.rb (by omega)).mono ?_); rintro e w2 ⟨rfl, h2, j2, st2⟩); have H2 := Lib.hid h2; have J2 := Lib.hid j2; have B2 := Lib.hid (H1.out.blk B1.out st2.tch (by decide)); have A2 := Lib.hid (H1.out.area A1.out st2.tch (by decide)); have I2 := Lib.hid (I1.out.step H1.out st2 (by decide)); have ST2 := Lib.hid (ST1.out.trans st2); have s2 := st2.size; have R2 := Lib.hid (show JRowsAt 151 w2 base g ga kind n1 ts from ⟨gj, A, n, c, B2.out, hg, J2.out, I2.out⟩); have e2 : w2.cell? ⟨g, 0, none⟩ = some (.pointer (some ⟨gj, 0, none⟩)) := B2.out.cell 0; clear h2 j2 st2)
          | fail "no arm")
        go_ret2
        exact ⟨rfl, H2.out, R2.out, ST2.out⟩
end
end Go.Proofs.Ytalmdccgpigppaa
namespace Go.Proofs.Ytalmdccgpigppaa
open Go.RowKit
set_option linter.unusedVariables false
set_option linter.unusedSimpArgs false
/-- The rows; the first k are flushed. -/
structure SkOn (D : DiskV) (ts : List Int) (k : Nat) (rows : List (List Int)) : Prop where
  many : D.many = 10
  right : rightB ts = true
  ok : RowsOk ts rows
  le : rows.length ≤ 8
  len : k ≤ rows.length
  cut : D.cut = -1
  few : D.waits.length ≤ rows.length
  wait : ∀ p ∈ D.waits, ∃ n l, p = (1 + n, sealL 4 n l) ∧ k ≤ n ∧ (loadsOf ts rows)[n]? = some l
  pow : ∃ N, Pow D N (FSay 4 k (loadsOf ts rows)) ∧ Jrn N 1 8 4 (loadsOf ts rows)
structure SkC (D : DiskV) (ts : List Int) (k : Nat) (all : List (List Int)) : Prop where
  many : D.many = 10
  right : rightB ts = true
  ok : RowsOk ts all
  le : all.length ≤ 8
  len : k ≤ all.length
  cut : D.cut = -1
  rest : ∃ N, Rest D N ∧ ∀ n, n < 8 → SecJ 4 k (loadsOf ts all) n (N (1 + n))
theorem fsay_sealed {kind k n : Nat} {all : List (List UInt8)} {l : List UInt8} (hn : k ≤ n) (hl : all[n]? = some l) (h113 : l.length ≤ 113) : ShutAt (FSay kind k all (1 + n)) (sealL kind n l) := fun S c hc hS q q1 q2 => by
  have e : 1 + n - 1 = n := by omega
  have := q q1 q2
  rw [e] at this ⊢
  exact SecA.sealed hn hl h113 S c hc hS this
theorem SecA.more {kind k n : Nat} {all : List (List UInt8)} {S : List UInt8} (h : SecA kind k all n S) (hk : k ≤ all.length) (b : List UInt8) : SecA kind k (all ++ [b]) n S := by
  refine ⟨fun l q e => ?_, fun q => ?_⟩
  · rw [List.getElem?_append_left (by omega)] at e
    exact h.1 l q e
  · rcases h.2 q with e | ⟨l, e1, e2⟩
    · exact .inl e
    · exact .inr ⟨l, by rw [List.getElem?_append_left (List.getElem?_eq_some_iff.1 e1).1]; exact e1, e2⟩
section
variable {D : DiskV} {N : Secs} {ts l : List Int} {k : Nat} {all rows : List (List Int)}
theorem SkOn.of_rest (h0 : D.many = 10) (hr : rightB ts = true) (hR : RowsOk ts rows) (hle : rows.length ≤ 8) (hc : D.cut = -1) (r1 : Rest D N) (r2 : Jrn N 1 8 4 (loadsOf ts rows)) : SkOn D ts rows.length rows := by
  have hp : ∀ s : Nat, s < D.many → FSay 4 rows.length (loadsOf ts rows) s (N s) := fun s hs q1 q2 => by
    have := r2.secA (more := []) (n := s - 1) (by omega)
    rw [List.append_nil, loadsOf_length, show 1 + (s - 1) = s by omega] at this
    exact this
  exact ⟨h0, hr, hR, hle, Nat.le_refl _, hc, by rw [r1.waits]; simp, fun p hp => (by rw [r1.waits] at hp; cases hp), N, r1.pow hp, r2⟩
theorem SkOn.ops (h : SkOn D ts k rows) (o : List Int) : SkOn { D with ops := o } ts k rows := by
  obtain ⟨N, r1, r2⟩ := h.pow
  exact ⟨h.many, h.right, h.ok, h.le, h.len, h.cut, h.few, h.wait, N, r1.ops o, r2⟩
theorem SkOn.flush (h : SkOn D ts k rows) : ∃ D', flushV D = (D', 0) ∧ SkOn D' ts rows.length rows := by
  obtain ⟨N, r1, r2⟩ := h.pow
  obtain ⟨a1, a2⟩ := r1.flush
  rcases a2 with ⟨b1, b2, b3⟩ | ⟨_, _, b3, _⟩
  · exact ⟨(flushV D).1, Prod.ext rfl b1, SkOn.of_rest (a1.trans h.many) h.right h.ok h.le (b3 h.cut) b2 r2⟩
  · exact absurd h.cut b3
theorem SkOn.crash (h : SkOn D ts k rows) (cs : List UInt8) : SkC (crashV D cs) ts k rows := by
  obtain ⟨N, r1, r2⟩ := h.pow
  obtain ⟨c1, c2, c3, c4⟩ := r1.safe.crash cs
  refine ⟨c3.trans h.many, h.right, h.ok, h.le, h.len, c2, _, c1, fun n hn => ?_⟩
  have := c4 (1 + n) (by rw [h.many]; omega) (by omega) (by omega)
  rw [show 1 + n - 1 = n by omega] at this
  exact this.j
theorem SkC.waits (h : SkC D ts k all) : D.waits.length = 0 := by
  obtain ⟨N, h1, _⟩ := h.rest; rw [h1.waits]; rfl
theorem SkC.opened (h : SkC D ts k all) : ∃ D2 got, fOpenV D 1 8 4 ts = (D2, got.length, 0) ∧ SkOn D2 ts got.length got ∧ got = all.take got.length ∧ k ≤ got.length ∧ got.length ≤ all.length := by
  obtain ⟨N, r1, r2⟩ := h.rest
  have hz : ∀ n, k ≤ n → n < 8 → ShutAt ((fun s S => 1 ≤ s → s < 9 → SecJ 4 k (loadsOf ts all) (s - 1) S : Says) (1 + n)) zerosL := fun n q1 q2 S c hc hS q _ _ => by
    rw [show 1 + n - 1 = n by omega]
    refine SecJ.wiped q1 S c hc hS ?_
    have := q (by omega) (by omega)
    rwa [show 1 + n - 1 = n by omega] at this
  obtain ⟨a1, a2⟩ := r1.fopen (P := fun s S => 1 ≤ s → s < 9 → SecJ 4 k (loadsOf ts all) (s - 1) S) (f := 1) (m := 8) (kind := 4) (ts := ts) (rows := all) (k := k) h.right (by rw [h.many]; omega) (by omega) (by omega) (by omega) h.ok h.len h.le r2
    (fun s hs q1 q2 => by have := r2 (s - 1) (by omega); rwa [show 1 + (s - 1) = s by omega] at this) hz
  rcases a2 with ⟨nx, b1, b2, b3, b4, b5, b6⟩ | ⟨_, _, b3, _⟩
  · have hl : (all.take nx).length = nx := by rw [List.length_take]; omega
    have e4 : ((4 : Nat) : Int) = 4 := rfl
    rw [e4] at b3 b4 b6 a1
    refine ⟨(fOpenV D 1 8 4 ts).1, all.take nx, ?_, SkOn.of_rest (a1.trans h.many) h.right (h.ok.take_ nx) (by have := h.le; omega) (b6 h.cut) b4 b5, by rw [hl], by omega, by omega⟩
    rw [hl]
    exact Prod.ext rfl b3
  · exact absurd h.cut b3
/-- What became of Put. -/
theorem SkOn.put (h : SkOn D ts k rows) (n : Int) (hi : IntOk l) :
    (∃ er, sPutV D 1 8 4 rows.length ts n l = (D, rows.length, false, er) ∧ (er = 0 → n ≠ (rows.length : Int))) ∨
    (∃ D', sPutV D 1 8 4 rows.length ts n l = (D', rows.length + 1, true, 0) ∧ n = (rows.length : Int) ∧ SkOn D' ts k (rows ++ [l])) := by
  have hun : sPutV D 1 8 4 rows.length ts n l = if n < 0 ∨ (rows.length : Int) < n then (D, rows.length, false, 2)
    else if fitsB ts l = false then (D, rows.length, false, 41)
    else if n < (rows.length : Int) then (D, rows.length, false, 0)
    else if (jAddV D 1 8 4 rows.length (rowB ts l ts.length)).2.2.2 ≠ 0 then ((jAddV D 1 8 4 rows.length (rowB ts l ts.length)).1, (jAddV D 1 8 4 rows.length (rowB ts l ts.length)).2.1, false, (jAddV D 1 8 4 rows.length (rowB ts l ts.length)).2.2.2)
    else ((jAddV D 1 8 4 rows.length (rowB ts l ts.length)).1, (jAddV D 1 8 4 rows.length (rowB ts l ts.length)).2.1, true, 0) := rfl
  by_cases h1 : n < 0 ∨ (rows.length : Int) < n
  · rw [if_pos h1] at hun
    exact .inl ⟨2, hun, fun e => by cases e⟩
  rw [if_neg h1] at hun
  cases hf : fitsB ts l with
  | false =>
    rw [if_pos hf] at hun
    exact .inl ⟨41, hun, fun e => by cases e⟩
  | true =>
    rw [if_neg (by rw [hf]; simp)] at hun
    by_cases h2 : n < (rows.length : Int)
    · rw [if_pos h2] at hun
      exact .inl ⟨0, hun, fun _ => by omega⟩
    rw [if_neg h2] at hun
    have hrl := row_len h.right l
    have hle := h.le
    by_cases h8 : rows.length = 8
    · have : jAddV D 1 8 4 rows.length (rowB ts l ts.length) = (D, rows.length, 0, 52) := by
        unfold jAddV
        rw [if_neg (by omega), if_pos (by omega)]
      rw [this, if_pos (by simp)] at hun
      exact .inl ⟨52, hun, fun e => by cases e⟩
    · obtain ⟨N, r1, r2⟩ := h.pow
      have hlen := loadsOf_length ts rows
      have hget : (loadsOf ts (rows ++ [l]))[rows.length]? = some (rowB ts l ts.length) := by
        rw [loadsOf_app, List.getElem?_append_right (by omega), hlen, Nat.sub_self]; rfl
      have hold : ∀ (n : Nat) (x : List UInt8), (loadsOf ts rows)[n]? = some x → (loadsOf ts (rows ++ [l]))[n]? = some x := fun n x e => by
        rw [loadsOf_app, List.getElem?_append_left (List.getElem?_eq_some_iff.1 e).1]; exact e
      have hp2 : Pow D N (FSay 4 k (loadsOf ts (rows ++ [l]))) := r1.mono (fun s S hs q q1 q2 => by rw [loadsOf_app]; exact (q q1 q2).more (by rw [hlen]; exact h.len) _) (fun p hp => by
        obtain ⟨n', x, e1, e2, e3⟩ := h.wait p hp
        rw [e1]
        exact fsay_sealed e2 (hold _ _ e3) (loadsOf_len h.right x (List.mem_of_getElem? e3)))
      obtain ⟨a1, a2, a3⟩ := hp2.jadd (f := 1) (m := 8) (kind := 4) (k := rows.length) (l := rowB ts l ts.length) (by rw [h.many]; omega) (by omega) (by omega) (by omega) (by omega) (by have := h.few; omega) (fsay_sealed h.len hget (by omega))
      have e4 : ((4 : Nat) : Int) = 4 := rfl
      rw [e4] at a1 a2 a3
      rcases a3 with ⟨b1, b2, b3⟩ | ⟨_, _, b3, _⟩
      · generalize jAddV D 1 8 4 rows.length (rowB ts l ts.length) = R at *
        obtain ⟨D1, n1, v1, z1⟩ := R
        simp only at a1 a2 b1 b2 b3 hun
        injection b1 with q1 b1
        injection b1 with q2 q3
        subst q1 q2 q3
        rw [if_neg (by simp)] at hun
        have hj := r2.put (by rw [hlen]; omega) (l := rowB ts l ts.length) (by omega)
        rw [hlen, ← loadsOf_app] at hj
        refine .inr ⟨D1, hun, by omega, a1.trans h.many, h.right, h.ok.app hf hi, by rw [List.length_append, List.length_singleton]; omega, by have := h.len; rw [List.length_append]; omega, b3 h.cut, by have := h.few; rw [a2, List.length_append, List.length_append]; simp; exact this, fun p hp => ?_, _, b2, hj⟩
        rw [a2] at hp
        rcases List.mem_append.1 hp with q | q
        · obtain ⟨n', x, e1, e2, e3⟩ := h.wait p q
          exact ⟨n', x, e1, e2, hold _ _ e3⟩
        · rw [List.mem_singleton.1 q]
          exact ⟨rows.length, _, rfl, h.len, hget⟩
      · exact absurd h.cut b3
theorem SkOn.get (h : SkOn D ts k rows) {n : Nat} {l : List Int} (hn : rows[n]? = some l) : fGetV D 1 8 4 rows.length ts (n : Int) = (readV' D, l, 0) := by
  obtain ⟨N, r1, r2⟩ := h.pow
  exact fget_row (kind := 4) r1.fit.off r1.now h.ok r2 (by rw [h.many]; omega) (by omega) (by omega) (by omega) hn
end
theorem startS (ts : List Int) (hr : rightB ts = true) : ∃ D2, fOpenV F0 1 8 4 ts = (D2, 0, 0) ∧ SkOn D2 ts 0 [] := by
  have hs : ∀ n : Fin 8, byteAt (secOf F0.now ((1 + n.val : Nat) : Int)) 127 = 0 := by decide +kernel
  have hw : F0.waits = [] := by decide +kernel
  have hc : SkC F0 ts 0 [] := ⟨by decide +kernel, hr, RowsOk.nil ts, Nat.zero_le _, Nat.le_refl _, by decide +kernel, fun s => secOf F0.now (s : Int),
    ⟨⟨⟨by decide +kernel, by decide +kernel, by decide +kernel, by decide +kernel, by decide +kernel, by decide +kernel, fun p hp => (by rw [hw] at hp; cases hp), by decide +kernel, by decide +kernel, by decide +kernel⟩, by decide +kernel, by decide +kernel, by decide +kernel, by decide +kernel⟩, hw, fun s hs => rfl⟩, fun n hn => ⟨fun l hl => absurd hl (by simp), fun _ => .inl (hs ⟨n, hn⟩)⟩⟩
  obtain ⟨D2, got, e, h1, h2, h3, h4⟩ := hc.opened
  have : got = [] := List.eq_nil_of_length_eq_zero (by simpa using h4)
  subst this
  exact ⟨D2, e, h1⟩
def K1 : DiskV := (fOpenV F0 1 8 4 [1]).1
def K2 : DiskV := (sPutV K1 1 8 4 0 [1] 0 [5]).1
def K3 : DiskV := (sPutV K2 1 8 4 1 [1] 1 [6]).1
theorem k_facts : (fOpenV F0 1 8 4 [1]).2 = (0, 0) ∧ (sPutV K1 1 8 4 0 [1] 0 [5]).2 = (1, true, 0) ∧ (sPutV K2 1 8 4 1 [1] 1 [6]).2 = (2, true, 0) ∧ (sPutV K3 1 8 4 2 [1] 0 [7]).2 = (2, false, 0) ∧ (fGetV K3 1 8 4 2 [1] 0).2 = ([5], 0) := by decide +kernel
theorem k_many : K1.many = 10 ∧ K2.many = 10 ∧ K3.many = 10 := by decide +kernel
theorem k_waits : K1.waits.length = 0 ∧ K2.waits.length = 1 ∧ K3.waits.length = 2 := by decide +kernel
theorem k_eqs : fOpenV F0 1 8 4 [1] = (K1, 0, 0) ∧ sPutV K1 1 8 4 0 [1] 0 [5] = (K2, 1, true, 0) ∧ sPutV K2 1 8 4 1 [1] 1 [6] = (K3, 2, true, 0) ∧ sPutV K3 1 8 4 2 [1] 0 [7] = (K3, 2, false, 0) := by
  obtain ⟨f1, f2, f3, f4, _⟩ := k_facts
  refine ⟨pair_eq f1, pair_eq f2, pair_eq f3, ?_⟩
  unfold sPutV
  rw [if_neg (by decide), if_neg (by decide), if_pos (by decide)]
end Go.Proofs.Ytalmdccgpigppaa
namespace Go.Proofs.Ytalmdccgpigppaa
open Go.RowKit Go.WideShapes Go.ChangeShapes Go.Deep Go.Joins
set_option linter.unusedVariables false
set_option linter.unusedSimpArgs false
section
variable {H : Type} {enc : TypeId × Value → H} {w : World} {base b0 : Nat} {held : Bool} {r : Reach} {v : Value} {d : DataW H} {ps : List MemPlace}
set_option maxRecDepth 100000 in
theorem args_dos36 (hval : Value.okWide Try.prog w r b0 73 v) (hd : DataW.Trod enc Try.prog w base (fun _ => true) held 73 v d ps) :
    ∃ A n c l, v = .slice A n c ∧ DosW w A n l ∧ n ≤ c ∧ c ≤ maxLen := by
  obtain ⟨A, n, c, rfl, hn, hc, hat⟩ := open_structs (k := 4) Try.underlying73 Try.underlying78 (by kernel_rfl) (by kernel_rfl) rfl (by omega) hval hd
  have hx : ∀ i, i < n → ∃ x : DoW, ∃ b o C q e B m c, A = some ⟨b, o, none⟩ ∧ b < w.heap.size ∧ w.cell? ⟨b, o + i * 4 + 0, none⟩ = some (.int .i64 x.kind) ∧ w.cell? ⟨b, o + i * 4 + 1, none⟩ = some (.int .i64 x.n) ∧ w.cell? ⟨b, o + i * 4 + 2, none⟩ = some (.slice C q e) ∧ w.cell? ⟨b, o + i * 4 + 3, none⟩ = some (.slice B m c) ∧
      RI w C q x.l ∧ q ≤ e ∧ e ≤ maxLen ∧ RB w B m x.b ∧ m ≤ c ∧ c ≤ maxLen ∧ (-9223372036854775808 ≤ x.kind ∧ x.kind ≤ 9223372036854775807) ∧ (-9223372036854775808 ≤ x.n ∧ x.n ≤ 9223372036854775807) ∧ IntOk x.l := by
    intro i hi
    obtain ⟨b, o, vs, hA, hb, hl, hcell, fuel, hf⟩ := hat i hi
    obtain ⟨u0, y0, e0, t0⟩ := hf 0 _ rfl
    obtain ⟨u1, y1, e1, t1⟩ := hf 1 _ rfl
    obtain ⟨u2, y2, e2, t2⟩ := hf 2 _ rfl
    obtain ⟨u3, y3, e3, t3⟩ := hf 3 _ rfl
    obtain ⟨z0, hz0, _, hw0⟩ := DataW.trod_int Try.underlying3 t0
    obtain ⟨z1, hz1, _, hw1⟩ := DataW.trod_int Try.underlying3 t1
    have hz0 : u0 = .int .i64 z0 := by simpa using hz0
    have hz1 : u1 = .int .i64 z1 := by simpa using hz1
    subst hz0 hz1
    obtain ⟨C, q, c2, li, rfl, r2, k2, m2, hin⟩ := trod_ints Try.underlying54 Try.underlying3 (by kernel_rfl) t2
    obtain ⟨B, m, c', l, rfl, r1, k1, m1⟩ := trod_bytes Try.underlying26 Try.underlying5 (by kernel_rfl) t3
    exact ⟨⟨z0, z1, li, l⟩, b, o, C, q, c2, B, m, c', hA, hb, (hcell 0 (by omega)).trans e0, (hcell 1 (by omega)).trans e1, (hcell 2 (by omega)).trans e2, (hcell 3 (by omega)).trans e3, r2, k2, m2, r1, k1, m1, bounds_i64 hw0, bounds_i64 hw1, intOk_of hin⟩
  obtain ⟨l, hl, hp⟩ := list_of hx
  exact ⟨A, n, c, l, rfl, ⟨hl, hp⟩, hn, hc⟩
end
set_option maxRecDepth 100000 in
set_option maxHeartbeats 4000000 in
theorem few36_any (A : Option Addr) (n c : Nat) (l : List DoW) (w : World) (hl : DosW w A n l) (hn : n ≤ maxLen) :
    Calls Try.prog 30 #[.slice A n c] w fun e w' => e = .returned (.bool (fewWB l)) ∧ Below w.heap.size w w' := by
  have hlen := Lib.hid hl.1
  unfold maxLen at hn
  go_enter Try.func30, Try.ntmps30
  go_wp2
  go_loopw [4, 7] (fun _ i wr => ∃ k : Nat, k ≤ n ∧ i = .int .i64 (k : Nat) ∧ (∀ (j : Nat) (x : DoW), j < k → l[j]? = some x → x.b.length ≤ 200 ∧ x.l.length ≤ 20) ∧ Below w.heap.size w wr) (fun _ i _ => n - (intOf i).toNat)
  case atStart => exact ⟨0, by omega, rfl, fun j x hj => absurd hj (by omega), Below.refl _ _⟩
  case round =>
    obtain ⟨k, hk, rfl, hsm, hbel⟩ := hrel
    have Hsm := Lib.hid hsm
    clear hsm
    by_cases hlt : k < n
    · have hkl : k < l.length := by rw [hlen.out]; exact hlt
      have hbs := hbel.size
      obtain ⟨x, hx⟩ : ∃ x, l[k]? = some x := ⟨_, List.getElem?_eq_getElem hkl⟩
      obtain ⟨b, o, C, q, e, B, m, d, rfl, hb, e0, e1, e2, e3, hi, hqe, he, hr, hmd, hd, _, _, _⟩ := (hl.below hbel (Nat.le_refl _)).2 k x hx
      have hm : m ≤ 9223372036854775807 := by unfold maxLen at hd; omega
      have hq : q ≤ 9223372036854775807 := by unfold maxLen at he; omega
      have HX := Lib.hid hx
      have Hr := Lib.hid hr.1
      have Hi := Lib.hid hi.1
      simp only [Nat.add_zero] at e0
      clear hx hr hd hi he
      by_cases hbig : 200 < m
      · have hno : Hid (fewWB l = false) := fewWB_no HX.out (.inl (by rw [Hr.out]; exact hbig))
        go_wp2
        go_ret
        exact ⟨ret_bool hno.out.symm, (by (repeat' (first | (with_reducible exact Below.refl _ _) | (with_reducible assumption) | (with_reducible refine Below.drew ?_) | (with_reducible refine below_drewN ?_ _) | (with_reducible refine Below.alloc ?_ ?_ _) | (with_reducible refine Below.setCell ?_ ?_ _) | omega | (simp; done) | (simp; omega))))⟩
      · by_cases hbig2 : 20 < q
        · have hno : Hid (fewWB l = false) := fewWB_no HX.out (.inr (by rw [Hi.out]; exact hbig2))
          go_wp2
          go_ret
          exact ⟨ret_bool hno.out.symm, (by (repeat' (first | (with_reducible exact Below.refl _ _) | (with_reducible assumption) | (with_reducible refine Below.drew ?_) | (with_reducible refine below_drewN ?_ _) | (with_reducible refine Below.alloc ?_ ?_ _) | (with_reducible refine Below.setCell ?_ ?_ _) | omega | (simp; done) | (simp; omega))))⟩
        · have hsm2 : Hid (∀ (j : Nat) (x : DoW), j < k + 1 → l[j]? = some x → x.b.length ≤ 200 ∧ x.l.length ≤ 20) := fun j x hj hx => by
            rcases Nat.lt_or_ge j k with q | q
            · exact Hsm.out j x q hx
            · have : j = k := by omega
              subst this
              rw [HX.out] at hx
              injection hx with hx
              rw [← hx, Hr.out, Hi.out]; omega
          go_wp2
          go_roundw
          case rel => exact ⟨k + 1, by omega, by go_num, hsm2.out, (by (repeat' (first | (with_reducible exact Below.refl _ _) | (with_reducible assumption) | (with_reducible refine Below.drew ?_) | (with_reducible refine below_drewN ?_ _) | (with_reducible refine Below.alloc ?_ ?_ _) | (with_reducible refine Below.setCell ?_ ?_ _) | omega | (simp; done) | (simp; omega))))⟩
          case measure => simp [intOf]; omega
    · have hk9 : k = n := by omega
      subst hk9
      have hall : Hid (fewWB l = decide (k ≤ 40)) := by
        show _ = _
        rw [fewWB_all (fun j x hx => Hsm.out j x (by rw [← hlen.out]; exact (List.getElem?_eq_some_iff.1 hx).1) hx), hlen.out]
      go_wp2
      go_ret
      exact ⟨ret_bool (by rw [hall.out]; first | rfl | (simp; done) | (simp; omega)), (by (repeat' (first | (with_reducible exact Below.refl _ _) | (with_reducible assumption) | (with_reducible refine Below.drew ?_) | (with_reducible refine below_drewN ?_ _) | (with_reducible refine Below.alloc ?_ ?_ _) | (with_reducible refine Below.setCell ?_ ?_ _) | omega | (simp; done) | (simp; omega))))⟩
end Go.Proofs.Ytalmdccgpigppaa
