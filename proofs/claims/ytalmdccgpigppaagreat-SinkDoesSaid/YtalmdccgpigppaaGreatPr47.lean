/- Parts: SinkA, SinkB. -/
import Derived.Test.YtalmdccgpigppaaGreatPr45
import Derived.Deep.DeepCutAuto
import Derived.Deep.CutBlock
namespace Go.Proofs.YtalmdccgpigppaaGreat
open Go.RowKit
set_option linter.unusedVariables false
set_option linter.unusedSimpArgs false
section
variable {w w' : World} {base g ga f m next : Nat} {kind : Int} {ts : List Int} {p : DiskP} {D : DiskV}
theorem skis_nil (w : World) : Calls Tryz.prog 43 #[.pointer none] w fun e w' => e = .returned (.bool false) ∧ w = w' := by
  go_enter Tryz.func43, Tryz.ntmps43
  go_wp2
  go_ret
  exact ⟨rfl, rfl⟩
theorem skis_yes (h : JRowsAt 107 w base g ga kind next ts) : Calls Tryz.prog 43 #[.pointer (some ⟨g, 0, none⟩)] w fun e w' => e = .returned (.bool true) ∧ w = w' := by
  obtain ⟨gj, A, n, c, hb, hg, hj, hi⟩ := h
  have c0 : w.cell? ⟨g, 0, none⟩ = some (.pointer (some ⟨gj, 0, none⟩)) := hb.cell 0
  clear hb hj hi
  go_enter Tryz.func43, Tryz.ntmps43
  go_wp2
  go_ret
  exact ⟨rfl, rfl⟩
theorem sklen_any (h : JRowsAt 107 w base g ga kind next ts) : Calls Tryz.prog 8 #[.pointer (some ⟨g, 0, none⟩)] w fun e w' => e = .returned (.int .i64 (next : Nat)) ∧ w = w' := by
  have hi := skis_yes h
  obtain ⟨gj, A, n, c, hb, hg, hj, _⟩ := h
  have c0 : w.cell? ⟨g, 0, none⟩ = some (.pointer (some ⟨gj, 0, none⟩)) := hb.cell 0
  have hl := jlen_any hj
  clear hb hj
  go_enter Tryz.func8, Tryz.ntmps8
  go_wp2_with (first
    | (go_at_call 43; (with_reducible refine (hi).mono ?_); rintro e w1 ⟨rfl, rfl⟩)
    | (go_at_call 44; (with_reducible refine (hl).mono ?_); rintro e w1 ⟨rfl, rfl⟩)
    | fail "no arm")
  go_ret
  exact ⟨rfl, rfl⟩
set_option maxRecDepth 100000 in
set_option maxHeartbeats 4000000 in
theorem skget_any (h : JRowsAt 107 w base g ga kind next ts) (hd : DiskS w base p D) (hs : base ≤ w.heap.size) (ha : AreaAt w ga p.d f m) (hfm : f + m ≤ D.many) (hnm : next ≤ 4096) (n : Int) :
    Calls Tryz.prog 41 #[.pointer (some ⟨g, 0, none⟩), .int .i64 n] w fun e w' => ∃ B k d, e = .returned (.tuple #[.slice B k d, .int .i64 (fGetV D f m kind next ts n).2.2]) ∧ Ow iv w' w.heap.size 3 B k d (fGetV D f m kind next ts n).2.1 ∧ DiskS w' base p (fGetV D f m kind next ts n).1 ∧ Step mutD base p w w' := by
  have his := skis_yes h
  have HH := Lib.hid h
  obtain ⟨gj, A, na, c, hb, hg, hj, hi⟩ := h
  have c0 : w.cell? ⟨g, 0, none⟩ = some (.pointer (some ⟨gj, 0, none⟩)) := hb.cell 0
  have hget := jget_any hj hd hs ha hfm hnm n
  have HB := Lib.hid hb
  have HI := Lib.hid hi
  have HD := Lib.hid hd
  obtain ⟨R, hR⟩ : ∃ R, R = jGetV D f m kind next n := ⟨_, rfl⟩
  rw [← hR] at hget
  obtain ⟨X, hX⟩ : ∃ X, X = fGetV D f m kind next ts n := ⟨_, rfl⟩
  have hXR : X = if R.2.2 ≠ 0 then (R.1, [], R.2.2) else if (readR ts R.2.1).2 ≠ 0 then (R.1, [], 41) else (R.1, (readR ts R.2.1).1, 0) := by rw [hX, hR]; rfl
  rw [← hX]
  have HX := Lib.hid hXR
  clear hb hi hd hj hX hR hXR
  obtain ⟨D1, bs, z⟩ := R
  simp only at hget HX
  by_cases hz : z = 0
  · subst hz
    have HX2 := Lib.hid (show X = if (readR ts bs).2 ≠ 0 then (D1, [], 41) else (D1, (readR ts bs).1, 0) from by rw [HX.out, if_neg (by simp)])
    clear HX
    have hrd := fun (W : World) (B : Option Addr) (k d : Nat) (r1 : RI W A na ts) (r2 : RB W B k bs) (hk : k ≤ d) (hd : d ≤ maxLen) => read_row A B na k c d ts bs W r1 r2 HI.out.len hk hd
    generalize hrr : readR ts bs = rr at *
    obtain ⟨l2, e2⟩ := rr
    clear hrr
    simp only at HX2
    by_cases he : e2 = 0
    · subst he
      have HXX := Lib.hid (show X = (D1, l2, 0) from by rw [HX2.out, if_neg (by simp)])
      clear HX2
      go_enter Tryz.func41, Tryz.ntmps41
      go_wp2_with (first
        | (go_at_call 43; (with_reducible refine (his).mono ?_); rintro e w1 ⟨rfl, rfl⟩)
        | ((go_at_call 101; (with_reducible refine (hget).mono ?_); rintro e w1 ⟨B1, k1, d1, rfl, o1, h1, st1⟩); have H1 := Lib.hid h1; have ST1 := Lib.hid st1; have I1 := Lib.hid (HI.out.step HD.out st1 (by decide)); have OB1 := Lib.hid o1; have cp := o1.cap; have s1 := st1.size; have hbk : Blk w1 g 107 [.pointer (some ⟨gj, 0, none⟩), .slice A na c] := HD.out.blk HB.out st1.tch (by decide); have x1 : w1.cell? ⟨g, 1, none⟩ = some (.slice A na c) := hbk.cell 1; clear o1 h1 st1 hbk)
        | ((go_at_call 102; (with_reducible refine (hrd _ _ _ _ I1.out.ri OB1.out.rd.rb cp.1 cp.2).mono ?_); rintro e w2 ⟨B2, k2, d2, rfl, o2, b2⟩); have H2 := Lib.hid (H1.out.below b2); have ST2 := Lib.hid (ST1.out.then_below (b2.mono s1) hs); have O2 := Lib.hid (o2.rebase (base' := w.heap.size) s1); clear o2 b2)
        | fail "no arm")
      go_ret2
      rw [HXX.out]
      exact ⟨B2, k2, d2, rfl, O2.out, H2.out, ST2.out⟩
    · have heb : (e2 != 0) = true := by rw [bne_iff_ne]; exact he
      have heI : (((e2 : Nat) : Int) != 0) = true := by rw [bne_iff_ne]; omega
      have HXX := Lib.hid (show X = (D1, [], 41) from by rw [HX2.out, if_pos he])
      clear HX2 he
      go_enter Tryz.func41, Tryz.ntmps41
      go_wp2_with (first
        | (go_at_call 43; (with_reducible refine (his).mono ?_); rintro e w1 ⟨rfl, rfl⟩)
        | ((go_at_call 101; (with_reducible refine (hget).mono ?_); rintro e w1 ⟨B1, k1, d1, rfl, o1, h1, st1⟩); have H1 := Lib.hid h1; have ST1 := Lib.hid st1; have I1 := Lib.hid (HI.out.step HD.out st1 (by decide)); have OB1 := Lib.hid o1; have cp := o1.cap; have s1 := st1.size; have hbk : Blk w1 g 107 [.pointer (some ⟨gj, 0, none⟩), .slice A na c] := HD.out.blk HB.out st1.tch (by decide); have x1 : w1.cell? ⟨g, 1, none⟩ = some (.slice A na c) := hbk.cell 1; clear o1 h1 st1 hbk)
        | ((go_at_call 102; (with_reducible refine (hrd _ _ _ _ I1.out.ri OB1.out.rd.rb cp.1 cp.2).mono ?_); rintro e w2 ⟨B2, k2, d2, rfl, o2, b2⟩); have H2 := Lib.hid (H1.out.below b2); have ST2 := Lib.hid (ST1.out.then_below (b2.mono s1) hs); clear o2 b2)
        | fail "no arm")
      go_ret2
      rw [HXX.out]
      exact ⟨none, 0, 0, rfl, Ow.nil _ _ _ _, H2.out, ST2.out⟩
  · have hzb : (z != 0) = true := by rw [bne_iff_ne]; exact hz
    have HXX := Lib.hid (show X = (D1, [], z) from by rw [HX.out, if_pos hz])
    clear HX hz
    go_enter Tryz.func41, Tryz.ntmps41
    go_wp2_with (first
      | (go_at_call 43; (with_reducible refine (his).mono ?_); rintro e w1 ⟨rfl, rfl⟩)
      | ((go_at_call 101; (with_reducible refine (hget).mono ?_); rintro e w1 ⟨B1, k1, d1, rfl, o1, h1, st1⟩); have H1 := Lib.hid h1; have ST1 := Lib.hid st1; clear o1 h1 st1)
      | fail "no arm")
    go_ret2
    rw [HXX.out]
    exact ⟨none, 0, 0, rfl, Ow.nil _ _ _ _, H1.out, ST1.out⟩
end
end Go.Proofs.YtalmdccgpigppaaGreat
namespace Go.Proofs.YtalmdccgpigppaaGreat
open Go.RowKit
set_option linter.unusedVariables false
set_option linter.unusedSimpArgs false
theorem skopen_nil (w : World) (A : Option Addr) (n c : Nat) : Calls Tryz.prog 10 #[.pointer none, .slice A n c] w fun e w' => e = .returned (.tuple #[.pointer none, .int .i64 1]) ∧ w = w' := by
  go_enter Tryz.func10, Tryz.ntmps10
  go_wp2_with (first
    | (go_at_call 48; (with_reducible refine (many_nil _).mono ?_); rintro e w1 ⟨rfl, rfl⟩)
    | fail "no arm")
  go_ret2
  exact ⟨rfl, rfl⟩
section
variable {w w' : World} {base ga f m : Nat} {ts : List Int} {p : DiskP} {D : DiskV}
set_option maxRecDepth 100000 in
set_option maxHeartbeats 8000000 in
theorem skopen_any (ha : AreaAt w ga p.d f m) (hm : 1 ≤ m) (hd : DiskS w base p D) (hs : base ≤ w.heap.size) (hfm : f + m ≤ D.many) (hwt : D.waits.length < 900000) (A : Option Addr) (n c : Nat) (ht : IntsAt w base A n ts) :
    Calls Tryz.prog 10 #[.pointer (some ⟨ga, 0, none⟩), .slice A n c] w (FOpPost 107 w base ga 4 ts p (fOpenV D f m 4 ts)) := by
  have hmany := many_any ha
  have hmz : ((m : Int) == 0) = false := by rw [beq_eq_false_iff_ne]; omega
  have hn := ht.len
  have hright := right_any A n c ts w ht.ri hn
  have hun : fOpenV D f m 4 ts = if rightB ts = false then (D, 0, 2)
    else if (jOpenV D f m 4).2.2 ≠ 0 then ((jOpenV D f m 4).1, 0, (jOpenV D f m 4).2.2)
    else if (fAllK (jOpenV D f m 4).1 f m 4 (jOpenV D f m 4).2.1 ts (jOpenV D f m 4).2.1).2 ≠ 0 then ((fAllK (jOpenV D f m 4).1 f m 4 (jOpenV D f m 4).2.1 ts (jOpenV D f m 4).2.1).1, 0, (fAllK (jOpenV D f m 4).1 f m 4 (jOpenV D f m 4).2.1 ts (jOpenV D f m 4).2.1).2)
    else ((fAllK (jOpenV D f m 4).1 f m 4 (jOpenV D f m 4).2.1 ts (jOpenV D f m 4).2.1).1, (jOpenV D f m 4).2.1, 0) := rfl
  obtain ⟨few1, few2, few3⟩ := jOpenV_few D f m 4
  have hok : D.many ≤ 4096 := by obtain ⟨A, c, h⟩ := hd; exact h.ok.many1
  have hop := jopen_any (kind := 4) ha hm hd hs hfm hwt
  generalize fOpenV D f m 4 ts = R at *
  generalize jOpenV D f m 4 = J at *
  obtain ⟨D1, nx, z⟩ := J
  simp only at hun hop few1 few3
  have HD := Lib.hid hd
  have HA := Lib.hid ha
  have HT := Lib.hid ht
  cases hr : rightB ts with
  | false =>
    rw [if_pos hr] at hun
    rw [hr] at hright
    subst hun
    clear hd ha ht hop hr
    go_enter Tryz.func10, Tryz.ntmps10
    go_wp2_with (first
      | (go_at_call 48; (with_reducible refine (hmany).mono ?_); rintro e w1 ⟨rfl, rfl⟩)
      | (go_at_call 49; (with_reducible refine (hright).mono ?_); rintro e w1 ⟨rfl, rfl⟩)
      | fail "no arm")
    go_ret2
    exact FOpPost.no (by simp) HD.out (Step.refl _ _ _ _)
  | true =>
    rw [if_neg (by rw [hr]; simp)] at hun
    rw [hr] at hright
    have hn8 : n ≤ 8 := by have := (rightB_true.1 hr).2.2; have := ht.ri.1; omega
    by_cases hz : z = 0
    · subst hz
      rw [if_neg (by simp)] at hun
      have HUN := Lib.hid hun
      clear hd ha ht hr hun few2
      go_enter Tryz.func10, Tryz.ntmps10
      go_upto_region 9 with (first
        | (go_at_call 48; (with_reducible refine (hmany).mono ?_); rintro e w1 ⟨rfl, rfl⟩)
        | (go_at_call 49; (with_reducible refine (hright).mono ?_); rintro e w1 ⟨rfl, rfl⟩)
        | ((go_at_call 50; (with_reducible refine (hop).mono ?_); rintro e w2 ⟨P2, rfl, n2, y2, h2, st2⟩); obtain ⟨gj, rfl, g2, j2⟩ := y2 rfl; have J2 := Lib.hid j2; have H2 := Lib.hid h2; have ST2 := Lib.hid st2; have s2 := st2.size; have T2 := Lib.hid (HT.out.step HD.out st2 (by decide)); clear n2 y2 j2 h2 st2)
        | (at_builtin; refine wpList_app (α := Int) (enc := iv) rfl rfl elemInt iv_one (s := .tmp 30) (N := n) (L := ts) rfl (Ow.new _ _ #[] [] rfl (by decide)) rfl (k := ts) (T2.out.ri.below (B := w2.heap.size) (by (repeat' (first | (with_reducible exact Below.refl _ _) | (with_reducible assumption) | (with_reducible refine Below.drew ?_) | (with_reducible refine below_drewN ?_ _) | (with_reducible refine Below.alloc ?_ ?_ _) | (with_reducible refine Below.setCell ?_ ?_ _) | omega | (simp; done) | (simp; omega)))) (Nat.le_refl _)).rd (by simp) (by simp) hn (by omega) (by first | omega | (simp; done) | (simp; omega)) ?_; intro A5 c5 w5 hown5 hg5 hat5 hb5; have b5 := Lib.hid ((show Below w2.heap.size w2 (w2.alloc (.cells #[] 3)) from (by (repeat' (first | (with_reducible exact Below.refl _ _) | (with_reducible assumption) | (with_reducible refine Below.drew ?_) | (with_reducible refine below_drewN ?_ _) | (with_reducible refine Below.alloc ?_ ?_ _) | (with_reducible refine Below.setCell ?_ ?_ _) | omega | (simp; done) | (simp; omega))))).trans hb5); have I5 := Lib.hid (show IntsAt w5 base A5 n ts from IntsAt.of_ow hown5); have N5 := Lib.hid (fun b (hb : A5.map (·.block) = some b) => (hown5.lt b hb).1); clear hown5 hg5 hat5 hb5)
        | fail "no arm")
      have bX : Below w2.heap.size w2 (w5.alloc (.cells #[.pointer (some ⟨gj, 0, none⟩), .slice A5 n c5] 107)) := b5.out.alloc (by have := b5.out.size; omega) _
      have bY : Below w5.heap.size w5 (w5.alloc (.cells #[.pointer (some ⟨gj, 0, none⟩), .slice A5 n c5] 107)) := (Below.refl _ _).alloc (Nat.le_refl _) _
      have J6 := Lib.hid (show JRowsNew 107 (w5.alloc (.cells #[.pointer (some ⟨gj, 0, none⟩), .slice A5 n c5] 107)) base w.heap.size w5.heap.size ga 4 nx ts from ⟨gj, A5, n, c5, Blk.top _ rfl rfl, by omega, (Blk.below J2.out bX (Blk.lt J2.out)), I5.out.below bY, fun b hb => by have : w2.heap.size ≤ b := N5.out b hb; omega⟩)
      have H6 := Lib.hid (H2.out.below bX)
      have ST6 := Lib.hid (ST2.out.then_below (bX.mono s2) hs)
      have A6 := Lib.hid (HD.out.area HA.out ST6.out.tch (by decide))
      have s6 := ST6.out.size
      have s5 := b5.out.size
      generalize hW : w5.alloc (.cells #[.pointer (some ⟨gj, 0, none⟩), .slice A5 n c5] 107) = w6 at *
      have c6 : w6.cell? ⟨w5.heap.size, 0, none⟩ = some (.pointer (some ⟨gj, 0, none⟩)) := by rw [← hW]; exact Blk.cell (Blk.top _ rfl rfl) 0
      generalize hG : w5.heap.size = gf at *
      clear hW bX bY b5 I5 T2 J2 H2 ST2 HT hright hmany
      have hlen := sklen_any J6.out.at_
      have hlj : Calls Tryz.prog 44 #[.pointer (some ⟨gj, 0, none⟩)] w6 fun e w' => e = .returned (.int .i64 (nx : Nat)) ∧ w6 = w' := by
        obtain ⟨gj', A, n', c', q1, _, q3, _⟩ := J6.out
        have := q1.cell 0
        rw [c6] at this
        injection this with this
        injection this with this
        injection this with this
        injection this with this
        subst this
        exact jlen_any q3
      have hnx : nx ≤ 4096 := by omega
      go_wp2_with (first
        | ((go_at_call 44; (with_reducible refine (hlj).mono ?_); rintro e w7 ⟨rfl, rfl⟩))
        | fail "no arm")
      go_loopw [9, 10, 11, 41] (fun _ _ _ i wr => ∃ (k : Nat) (Dk : DiskV), k ≤ nx ∧ i = .int .i64 (k : Nat) ∧ fAllK D1 f m 4 nx ts k = (Dk, 0) ∧ DiskS wr base p Dk ∧ Step mutD base p w6 wr) (fun _ _ _ i _ => nx - (intOf i).toNat)
      case atStart => exact ⟨0, D1, by omega, rfl, rfl, H6.out, Step.refl _ _ _ _⟩
      case round =>
        obtain ⟨k, Dk, hk, rfl, hall, hdk, hst⟩ := hrel
        have hsz := hst.size
        have hjk := J6.out.step H6.out hst (by decide) (by decide) (by decide)
        by_cases hlt : k < nx
        · have hak := H6.out.area A6.out hst.tch (by decide)
          have hmk : Dk.many = D.many := by have := fAllK_many D1 f m 4 nx ts k; rw [hall] at this; exact this.trans few1
          have hget := skget_any hjk.at_ hdk (by omega) hak (by rw [hmk]; exact hfm) hnx (k : Int)
          have hnext := fAllK_next hall
          generalize fGetV Dk f m 4 nx ts (k : Int) = G at *
          obtain ⟨Dn, ln, zn⟩ := G
          simp only at hget hnext
          have HDk := Lib.hid hdk
          have HST := Lib.hid hst
          clear hdk hjk hak hall
          by_cases he : zn = 0
          · subst he
            have HN := Lib.hid hnext
            clear hnext
            go_wp2_with (first
              | ((go_at_call 41; (with_reducible refine (hget).mono ?_); rintro e w8 ⟨L8, k8, d8, rfl, o8, h8, st8⟩))
              | fail "no arm")
            go_roundw
            case rel => first
              | exact ⟨k + 1, Dn, by omega, by go_num, HN.out, h8, HST.out.trans st8⟩
              | ((repeat apply Exists.intro); exact ⟨⟨k + 1, Dn, by omega, by go_num, HN.out, h8, HST.out.trans st8⟩, rfl⟩)
            case measure => simp [intOf]; omega
          · have hneb : (zn != 0) = true := by rw [bne_iff_ne]; exact he
            have hstop := fAllK_stop (D := D1) (f := f) (m := m) (kind := 4) (next := nx) (ts := ts) (k := k + 1) (n := nx) (by rw [hnext]; exact he) (by omega)
            have hR : R = (Dn, 0, zn) := by rw [HUN.out, hstop, hnext, if_pos he]
            subst hR
            have HE := Lib.hid he
            clear HUN hstop hnext he
            go_wp2_with (first
              | ((go_at_call 41; (with_reducible refine (hget).mono ?_); rintro e w8 ⟨L8, k8, d8, rfl, o8, h8, st8⟩))
              | fail "no arm")
            go_ret2
            exact FOpPost.no HE.out h8 ((ST6.out.trans HST.out).trans st8)
        · have hk9 : k = nx := by omega
          subst hk9
          have hR : R = (Dk, k, 0) := by rw [HUN.out, hall, if_neg (by simp)]
          subst hR
          have HDk := Lib.hid hdk
          have HST := Lib.hid hst
          have HJ := Lib.hid hjk
          clear hdk hst hjk hall HUN
          go_wp2
          go_ret2
          exact FOpPost.yes (by omega) HJ.out HDk.out (ST6.out.trans HST.out)
    · rw [if_pos hz] at hun
      have hzb : (z != 0) = true := by rw [bne_iff_ne]; exact hz
      subst hun
      have HZ := Lib.hid hz
      clear hd ha ht hr hz few2
      go_enter Tryz.func10, Tryz.ntmps10
      go_wp2_with (first
        | (go_at_call 48; (with_reducible refine (hmany).mono ?_); rintro e w1 ⟨rfl, rfl⟩)
        | (go_at_call 49; (with_reducible refine (hright).mono ?_); rintro e w1 ⟨rfl, rfl⟩)
        | ((go_at_call 50; (with_reducible refine (hop).mono ?_); rintro e w2 ⟨P2, rfl, n2, y2, h2, st2⟩); obtain rfl := n2 HZ.out)
        | fail "no arm")
      go_ret2
      exact FOpPost.no HZ.out h2 st2
end
end Go.Proofs.YtalmdccgpigppaaGreat
