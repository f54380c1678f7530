/- Parts: FeedA, PlainFew, FeedN, FeedB, FeedC. -/
import Derived.Test.YtalmdccgpigppaaPart22
import Derived.Deep.DeepCutAuto
import Derived.Deep.CutBlock
import Derived.Test.YtalmdccgpigppaaPart17
namespace Go.Proofs.Ytalmdccgpigppaa
open Go.RowKit
set_option linter.unusedVariables false
set_option linter.unusedSimpArgs false
section
variable {w w' : World} {base g ga f m next : Nat} {kind : Int} {ts : List Int} {p : DiskP} {D : DiskV}
theorem fdis_nil (w : World) : Calls Try.prog 63 #[.pointer none] w fun e w' => e = .returned (.bool false) ∧ w = w' := by
  go_enter Try.func63, Try.ntmps63
  go_wp2
  go_ret
  exact ⟨rfl, rfl⟩
theorem fdis_yes (h : JRowsAt 143 w base g ga kind next ts) : Calls Try.prog 63 #[.pointer (some ⟨g, 0, none⟩)] w fun e w' => e = .returned (.bool true) ∧ w = w' := by
  obtain ⟨gj, A, n, c, hb, hg, hj, hi⟩ := h
  have c0 : w.cell? ⟨g, 0, none⟩ = some (.pointer (some ⟨gj, 0, none⟩)) := hb.cell 0
  clear hb hj hi
  go_enter Try.func63, Try.ntmps63
  go_wp2
  go_ret
  exact ⟨rfl, rfl⟩
theorem fdlen_any (h : JRowsAt 143 w base g ga kind next ts) : Calls Try.prog 26 #[.pointer (some ⟨g, 0, none⟩)] w fun e w' => e = .returned (.int .i64 (next : Nat)) ∧ w = w' := by
  have hi := fdis_yes h
  obtain ⟨gj, A, n, c, hb, hg, hj, _⟩ := h
  have c0 : w.cell? ⟨g, 0, none⟩ = some (.pointer (some ⟨gj, 0, none⟩)) := hb.cell 0
  have hl := jlen_any hj
  clear hb hj
  go_enter Try.func26, Try.ntmps26
  go_wp2_with (first
    | (go_at_call 63; (with_reducible refine (hi).mono ?_); rintro e w1 ⟨rfl, rfl⟩)
    | (go_at_call 62; (with_reducible refine (hl).mono ?_); rintro e w1 ⟨rfl, rfl⟩)
    | fail "no arm")
  go_ret
  exact ⟨rfl, rfl⟩
set_option maxRecDepth 100000 in
set_option maxHeartbeats 4000000 in
theorem fdget_any (h : JRowsAt 143 w base g ga kind next ts) (hd : DiskS w base p D) (hs : base ≤ w.heap.size) (ha : AreaAt w ga p.d f m) (hfm : f + m ≤ D.many) (hnm : next ≤ 4096) (n : Int) :
    Calls Try.prog 27 #[.pointer (some ⟨g, 0, none⟩), .int .i64 n] w fun e w' => ∃ B k d, e = .returned (.tuple #[.slice B k d, .int .i64 (fGetV D f m kind next ts n).2.2]) ∧ Ow iv w' w.heap.size 3 B k d (fGetV D f m kind next ts n).2.1 ∧ DiskS w' base p (fGetV D f m kind next ts n).1 ∧ Step mutD base p w w' := by
  have his := fdis_yes h
  have HH := Lib.hid h
  obtain ⟨gj, A, na, c, hb, hg, hj, hi⟩ := h
  have c0 : w.cell? ⟨g, 0, none⟩ = some (.pointer (some ⟨gj, 0, none⟩)) := hb.cell 0
  have hget := jget_any hj hd hs ha hfm hnm n
  have HB := Lib.hid hb
  have HI := Lib.hid hi
  have HD := Lib.hid hd
  obtain ⟨R, hR⟩ : ∃ R, R = jGetV D f m kind next n := ⟨_, rfl⟩
  rw [← hR] at hget
  obtain ⟨X, hX⟩ : ∃ X, X = fGetV D f m kind next ts n := ⟨_, rfl⟩
  have hXR : X = if R.2.2 ≠ 0 then (R.1, [], R.2.2) else if (readR ts R.2.1).2 ≠ 0 then (R.1, [], 41) else (R.1, (readR ts R.2.1).1, 0) := by rw [hX, hR]; rfl
  rw [← hX]
  have HX := Lib.hid hXR
  clear hb hi hd hj hX hR hXR
  obtain ⟨D1, bs, z⟩ := R
  simp only at hget HX
  by_cases hz : z = 0
  · subst hz
    have HX2 := Lib.hid (show X = if (readR ts bs).2 ≠ 0 then (D1, [], 41) else (D1, (readR ts bs).1, 0) from by rw [HX.out, if_neg (by simp)])
    clear HX
    have hrd := fun (W : World) (B : Option Addr) (k d : Nat) (r1 : RI W A na ts) (r2 : RB W B k bs) (hk : k ≤ d) (hd : d ≤ maxLen) => read_row A B na k c d ts bs W r1 r2 HI.out.len hk hd
    generalize hrr : readR ts bs = rr at *
    obtain ⟨l2, e2⟩ := rr
    clear hrr
    simp only at HX2
    by_cases he : e2 = 0
    · subst he
      have HXX := Lib.hid (show X = (D1, l2, 0) from by rw [HX2.out, if_neg (by simp)])
      clear HX2
      go_enter Try.func27, Try.ntmps27
      go_wp2_with (first
        | (go_at_call 63; (with_reducible refine (his).mono ?_); rintro e w1 ⟨rfl, rfl⟩)
        | ((go_at_call 67; (with_reducible refine (hget).mono ?_); rintro e w1 ⟨B1, k1, d1, rfl, o1, h1, st1⟩); have H1 := Lib.hid h1; have ST1 := Lib.hid st1; have I1 := Lib.hid (HI.out.step HD.out st1 (by decide)); have OB1 := Lib.hid o1; have cp := o1.cap; have s1 := st1.size; have hbk : Blk w1 g 143 [.pointer (some ⟨gj, 0, none⟩), .slice A na c] := HD.out.blk HB.out st1.tch (by decide); have x1 : w1.cell? ⟨g, 1, none⟩ = some (.slice A na c) := hbk.cell 1; clear o1 h1 st1 hbk)
        | ((go_at_call 68; (with_reducible refine (hrd _ _ _ _ I1.out.ri OB1.out.rd.rb cp.1 cp.2).mono ?_); rintro e w2 ⟨B2, k2, d2, rfl, o2, b2⟩); have H2 := Lib.hid (H1.out.below b2); have ST2 := Lib.hid (ST1.out.then_below (b2.mono s1) hs); have O2 := Lib.hid (o2.rebase (base' := w.heap.size) s1); clear o2 b2)
        | fail "no arm")
      go_ret2
      rw [HXX.out]
      exact ⟨B2, k2, d2, rfl, O2.out, H2.out, ST2.out⟩
    · have heb : (e2 != 0) = true := by rw [bne_iff_ne]; exact he
      have heI : (((e2 : Nat) : Int) != 0) = true := by rw [bne_iff_ne]; omega
      have HXX := Lib.hid (show X = (D1, [], 41) from by rw [HX2.out, if_pos he])
      clear HX2 he
      go_enter Try.func27, Try.ntmps27
      go_wp2_with (first
        | (go_at_call 63; (with_reducible refine (his).mono ?_); rintro e w1 ⟨rfl, rfl⟩)
        | ((go_at_call 67; (with_reducible refine (hget).mono ?_); rintro e w1 ⟨B1, k1, d1, rfl, o1, h1, st1⟩); have H1 := Lib.hid h1; have ST1 := Lib.hid st1; have I1 := Lib.hid (HI.out.step HD.out st1 (by decide)); have OB1 := Lib.hid o1; have cp := o1.cap; have s1 := st1.size; have hbk : Blk w1 g 143 [.pointer (some ⟨gj, 0, none⟩), .slice A na c] := HD.out.blk HB.out st1.tch (by decide); have x1 : w1.cell? ⟨g, 1, none⟩ = some (.slice A na c) := hbk.cell 1; clear o1 h1 st1 hbk)
        | ((go_at_call 68; (with_reducible refine (hrd _ _ _ _ I1.out.ri OB1.out.rd.rb cp.1 cp.2).mono ?_); rintro e w2 ⟨B2, k2, d2, rfl, o2, b2⟩); have H2 := Lib.hid (H1.out.below b2); have ST2 := Lib.hid (ST1.out.then_below (b2.mono s1) hs); clear o2 b2)
        | fail "no arm")
      go_ret2
      rw [HXX.out]
      exact ⟨none, 0, 0, rfl, Ow.nil _ _ _ _, H2.out, ST2.out⟩
  · have hzb : (z != 0) = true := by rw [bne_iff_ne]; exact hz
    have HXX := Lib.hid (show X = (D1, [], z) from by rw [HX.out, if_pos hz])
    clear HX hz
    go_enter Try.func27, Try.ntmps27
    go_wp2_with (first
      | (go_at_call 63; (with_reducible refine (his).mono ?_); rintro e w1 ⟨rfl, rfl⟩)
      | ((go_at_call 67; (with_reducible refine (hget).mono ?_); rintro e w1 ⟨B1, k1, d1, rfl, o1, h1, st1⟩); have H1 := Lib.hid h1; have ST1 := Lib.hid st1; clear o1 h1 st1)
      | fail "no arm")
    go_ret2
    rw [HXX.out]
    exact ⟨none, 0, 0, rfl, Ow.nil _ _ _ _, H1.out, ST1.out⟩
end
end Go.Proofs.Ytalmdccgpigppaa
namespace Go.Proofs.Ytalmdccgpigppaa
open Go.RowKit
set_option linter.unusedVariables false
set_option linter.unusedSimpArgs false
theorem wipeK_waits (f m : Nat) : ∀ (l : List Int) (D : DiskV), (wipeK D f m l).1.many = D.many ∧ (wipeK D f m l).1.waits.length ≤ D.waits.length + l.length := by
  intro l
  induction l with
  | nil => intro D; exact ⟨rfl, by simp [wipeK]⟩
  | cons n l ih =>
    intro D
    obtain ⟨a1, a2⟩ := aWriteV_many D f m n zerosL
    by_cases he : (aWriteV D f m n zerosL).2 = 0
    · rw [wipeK_step he]
      obtain ⟨h1, h2⟩ := ih (aWriteV D f m n zerosL).1
      exact ⟨h1.trans a1, by rw [List.length_cons]; omega⟩
    · rw [wipeK_stop he]
      exact ⟨a1, by rw [List.length_cons]; omega⟩
theorem flushV_few (D : DiskV) : (flushV D).1.many = D.many ∧ (flushV D).1.waits.length ≤ D.waits.length := by
  unfold flushV
  split
  · exact ⟨rfl, Nat.le_refl _⟩
  · split
    · exact ⟨rfl, by simp [goesV]⟩
    · exact ⟨rfl, by simp [flushD]⟩
theorem jOpenV_few (D : DiskV) (f m : Nat) (kind : Int) : (jOpenV D f m kind).1.many = D.many ∧ (jOpenV D f m kind).1.waits.length ≤ D.waits.length + m ∧ (jOpenV D f m kind).2.1 ≤ m := by
  obtain ⟨o, eo⟩ := rdK_ops D m
  have hle := scanK_le D.now f kind m
  obtain ⟨h1, h2⟩ := wipeK_waits f m (scanK D.now f kind m).2.2 (rdK D m)
  have e1 : (rdK D m).many = D.many := by rw [eo]
  have e2 : (rdK D m).waits = D.waits := by rw [eo]
  rw [e1] at h1
  rw [e2] at h2
  have f1 := flushV_few (jWipe D f m kind).1
  unfold jWipe at f1
  unfold jOpenV
  unfold jWipe
  split
  · exact ⟨rfl, by simp, by simp⟩
  split
  · exact ⟨rfl, by simp, by simp⟩
  split
  · exact ⟨h1, Nat.le_trans h2 (by omega), by simp⟩
  split
  · exact ⟨h1, Nat.le_trans h2 (by omega), hle.1⟩
  split
  · exact ⟨f1.1.trans h1, Nat.le_trans f1.2 (Nat.le_trans h2 (by omega)), by simp⟩
  · exact ⟨f1.1.trans h1, Nat.le_trans f1.2 (Nat.le_trans h2 (by omega)), hle.1⟩
theorem aPutV_few (D : DiskV) (f m : Nat) (n kind number : Int) (l : List UInt8) : (aPutV D f m n kind number l).1.many = D.many ∧ (aPutV D f m n kind number l).1.waits.length ≤ D.waits.length + 1 := by
  unfold aPutV
  split
  · exact ⟨rfl, by simp⟩
  · exact aWriteV_many D f m n _
theorem jAddV_few (D : DiskV) (f m : Nat) (kind : Int) (next : Nat) (l : List UInt8) (hn : next ≤ m) : (jAddV D f m kind next l).1.many = D.many ∧ (jAddV D f m kind next l).1.waits.length ≤ D.waits.length + 1 ∧ (jAddV D f m kind next l).2.1 ≤ m := by
  obtain ⟨h1, h2⟩ := aPutV_few D f m next kind next l
  unfold jAddV
  split
  · exact ⟨rfl, by simp, hn⟩
  split
  · exact ⟨rfl, by simp, hn⟩
  split
  · exact ⟨h1, h2, hn⟩
  · exact ⟨h1, h2, by show next + 1 ≤ m; omega⟩
theorem aReadV_few (D : DiskV) (f m : Nat) (n : Int) : (aReadV D f m n).1.many = D.many ∧ (aReadV D f m n).1.waits.length ≤ D.waits.length := by
  unfold aReadV readV
  split
  · exact ⟨rfl, Nat.le_refl _⟩
  · split
    · exact ⟨rfl, Nat.le_refl _⟩
    · exact ⟨rfl, by simp [readV']⟩
theorem jGetV_few (D : DiskV) (f m : Nat) (kind : Int) (next : Nat) (n : Int) : (jGetV D f m kind next n).1.many = D.many ∧ (jGetV D f m kind next n).1.waits.length ≤ D.waits.length := by
  have h := aReadV_few D f m n
  unfold jGetV
  split
  · exact ⟨rfl, Nat.le_refl _⟩
  split
  · exact h
  split
  · exact h
  · exact h
end Go.Proofs.Ytalmdccgpigppaa
namespace Go.Proofs.Ytalmdccgpigppaa
open Go.RowKit
set_option linter.unusedVariables false
set_option linter.unusedSimpArgs false
def FOpPost (t : TypeId) (w : World) (base ga : Nat) (kind : Int) (ts : List Int) (p : DiskP) (R : DiskV × Nat × Int) (e : Ending) (w' : World) : Prop :=
  ∃ P, e = .returned (.tuple #[.pointer P, .int .i64 R.2.2]) ∧ (R.2.2 ≠ 0 → P = none) ∧ (R.2.2 = 0 → ∃ g, P = some ⟨g, 0, none⟩ ∧ w.heap.size ≤ g ∧ JRowsAt t w' base g ga kind R.2.1 ts) ∧ DiskS w' base p R.1 ∧ Step mutD base p w w'
section
variable {t : TypeId} {w w' : World} {base ga g next : Nat} {kind z : Int} {ts : List Int} {p : DiskP} {D : DiskV}
theorem FOpPost.no (hz : z ≠ 0) (hd : DiskS w' base p D) (hs : Step mutD base p w w') : FOpPost t w base ga kind ts p (D, 0, z) (.returned (.tuple #[.pointer none, .int .i64 z])) w' :=
  ⟨none, rfl, fun _ => rfl, fun e => absurd e hz, hd, hs⟩
theorem FOpPost.yes (hg : w.heap.size ≤ g) (hj : JRowsAt t w' base g ga kind next ts) (hd : DiskS w' base p D) (hs : Step mutD base p w w') : FOpPost t w base ga kind ts p (D, next, 0) (.returned (.tuple #[.pointer (some ⟨g, 0, none⟩), .int .i64 0])) w' :=
  ⟨_, rfl, fun e => absurd rfl e, fun _ => ⟨g, rfl, hg, hj⟩, hd, hs⟩
end
theorem fGetV_many (D : DiskV) (f m : Nat) (kind : Int) (next : Nat) (ts : List Int) (n : Int) : (fGetV D f m kind next ts n).1.many = D.many := by
  obtain ⟨o, e⟩ := fGetV_keeps D f m kind next ts n; rw [e]
theorem fAllK_many (D : DiskV) (f m : Nat) (kind : Int) (next : Nat) (ts : List Int) (k : Nat) : (fAllK D f m kind next ts k).1.many = D.many := by
  obtain ⟨o, e⟩ := fAllK_keeps D f m kind next ts k; rw [e]
theorem fAllK_next {D Dk : DiskV} {f m : Nat} {kind : Int} {next : Nat} {ts : List Int} {k : Nat} (h : fAllK D f m kind next ts k = (Dk, 0)) :
    fAllK D f m kind next ts (k + 1) = ((fGetV Dk f m kind next ts (k : Int)).1, (fGetV Dk f m kind next ts (k : Int)).2.2) := by
  show (if (fAllK D f m kind next ts k).2 ≠ 0 then _ else _) = _
  rw [h]; simp
end Go.Proofs.Ytalmdccgpigppaa
namespace Go.Proofs.Ytalmdccgpigppaa
open Go.RowKit
set_option linter.unusedVariables false
set_option linter.unusedSimpArgs false
theorem fdopen_nil (w : World) (A : Option Addr) (n c : Nat) : Calls Try.prog 24 #[.pointer none, .slice A n c] w fun e w' => e = .returned (.tuple #[.pointer none, .int .i64 1]) ∧ w = w' := by
  go_enter Try.func24, Try.ntmps24
  go_wp2_with (first
    | (go_at_call 47; (with_reducible refine (many_nil _).mono ?_); rintro e w1 ⟨rfl, rfl⟩)
    | fail "no arm")
  go_ret2
  exact ⟨rfl, rfl⟩
section
variable {w w' : World} {base ga f m : Nat} {ts : List Int} {p : DiskP} {D : DiskV}
set_option maxRecDepth 100000 in
set_option maxHeartbeats 8000000 in
theorem fdopen_any (ha : AreaAt w ga p.d f m) (hm : 1 ≤ m) (hd : DiskS w base p D) (hs : base ≤ w.heap.size) (hfm : f + m ≤ D.many) (hwt : D.waits.length < 900000) (A : Option Addr) (n c : Nat) (ht : IntsAt w base A n ts) :
    Calls Try.prog 24 #[.pointer (some ⟨ga, 0, none⟩), .slice A n c] w (FOpPost 143 w base ga 3 ts p (fOpenV D f m 3 ts)) := by
  have hmany := many_any ha
  have hmz : ((m : Int) == 0) = false := by rw [beq_eq_false_iff_ne]; omega
  have hn := ht.len
  have hright := right_any A n c ts w ht.ri hn
  have hun : fOpenV D f m 3 ts = if rightB ts = false then (D, 0, 2)
    else if (jOpenV D f m 3).2.2 ≠ 0 then ((jOpenV D f m 3).1, 0, (jOpenV D f m 3).2.2)
    else if (fAllK (jOpenV D f m 3).1 f m 3 (jOpenV D f m 3).2.1 ts (jOpenV D f m 3).2.1).2 ≠ 0 then ((fAllK (jOpenV D f m 3).1 f m 3 (jOpenV D f m 3).2.1 ts (jOpenV D f m 3).2.1).1, 0, (fAllK (jOpenV D f m 3).1 f m 3 (jOpenV D f m 3).2.1 ts (jOpenV D f m 3).2.1).2)
    else ((fAllK (jOpenV D f m 3).1 f m 3 (jOpenV D f m 3).2.1 ts (jOpenV D f m 3).2.1).1, (jOpenV D f m 3).2.1, 0) := rfl
  obtain ⟨few1, few2, few3⟩ := jOpenV_few D f m 3
  have hok : D.many ≤ 4096 := by obtain ⟨A, c, h⟩ := hd; exact h.ok.many1
  have hop := jopen_any (kind := 3) ha hm hd hs hfm hwt
  generalize fOpenV D f m 3 ts = R at *
  generalize jOpenV D f m 3 = J at *
  obtain ⟨D1, nx, z⟩ := J
  simp only at hun hop few1 few3
  have HD := Lib.hid hd
  have HA := Lib.hid ha
  have HT := Lib.hid ht
  cases hr : rightB ts with
  | false =>
    rw [if_pos hr] at hun
    rw [hr] at hright
    subst hun
    clear hd ha ht hop hr
    go_enter Try.func24, Try.ntmps24
    go_wp2_with (first
      | (go_at_call 47; (with_reducible refine (hmany).mono ?_); rintro e w1 ⟨rfl, rfl⟩)
      | (go_at_call 60; (with_reducible refine (hright).mono ?_); rintro e w1 ⟨rfl, rfl⟩)
      | fail "no arm")
    go_ret2
    exact FOpPost.no (by simp) HD.out (Step.refl _ _ _ _)
  | true =>
    rw [if_neg (by rw [hr]; simp)] at hun
    rw [hr] at hright
    have hn8 : n ≤ 8 := by have := (rightB_true.1 hr).2.2; have := ht.ri.1; omega
    by_cases hz : z = 0
    · subst hz
      rw [if_neg (by simp)] at hun
      have HUN := Lib.hid hun
      clear hd ha ht hr hun few2
      go_enter Try.func24, Try.ntmps24
      go_upto_region 9 with (first
        | (go_at_call 47; (with_reducible refine (hmany).mono ?_); rintro e w1 ⟨rfl, rfl⟩)
        | (go_at_call 60; (with_reducible refine (hright).mono ?_); rintro e w1 ⟨rfl, rfl⟩)
        | ((go_at_call 61; (with_reducible refine (hop).mono ?_); rintro e w2 ⟨P2, rfl, n2, y2, h2, st2⟩); obtain ⟨gj, rfl, g2, j2⟩ := y2 rfl; have J2 := Lib.hid j2; have H2 := Lib.hid h2; have ST2 := Lib.hid st2; have s2 := st2.size; have T2 := Lib.hid (HT.out.step HD.out st2 (by decide)); clear n2 y2 j2 h2 st2)
        | (at_builtin; refine wpList_app (α := Int) (enc := iv) rfl rfl elemInt iv_one (s := .tmp 30) (N := n) (L := ts) rfl (Ow.new _ _ #[] [] rfl (by decide)) rfl (k := ts) (T2.out.ri.below (B := w2.heap.size) (by (repeat' (first | (with_reducible exact Below.refl _ _) | (with_reducible assumption) | (with_reducible refine Below.drew ?_) | (with_reducible refine below_drewN ?_ _) | (with_reducible refine Below.alloc ?_ ?_ _) | (with_reducible refine Below.setCell ?_ ?_ _) | omega | (simp; done) | (simp; omega)))) (Nat.le_refl _)).rd (by simp) (by simp) hn (by omega) (by first | omega | (simp; done) | (simp; omega)) ?_; intro A5 c5 w5 hown5 hg5 hat5 hb5; have b5 := Lib.hid ((show Below w2.heap.size w2 (w2.alloc (.cells #[] 3)) from (by (repeat' (first | (with_reducible exact Below.refl _ _) | (with_reducible assumption) | (with_reducible refine Below.drew ?_) | (with_reducible refine below_drewN ?_ _) | (with_reducible refine Below.alloc ?_ ?_ _) | (with_reducible refine Below.setCell ?_ ?_ _) | omega | (simp; done) | (simp; omega))))).trans hb5); have I5 := Lib.hid (show IntsAt w5 base A5 n ts from IntsAt.of_ow hown5); clear hown5 hg5 hat5 hb5)
        | fail "no arm")
      have bX : Below w2.heap.size w2 (w5.alloc (.cells #[.pointer (some ⟨gj, 0, none⟩), .slice A5 n c5] 143)) := b5.out.alloc (by have := b5.out.size; omega) _
      have bY : Below w5.heap.size w5 (w5.alloc (.cells #[.pointer (some ⟨gj, 0, none⟩), .slice A5 n c5] 143)) := (Below.refl _ _).alloc (Nat.le_refl _) _
      have J6 := Lib.hid (show JRowsAt 143 (w5.alloc (.cells #[.pointer (some ⟨gj, 0, none⟩), .slice A5 n c5] 143)) base w5.heap.size ga 3 nx ts from ⟨gj, A5, n, c5, Blk.top _ rfl rfl, by omega, (Blk.below J2.out bX (Blk.lt J2.out)), I5.out.below bY⟩)
      have H6 := Lib.hid (H2.out.below bX)
      have ST6 := Lib.hid (ST2.out.then_below (bX.mono s2) hs)
      have A6 := Lib.hid (HD.out.area HA.out ST6.out.tch (by decide))
      have s6 := ST6.out.size
      have s5 := b5.out.size
      generalize hW : w5.alloc (.cells #[.pointer (some ⟨gj, 0, none⟩), .slice A5 n c5] 143) = w6 at *
      have c6 : w6.cell? ⟨w5.heap.size, 0, none⟩ = some (.pointer (some ⟨gj, 0, none⟩)) := by rw [← hW]; exact Blk.cell (Blk.top _ rfl rfl) 0
      generalize hG : w5.heap.size = gf at *
      clear hW bX bY b5 I5 T2 J2 H2 ST2 HT hright hmany
      have hlen := fdlen_any J6.out
      have hlj : Calls Try.prog 62 #[.pointer (some ⟨gj, 0, none⟩)] w6 fun e w' => e = .returned (.int .i64 (nx : Nat)) ∧ w6 = w' := by
        obtain ⟨gj', A, n', c', q1, _, q3, _⟩ := J6.out
        have := q1.cell 0
        rw [c6] at this
        injection this with this
        injection this with this
        injection this with this
        injection this with this
        subst this
        exact jlen_any q3
      have hnx : nx ≤ 4096 := by omega
      go_wp2_with (first
        | ((go_at_call 62; (with_reducible refine (hlj).mono ?_); rintro e w7 ⟨rfl, rfl⟩))
        | fail "no arm")
      go_loopw [9, 10, 11, 41] (fun _ _ _ i wr => ∃ (k : Nat) (Dk : DiskV), k ≤ nx ∧ i = .int .i64 (k : Nat) ∧ fAllK D1 f m 3 nx ts k = (Dk, 0) ∧ DiskS wr base p Dk ∧ Step mutD base p w6 wr) (fun _ _ _ i _ => nx - (intOf i).toNat)
      case atStart => exact ⟨0, D1, by omega, rfl, rfl, H6.out, Step.refl _ _ _ _⟩
      case round =>
        obtain ⟨k, Dk, hk, rfl, hall, hdk, hst⟩ := hrel
        have hsz := hst.size
        have hjk := J6.out.step H6.out hst (by decide) (by decide) (by decide)
        by_cases hlt : k < nx
        · have hak := H6.out.area A6.out hst.tch (by decide)
          have hmk : Dk.many = D.many := by have := fAllK_many D1 f m 3 nx ts k; rw [hall] at this; exact this.trans few1
          have hget := fdget_any hjk hdk (by omega) hak (by rw [hmk]; exact hfm) hnx (k : Int)
          have hnext := fAllK_next hall
          generalize fGetV Dk f m 3 nx ts (k : Int) = G at *
          obtain ⟨Dn, ln, zn⟩ := G
          simp only at hget hnext
          have HDk := Lib.hid hdk
          have HST := Lib.hid hst
          clear hdk hjk hak hall
          by_cases he : zn = 0
          · subst he
            have HN := Lib.hid hnext
            clear hnext
            go_wp2_with (first
              | ((go_at_call 27; (with_reducible refine (hget).mono ?_); rintro e w8 ⟨L8, k8, d8, rfl, o8, h8, st8⟩))
              | fail "no arm")
            go_roundw
            case rel => first
              | exact ⟨k + 1, Dn, by omega, by go_num, HN.out, h8, HST.out.trans st8⟩
              | ((repeat apply Exists.intro); exact ⟨⟨k + 1, Dn, by omega, by go_num, HN.out, h8, HST.out.trans st8⟩, rfl⟩)
            case measure => simp [intOf]; omega
          · have hneb : (zn != 0) = true := by rw [bne_iff_ne]; exact he
            have hstop := fAllK_stop (D := D1) (f := f) (m := m) (kind := 3) (next := nx) (ts := ts) (k := k + 1) (n := nx) (by rw [hnext]; exact he) (by omega)
            have hR : R = (Dn, 0, zn) := by rw [HUN.out, hstop, hnext, if_pos he]
            subst hR
            have HE := Lib.hid he
            clear HUN hstop hnext he
            go_wp2_with (first
              | ((go_at_call 27; (with_reducible refine (hget).mono ?_); rintro e w8 ⟨L8, k8, d8, rfl, o8, h8, st8⟩))
              | fail "no arm")
            go_ret2
            exact FOpPost.no HE.out h8 ((ST6.out.trans HST.out).trans st8)
        · have hk9 : k = nx := by omega
          subst hk9
          have hR : R = (Dk, k, 0) := by rw [HUN.out, hall, if_neg (by simp)]
          subst hR
          have HDk := Lib.hid hdk
          have HST := Lib.hid hst
          have HJ := Lib.hid hjk
          clear hdk hst hjk hall HUN
          go_wp2
          go_ret2
          exact FOpPost.yes (by omega) HJ.out HDk.out (ST6.out.trans HST.out)
    · rw [if_pos hz] at hun
      have hzb : (z != 0) = true := by rw [bne_iff_ne]; exact hz
      subst hun
      have HZ := Lib.hid hz
      clear hd ha ht hr hz few2
      go_enter Try.func24, Try.ntmps24
      go_wp2_with (first
        | (go_at_call 47; (with_reducible refine (hmany).mono ?_); rintro e w1 ⟨rfl, rfl⟩)
        | (go_at_call 60; (with_reducible refine (hright).mono ?_); rintro e w1 ⟨rfl, rfl⟩)
        | ((go_at_call 61; (with_reducible refine (hop).mono ?_); rintro e w2 ⟨P2, rfl, n2, y2, h2, st2⟩); obtain rfl := n2 HZ.out)
        | fail "no arm")
      go_ret2
      exact FOpPost.no HZ.out h2 st2
end
end Go.Proofs.Ytalmdccgpigppaa
namespace Go.Proofs.Ytalmdccgpigppaa
open Go.RowKit
set_option linter.unusedVariables false
set_option linter.unusedSimpArgs false
theorem JRowsAt.partsF {t : TypeId} {w : World} {base g ga next : Nat} {kind : Int} {ts : List Int} (h : JRowsAt t w base g ga kind next ts) :
    ∃ gj A n c, Blk w g t [.pointer (some ⟨gj, 0, none⟩), .slice A n c] ∧ base ≤ gj ∧ JrnAt w gj ga kind next ∧ IntsAt w base A n ts ∧ w.cell? ⟨g, 0, none⟩ = some (.pointer (some ⟨gj, 0, none⟩)) ∧ w.cell? ⟨g, 1, none⟩ = some (.slice A n c) := by
  obtain ⟨gj, A, n, c, hb, hg, hj, hi⟩ := h
  exact ⟨gj, A, n, c, hb, hg, hj, hi, hb.cell 0, hb.cell 1⟩

theorem fdadd_nil (w : World) (B : Option Addr) (k d : Nat) : Calls Try.prog 25 #[.pointer none, .slice B k d] w fun e w' => e = .returned (.tuple #[.int .i64 0, .int .i64 1]) ∧ w = w' := by
  go_enter Try.func25, Try.ntmps25
  go_wp2_with (first
    | (go_at_call 63; (with_reducible refine (fdis_nil _).mono ?_); rintro e w1 ⟨rfl, rfl⟩)
    | fail "no arm")
  go_ret2
  exact ⟨rfl, rfl⟩
section
variable {w w' : World} {base g ga f m next : Nat} {kind : Int} {ts l : List Int} {p : DiskP} {D : DiskV}
set_option maxRecDepth 100000 in
set_option maxHeartbeats 8000000 in
theorem fdadd_any (h : JRowsAt 143 w base g ga kind next ts) (hd : DiskS w base p D) (hs : base ≤ w.heap.size) (ha : AreaAt w ga p.d f m) (hfm : f + m ≤ D.many) (hm : m ≤ 4096) (hnm : next ≤ m) (hw : D.waits.length < 900000) (hr : rightB ts = true) (B : Option Addr) (k d : Nat) (hl : RI w B k l) (hk : k ≤ maxLen) (hi : IntOk l) :
    Calls Try.prog 25 #[.pointer (some ⟨g, 0, none⟩), .slice B k d] w fun e w' => e = .returned (.tuple #[.int .i64 (fAddV D f m kind next ts l).2.2.1, .int .i64 (fAddV D f m kind next ts l).2.2.2]) ∧ DiskS w' base p (fAddV D f m kind next ts l).1 ∧ JRowsAt 143 w' base g ga kind (fAddV D f m kind next ts l).2.1 ts ∧ Step mutJ base p w w' := by
  have his := fdis_yes h
  have HJR := Lib.hid h
  obtain ⟨gj, A, n, c, hb, hg, hj, hi2, c0, c1⟩ := h.partsF
  have hun : fAddV D f m kind next ts l = if (fPutV D f m kind next ts l).2.2.2 ≠ 0 then ((fPutV D f m kind next ts l).1, (fPutV D f m kind next ts l).2.1, 0, (fPutV D f m kind next ts l).2.2.2)
    else if (flushV (fPutV D f m kind next ts l).1).2 ≠ 0 then ((flushV (fPutV D f m kind next ts l).1).1, (fPutV D f m kind next ts l).2.1, 0, (flushV (fPutV D f m kind next ts l).1).2)
    else ((flushV (fPutV D f m kind next ts l).1).1, (fPutV D f m kind next ts l).2.1, (fPutV D f m kind next ts l).2.2.1, 0) := rfl
  have hput : fPutV D f m kind next ts l = if fitsB ts l = false then (D, next, 0, 41) else jAddV D f m kind next (rowB ts l ts.length) := rfl
  have HB := Lib.hid hb
  have HJ := Lib.hid hj
  have HI := Lib.hid hi2
  have HD := Lib.hid hd
  have HA := Lib.hid ha
  cases hf : fitsB ts l with
  | false =>
    rw [if_pos hf] at hput
    rw [hput, if_pos (by simp)] at hun
    rw [hun]
    have hwr := write_row A B n k c d ts l w hi2.ri hl hi2.len hk hr hf
    clear hb hj hi2 hd ha h hl hi hf hput hun
    go_enter Try.func25, Try.ntmps25
    go_wp2_with (first
      | (go_at_call 63; (with_reducible refine (his).mono ?_); rintro e w1 ⟨rfl, rfl⟩)
      | (go_at_call 64; (with_reducible refine (hwr).mono ?_); rintro e w1 ⟨rfl, rfl⟩)
      | fail "no arm")
    go_ret2
    exact ⟨rfl, HD.out, HJR.out, Step.refl _ _ _ _⟩
  | true =>
    rw [if_neg (by rw [hf]; simp)] at hput
    have hwr := rowwrite_ok A B n k c d ts l w hi2.ri hl hi2.len hk hf hi
    have hadd := fun (W : World) (C : Option Addr) (N e : Nat) (h1 : JrnAt W gj ga kind next) (h2 : DiskS W base p D) (h3 : base ≤ W.heap.size) (h4 : AreaAt W ga p.d f m) (h5 : RB W C N (rowB ts l ts.length)) (h6 : N ≤ maxLen) => jadd_any h1 h2 h3 hg h4 hfm hm hnm (by omega) C N e _ h5 h6
    rw [← hput] at hadd
    generalize fPutV D f m kind next ts l = R at *
    obtain ⟨D1, n1, v1, z1⟩ := R
    simp only at hun hadd
    generalize fAddV D f m kind next ts l = S at *
    clear hb hj hi2 hd ha h hl hi hf hput hw
    by_cases hz : z1 = 0
    · subst hz
      rw [if_neg (by simp)] at hun
      have hfl := fun (W : World) (h1 : JrnAt W gj ga kind n1) (h2 : DiskS W base p D1) (h3 : base ≤ W.heap.size) (h4 : AreaAt W ga p.d f m) => jflush_any h1 h2 h3 h4
      generalize flushV D1 = F at *
      obtain ⟨D2, z2⟩ := F
      simp only at hun hfl
      by_cases hz2 : z2 = 0
      · subst hz2
        rw [if_neg (by simp)] at hun
        subst hun
        go_enter Try.func25, Try.ntmps25
        go_wp2_with (first
          | (go_at_call 63; (with_reducible refine (his).mono ?_); rintro e w1 ⟨rfl, rfl⟩)
          | ((go_at_call 64; (with_reducible refine (hwr).mono ?_); rintro e w1 ⟨C1, N1, d1, rfl, o1, b1⟩); have J1 := Lib.hid (HJ.out.below b1); have H1 := Lib.hid (HD.out.below b1); have A1 := Lib.hid (show AreaAt w1 ga p.d f m from Blk.below HA.out b1 (Blk.lt HA.out)); have B1 := Lib.hid (Blk.below HB.out b1 (Blk.lt HB.out)); have I1 := Lib.hid (HI.out.below b1); have O1 := Lib.hid o1; have s1 := b1.size; have cp1 := o1.cap; have ST1 := Lib.hid (Step.of_below (M := mutJ) (base := base) (p := p) b1 hs); have e1 : w1.cell? ⟨g, 0, none⟩ = some (.pointer (some ⟨gj, 0, none⟩)) := B1.out.cell 0; clear o1 b1)
          | ((go_at_call 65; (with_reducible refine (hadd _ _ _ _ J1.out H1.out (by omega) A1.out O1.out.rd.rb (by omega)).mono ?_); rintro e w2 ⟨rfl, h2, j2, st2⟩); have H2 := Lib.hid h2; have J2 := Lib.hid j2; have B2 := Lib.hid (H1.out.blk B1.out st2.tch (by decide)); have A2 := Lib.hid (H1.out.area A1.out st2.tch (by decide)); have I2 := Lib.hid (I1.out.step H1.out st2 (by decide)); have ST2 := Lib.hid (ST1.out.trans st2); have s2 := st2.size; have R2 := Lib.hid (show JRowsAt 143 w2 base g ga kind n1 ts from ⟨gj, A, n, c, B2.out, hg, J2.out, I2.out⟩); have e2 : w2.cell? ⟨g, 0, none⟩ = some (.pointer (some ⟨gj, 0, none⟩)) := B2.out.cell 0; clear h2 j2 st2)
          | ((go_at_call 66; (with_reducible refine (hfl _ J2.out H2.out (by omega) A2.out).mono ?_); rintro e w3 ⟨rfl, h3, st3⟩); have H3 := Lib.hid h3; have ST3 := Lib.hid (ST2.out.trans (st3.mono (fun t ht => List.mem_cons_of_mem _ ht))); have R3 := Lib.hid (R2.out.step H2.out st3 (by decide) (by decide) (by decide)); clear h3 st3)
          | fail "no arm")
        go_ret2
        exact ⟨rfl, H3.out, R3.out, ST3.out⟩
      · have hzb : (z2 != 0) = true := by rw [bne_iff_ne]; exact hz2
        rw [if_pos hz2] at hun
        subst hun
        clear hz2
        go_enter Try.func25, Try.ntmps25
        go_wp2_with (first
          | (go_at_call 63; (with_reducible refine (his).mono ?_); rintro e w1 ⟨rfl, rfl⟩)
          | ((go_at_call 64; (with_reducible refine (hwr).mono ?_); rintro e w1 ⟨C1, N1, d1, rfl, o1, b1⟩); have J1 := Lib.hid (HJ.out.below b1); have H1 := Lib.hid (HD.out.below b1); have A1 := Lib.hid (show AreaAt w1 ga p.d f m from Blk.below HA.out b1 (Blk.lt HA.out)); have B1 := Lib.hid (Blk.below HB.out b1 (Blk.lt HB.out)); have I1 := Lib.hid (HI.out.below b1); have O1 := Lib.hid o1; have s1 := b1.size; have cp1 := o1.cap; have ST1 := Lib.hid (Step.of_below (M := mutJ) (base := base) (p := p) b1 hs); have e1 : w1.cell? ⟨g, 0, none⟩ = some (.pointer (some ⟨gj, 0, none⟩)) := B1.out.cell 0; clear o1 b1)
          | ((go_at_call 65; (with_reducible refine (hadd _ _ _ _ J1.out H1.out (by omega) A1.out O1.out.rd.rb (by omega)).mono ?_); rintro e w2 ⟨rfl, h2, j2, st2⟩); have H2 := Lib.hid h2; have J2 := Lib.hid j2; have B2 := Lib.hid (H1.out.blk B1.out st2.tch (by decide)); have A2 := Lib.hid (H1.out.area A1.out st2.tch (by decide)); have I2 := Lib.hid (I1.out.step H1.out st2 (by decide)); have ST2 := Lib.hid (ST1.out.trans st2); have s2 := st2.size; have R2 := Lib.hid (show JRowsAt 143 w2 base g ga kind n1 ts from ⟨gj, A, n, c, B2.out, hg, J2.out, I2.out⟩); have e2 : w2.cell? ⟨g, 0, none⟩ = some (.pointer (some ⟨gj, 0, none⟩)) := B2.out.cell 0; clear h2 j2 st2)
          | ((go_at_call 66; (with_reducible refine (hfl _ J2.out H2.out (by omega) A2.out).mono ?_); rintro e w3 ⟨rfl, h3, st3⟩); have H3 := Lib.hid h3; have ST3 := Lib.hid (ST2.out.trans (st3.mono (fun t ht => List.mem_cons_of_mem _ ht))); have R3 := Lib.hid (R2.out.step H2.out st3 (by decide) (by decide) (by decide)); clear h3 st3)
          | fail "no arm")
        go_ret2
        exact ⟨rfl, H3.out, R3.out, ST3.out⟩
    · have hzb : (z1 != 0) = true := by rw [bne_iff_ne]; exact hz
      rw [if_pos hz] at hun
      subst hun
      clear hz
      go_enter Try.func25, Try.ntmps25
      go_wp2_with (first
        | (go_at_call 63; (with_reducible refine (his).mono ?_); rintro e w1 ⟨rfl, rfl⟩)
        | ((go_at_call 64; (with_reducible refine (hwr).mono ?_); rintro e w1 ⟨C1, N1, d1, rfl, o1, b1⟩); have J1 := Lib.hid (HJ.out.below b1); have H1 := Lib.hid (HD.out.below b1); have A1 := Lib.hid (show AreaAt w1 ga p.d f m from Blk.below HA.out b1 (Blk.lt HA.out)); have B1 := Lib.hid (Blk.below HB.out b1 (Blk.lt HB.out)); have I1 := Lib.hid (HI.out.below b1); have O1 := Lib.hid o1; have s1 := b1.size; have cp1 := o1.cap; have ST1 := Lib.hid (Step.of_below (M := mutJ) (base := base) (p := p) b1 hs); have e1 : w1.cell? ⟨g, 0, none⟩ = some (.pointer (some ⟨gj, 0, none⟩)) := B1.out.cell 0; clear o1 b1)
        | ((go_at_call 65; (with_reducible refine (hadd _ _ _ _ J1.out H1.out (by omega) A1.out O1.out.rd.rb (by omega)).mono ?_); rintro e w2 ⟨rfl, h2, j2, st2⟩); have H2 := Lib.hid h2; have J2 := Lib.hid j2; have B2 := Lib.hid (H1.out.blk B1.out st2.tch (by decide)); have A2 := Lib.hid (H1.out.area A1.out st2.tch (by decide)); have I2 := Lib.hid (I1.out.step H1.out st2 (by decide)); have ST2 := Lib.hid (ST1.out.trans st2); have s2 := st2.size; have R2 := Lib.hid (show JRowsAt 143 w2 base g ga kind n1 ts from ⟨gj, A, n, c, B2.out, hg, J2.out, I2.out⟩); have e2 : w2.cell? ⟨g, 0, none⟩ = some (.pointer (some ⟨gj, 0, none⟩)) := B2.out.cell 0; clear h2 j2 st2)
        | fail "no arm")
      go_ret2
      exact ⟨rfl, H2.out, R2.out, ST2.out⟩
end
end Go.Proofs.Ytalmdccgpigppaa
