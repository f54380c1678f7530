/- A journal in memory: Open. -/
import Derived.Test.YtalmdccgpigppaaJrnB
namespace Go.Proofs.Ytalmdccgpigppaa
open Go.RowKit
set_option linter.unusedVariables false
set_option linter.unusedSimpArgs false
theorem writeV_many (D : DiskV) (n : Int) (b : List UInt8) : (writeV D n b).1.many = D.many ∧ (writeV D n b).1.waits.length ≤ D.waits.length + 1 := by
  unfold writeV
  split
  · exact ⟨rfl, by simp⟩
  · split
    · exact ⟨rfl, by simp⟩
    · exact ⟨rfl, by simp [goesV, putD]⟩
theorem aWriteV_many (D : DiskV) (f m : Nat) (n : Int) (b : List UInt8) : (aWriteV D f m n b).1.many = D.many ∧ (aWriteV D f m n b).1.waits.length ≤ D.waits.length + 1 := by
  unfold aWriteV
  split
  · exact ⟨rfl, by simp⟩
  · exact writeV_many _ _ _
/-- Sectors are wiped, one behind the other, till one is not. -/
def wipeK (D : DiskV) (f m : Nat) : List Int → DiskV × Int
  | [] => (D, 0)
  | n :: l => if (aWriteV D f m n zerosL).2 ≠ 0 then aWriteV D f m n zerosL else wipeK (aWriteV D f m n zerosL).1 f m l
def jWipe (D : DiskV) (f m : Nat) (kind : Int) : DiskV × Int := wipeK (rdK D m) f m (scanK D.now f kind m).2.2
def jOpenV (D : DiskV) (f m : Nat) (kind : Int) : DiskV × Nat × Int :=
  if kind < 1 ∨ 255 < kind then (D, 0, 2)
  else if D.off = true then (D, 0, 50)
  else if (jWipe D f m kind).2 ≠ 0 then ((jWipe D f m kind).1, 0, (jWipe D f m kind).2)
  else if (scanK D.now f kind m).2.2 = [] then ((jWipe D f m kind).1, (scanK D.now f kind m).2.1, 0)
  else if (flushV (jWipe D f m kind).1).2 ≠ 0 then ((flushV (jWipe D f m kind).1).1, 0, (flushV (jWipe D f m kind).1).2)
  else ((flushV (jWipe D f m kind).1).1, (scanK D.now f kind m).2.1, 0)
def OpPost (w : World) (base ga : Nat) (kind : Int) (p : DiskP) (R : DiskV × Nat × Int) (e : Ending) (w' : World) : Prop :=
  ∃ P, e = .returned (.tuple #[.pointer P, .int .i64 R.2.2]) ∧ (R.2.2 ≠ 0 → P = none) ∧ (R.2.2 = 0 → ∃ gj, P = some ⟨gj, 0, none⟩ ∧ w.heap.size ≤ gj ∧ JrnAt w' gj ga kind R.2.1) ∧ DiskS w' base p R.1 ∧ Step mutD base p w w'
theorem OpPost.no {w w' : World} {base ga : Nat} {kind z : Int} {p : DiskP} {D : DiskV} (hz : z ≠ 0) (hd : DiskS w' base p D) (hs : Step mutD base p w w') : OpPost w base ga kind p (D, 0, z) (.returned (.tuple #[.pointer none, .int .i64 z])) w' :=
  ⟨none, rfl, fun _ => rfl, fun e => absurd e hz, hd, hs⟩
theorem OpPost.yes {w w' : World} {base ga gj next : Nat} {kind : Int} {p : DiskP} {D : DiskV} (hg : w.heap.size ≤ gj) (hj : JrnAt w' gj ga kind next) (hd : DiskS w' base p D) (hs : Step mutD base p w w') : OpPost w base ga kind p (D, next, 0) (.returned (.tuple #[.pointer (some ⟨gj, 0, none⟩), .int .i64 0])) w' :=
  ⟨_, rfl, fun e => absurd rfl e, fun _ => ⟨gj, rfl, hg, hj⟩, hd, hs⟩
section
variable {w w' : World} {base ga f m : Nat} {kind : Int} {p : DiskP} {D : DiskV}
theorem jopen_nil (w : World) (kind : Int) : Calls Try.prog 61 #[.pointer none, .int .i64 kind] w fun e w' => e = .returned (.tuple #[.pointer none, .int .i64 1]) ∧ w = w' := by
  go_enter Try.func61, Try.ntmps61
  go_wp2_with (first
    | (go_at_call 47; (with_reducible refine (many_nil _).mono ?_); rintro e w1 ⟨rfl, rfl⟩)
    | fail "no arm")
  go_ret2
  exact ⟨rfl, rfl⟩
theorem jopen_kind (ha : AreaAt w ga p.d f m) (hm : 1 ≤ m) (hd : DiskS w base p D) (h : kind < 1 ∨ 255 < kind) : Calls Try.prog 61 #[.pointer (some ⟨ga, 0, none⟩), .int .i64 kind] w (OpPost w base ga kind p (D, 0, 2)) := by
  have hmany := many_any ha
  have hc : kind < 1 ∨ (1 ≤ kind ∧ 255 < kind) := by omega
  have hmz : ((m : Int) == 0) = false := by rw [beq_eq_false_iff_ne]; omega
  have HD := Lib.hid hd
  clear h hd ha
  rcases hc with h1 | ⟨h1, h2⟩
  all_goals
    go_enter Try.func61, Try.ntmps61
    go_wp2_with (first
      | (go_at_call 47; (with_reducible refine (hmany).mono ?_); rintro e w1 ⟨rfl, rfl⟩)
      | fail "no arm")
    go_ret2
    exact OpPost.no (by simp) HD.out (Step.refl _ _ _ _)
theorem jrn_new (w : World) (ga : Nat) (kind : Int) : JrnAt (w.alloc (.cells #[.pointer (some ⟨ga, 0, none⟩), .int .i64 kind, .int .i64 0] 178)) w.heap.size ga kind 0 := Blk.top _ rfl rfl
set_option maxRecDepth 100000 in
set_option maxHeartbeats 8000000 in
theorem jopen_off (ha : AreaAt w ga p.d f m) (hm : 1 ≤ m) (hd : DiskS w base p D) (hs : base ≤ w.heap.size) (h1 : 1 ≤ kind) (h2 : kind ≤ 255) (hfm : f + m ≤ D.many) (hoff : D.off = true) (hok : D.Ok) :
    Calls Try.prog 61 #[.pointer (some ⟨ga, 0, none⟩), .int .i64 kind] w (OpPost w base ga kind p (D, 0, 50)) := by
  have hmany := many_any ha
  have hmz : ((m : Int) == 0) = false := by rw [beq_eq_false_iff_ne]; omega
  have bA : Below w.heap.size w (w.alloc (.cells #[.pointer (some ⟨ga, 0, none⟩), .int .i64 kind, .int .i64 0] 178)) := (Below.refl _ _).alloc (Nat.le_refl _) _
  have hrd := jread_off (jrn_new w ga kind) (hd.below bA) (by have := bA.size; omega) (ha.below bA) hm hfm hoff hok
  have BA := Lib.hid bA
  clear ha hd hok bA
  go_enter Try.func61, Try.ntmps61
  go_wp2_with (first
    | (go_at_call 47; (with_reducible refine (hmany).mono ?_); rintro e w1 ⟨rfl, rfl⟩)
    | ((go_at_call 88; (with_reducible refine (hrd).mono ?_); rintro e w2 ⟨rfl, h2, s2⟩))
    | fail "no arm")
  go_ret2
  exact OpPost.no (by simp) h2 ((Step.of_below BA.out hs).trans s2)
theorem wipeK_step {D : DiskV} {f m : Nat} {n : Int} {l : List Int} (h : (aWriteV D f m n zerosL).2 = 0) : wipeK D f m (n :: l) = wipeK (aWriteV D f m n zerosL).1 f m l := by
  show (if (aWriteV D f m n zerosL).2 ≠ 0 then _ else _) = _
  rw [if_neg (by omega)]
theorem wipeK_stop {D : DiskV} {f m : Nat} {n : Int} {l : List Int} (h : (aWriteV D f m n zerosL).2 ≠ 0) : wipeK D f m (n :: l) = aWriteV D f m n zerosL := by
  show (if (aWriteV D f m n zerosL).2 ≠ 0 then _ else _) = _
  rw [if_pos h]
set_option maxRecDepth 100000 in
set_option maxHeartbeats 8000000 in
theorem jopen_on (ha : AreaAt w ga p.d f m) (hm : 1 ≤ m) (hd : DiskS w base p D) (hs : base ≤ w.heap.size) (h1 : 1 ≤ kind) (h2 : kind ≤ 255) (hfm : f + m ≤ D.many) (hoff : D.off = false) (hok : D.Ok) (hwt : D.waits.length < 900000) :
    Calls Try.prog 61 #[.pointer (some ⟨ga, 0, none⟩), .int .i64 kind] w (OpPost w base ga kind p (jOpenV D f m kind)) := by
  have hmany := many_any ha
  have hmz : ((m : Int) == 0) = false := by rw [beq_eq_false_iff_ne]; omega
  have bA : Below w.heap.size w (w.alloc (.cells #[.pointer (some ⟨ga, 0, none⟩), .int .i64 kind, .int .i64 0] 178)) := (Below.refl _ _).alloc (Nat.le_refl _) _
  have hrd := jread_on (jrn_new w ga kind) (hd.below bA) (by have := bA.size; omega) hs (ha.below bA) hfm hoff hok
  have hm4 : f + m ≤ 4096 := by have := hok.many1; omega
  have hle := scanK_le D.now f kind m
  have hun : jOpenV D f m kind = if (jWipe D f m kind).2 ≠ 0 then ((jWipe D f m kind).1, 0, (jWipe D f m kind).2)
      else if (scanK D.now f kind m).2.2 = [] then ((jWipe D f m kind).1, (scanK D.now f kind m).2.1, 0)
      else if (flushV (jWipe D f m kind).1).2 ≠ 0 then ((flushV (jWipe D f m kind).1).1, 0, (flushV (jWipe D f m kind).1).2)
      else ((flushV (jWipe D f m kind).1).1, (scanK D.now f kind m).2.1, 0) := by
    unfold jOpenV
    rw [if_neg (by omega), if_neg (by rw [hoff]; simp)]
  unfold jWipe at hun
  obtain ⟨o, eo⟩ := rdK_ops D m
  have hm1 : (rdK D m).many = D.many := by rw [eo]
  have hw1 : (rdK D m).waits.length = D.waits.length := by rw [eo]
  generalize jOpenV D f m kind = R at *
  generalize scanK D.now f kind m = sc at *
  obtain ⟨op, nx, dl⟩ := sc
  generalize rdK D m = D1 at *
  simp only at hun hle hrd
  have BA := Lib.hid bA
  have HA := Lib.hid ha
  have HD := Lib.hid hd
  have HUN := Lib.hid hun
  clear ha hd hok bA eo hun
  go_enter Try.func61, Try.ntmps61
  go_wp2_with (first
    | (go_at_call 47; (with_reducible refine (hmany).mono ?_); rintro e w1 ⟨rfl, rfl⟩)
    | ((go_at_call 88; (with_reducible refine (hrd).mono ?_); rintro e w2 ⟨B, N, c, rfl, o2, h2, j2, s2, t2⟩); have O2 := Lib.hid o2; have H2 := Lib.hid h2; have J2 := Lib.hid j2; have S2 := Lib.hid (Step.noJrn BA.out s2 t2 (Nat.le_refl _) hs); clear o2 h2 j2 s2 t2)
    | fail "no arm")
  have hNl := O2.out.1
  have sz2 := S2.out.size
  have hA2 : AreaAt w2 ga p.d f m := HD.out.area HA.out S2.out.tch (by decide)
  have HA2 := Lib.hid hA2
  clear hA2
  go_loopw [10, 11, 38] (fun _ _ i wr => ∃ (j : Nat) (Dj : DiskV), j ≤ N ∧ i = .int .i64 (j : Nat) ∧ wipeK D1 f m dl = wipeK Dj f m (dl.drop j) ∧ Dj.many = D.many ∧ Dj.waits.length ≤ D.waits.length + j ∧ DiskS wr base p Dj ∧ Step mutD base p w2 wr) (fun _ _ i _ => N - (intOf i).toNat)
  case atStart => exact ⟨0, D1, by omega, rfl, rfl, hm1, by omega, H2.out, Step.refl _ _ _ _⟩
  case round =>
    obtain ⟨j, Dj, hj, rfl, hwk, hmj, hwj, hdj, hst⟩ := hrel
    have hsts := hst.size
    have hjj : JrnAt wr w.heap.size ga kind nx := H2.out.blk J2.out hst.tch (by decide)
    have haj := H2.out.area HA2.out hst.tch (by decide)
    have hoj := H2.out.ow O2.out hst.tch (by decide)
    have HWK := Lib.hid hwk
    have HDJ := Lib.hid hdj
    have HST := Lib.hid hst
    by_cases hlt : j < N
    · obtain ⟨b, o, hB, hb, hcell⟩ := hoj.rd.2.at_ hlt
      have hjl : j < dl.length := by omega
      have hdr : dl.drop j = dl[j] :: dl.drop (j + 1) := List.drop_eq_getElem_cons hjl
      have hval : wr.cell? ⟨b, o + j, none⟩ = some (.int .i64 dl[j]) := by rw [hcell, getD_map dl j hjl]; rfl
      have hwp := s_awipe hdj (by omega) haj (by rw [hmj]; exact hfm) dl[j] (by omega)
      obtain ⟨q1, q2⟩ := aWriteV_many Dj f m dl[j] zerosL
      rw [hdr] at hwk
      by_cases he : (aWriteV Dj f m dl[j] zerosL).2 = 0
      · rw [wipeK_step he] at hwk
        rw [he] at hwp
        generalize (aWriteV Dj f m dl[j] zerosL).1 = Dn at *
        generalize dl[j] = nn at *
        have HW2 := Lib.hid hwk
        clear hwk hdj he hdr hoj hcell
        subst hB
        go_wp2_with (first
          | (go_at_call 50; (with_reducible refine (hwp).mono ?_); rintro e w3 ⟨rfl, h3, s3⟩)
          | fail "no arm")
        go_roundw
        case rel => first
          | exact ⟨j + 1, Dn, by omega, by go_num, HW2.out, by omega, by omega, h3, HST.out.trans s3⟩
          | ((repeat apply Exists.intro); exact ⟨⟨j + 1, Dn, by omega, by go_num, HW2.out, by omega, by omega, h3, HST.out.trans s3⟩, rfl⟩)
        case measure => simp [intOf]; omega
      · rw [wipeK_stop he] at hwk
        have hR := HUN.out
        rw [hwk, if_pos he] at hR
        subst hR
        generalize aWriteV Dj f m dl[j] zerosL = P at *
        obtain ⟨Dn, z⟩ := P
        simp only at hwp he
        generalize dl[j] = nn at *
        have hne : (z != 0) = true := by rw [bne_iff_ne]; exact he
        have HE := Lib.hid he
        clear hwk hdj he hdr hoj hcell HUN HWK q1 q2
        subst hB
        go_wp2_with (first
          | (go_at_call 50; (with_reducible refine (hwp).mono ?_); rintro e w3 ⟨rfl, h3, s3⟩)
          | fail "no arm")
        go_ret2
        exact OpPost.no HE.out h3 ((S2.out.trans HST.out).trans s3)
    · have hjN : j = N := by omega
      subst hjN
      have hdr : dl.drop j = [] := List.drop_of_length_le (by omega)
      rw [hdr] at hwk
      have hR := HUN.out
      rw [hwk, show wipeK Dj f m [] = (Dj, 0) from rfl, if_neg (by simp)] at hR
      simp only at hR
      by_cases hd0 : dl = []
      · rw [if_pos hd0] at hR
        have hj0 : j = 0 := by rw [← hNl, hd0]; rfl
        subst hj0 hR
        have HJJ := Lib.hid hjj
        clear hwk hdj hdr hoj HUN HWK hjj haj
        go_wp2
        go_ret2
        exact OpPost.yes (Nat.le_refl _) HJJ.out HDJ.out (S2.out.trans HST.out)
      · rw [if_neg hd0] at hR
        have hj0 : 0 < j := by
          rcases Nat.eq_zero_or_pos j with q | q
          · exact absurd (List.eq_nil_of_length_eq_zero (by omega)) hd0
          · exact q
        have hfl := s_aflush hdj (by omega) haj
        generalize flushV Dj = FV at *
        obtain ⟨Df, z⟩ := FV
        simp only at hR hfl
        have HJJ := Lib.hid hjj
        by_cases hz : z = 0
        · subst hz
          rw [if_neg (by simp)] at hR
          subst hR
          clear hwk hdj hdr hoj HUN HWK hjj haj hd0
          go_wp2_with (first
            | (go_at_call 51; (with_reducible refine (hfl).mono ?_); rintro e w3 ⟨rfl, h3, s3⟩)
            | fail "no arm")
          go_ret2
          exact OpPost.yes (Nat.le_refl _) (HDJ.out.blk HJJ.out s3.tch (by decide)) h3 ((S2.out.trans HST.out).trans s3)
        · rw [if_pos hz] at hR
          subst hR
          have hne : (z != 0) = true := by rw [bne_iff_ne]; exact hz
          have HZ := Lib.hid hz
          clear hwk hdj hdr hoj HUN HWK hjj haj hd0 hz
          go_wp2_with (first
            | (go_at_call 51; (with_reducible refine (hfl).mono ?_); rintro e w3 ⟨rfl, h3, s3⟩)
            | fail "no arm")
          go_ret2
          exact OpPost.no HZ.out h3 ((S2.out.trans HST.out).trans s3)
theorem jopen_any (ha : AreaAt w ga p.d f m) (hm : 1 ≤ m) (hd : DiskS w base p D) (hs : base ≤ w.heap.size) (hfm : f + m ≤ D.many) (hwt : D.waits.length < 900000) :
    Calls Try.prog 61 #[.pointer (some ⟨ga, 0, none⟩), .int .i64 kind] w (OpPost w base ga kind p (jOpenV D f m kind)) := by
  have hok : D.Ok := by obtain ⟨A, c, h⟩ := hd; exact h.ok
  by_cases hk : kind < 1 ∨ 255 < kind
  · have : jOpenV D f m kind = (D, 0, 2) := by unfold jOpenV; rw [if_pos hk]
    rw [this]; exact jopen_kind ha hm hd hk
  · cases ho : D.off with
    | true =>
      have : jOpenV D f m kind = (D, 0, 50) := by unfold jOpenV; rw [if_neg hk, if_pos ho]
      rw [this]; exact jopen_off ha hm hd hs (by omega) (by omega) hfm ho hok
    | false => exact jopen_on ha hm hd hs (by omega) (by omega) hfm ho hok hwt
end
end Go.Proofs.Ytalmdccgpigppaa
