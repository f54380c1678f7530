/- Parts: JrnC, PlainArea. -/
import Derived.Test.YtalmdccgpigppaaGreatPr18
import Derived.Test.YtalmdccgpigppaaGreatPr16
namespace Go.Proofs.YtalmdccgpigppaaGreat
open Go.RowKit
set_option linter.unusedVariables false
set_option linter.unusedSimpArgs false
theorem writeV_many (D : DiskV) (n : Int) (b : List UInt8) : (writeV D n b).1.many = D.many ∧ (writeV D n b).1.waits.length ≤ D.waits.length + 1 := by
  unfold writeV
  split
  · exact ⟨rfl, by simp⟩
  · split
    · exact ⟨rfl, by simp⟩
    · exact ⟨rfl, by simp [goesV, putD]⟩
theorem aWriteV_many (D : DiskV) (f m : Nat) (n : Int) (b : List UInt8) : (aWriteV D f m n b).1.many = D.many ∧ (aWriteV D f m n b).1.waits.length ≤ D.waits.length + 1 := by
  unfold aWriteV
  split
  · exact ⟨rfl, by simp⟩
  · exact writeV_many _ _ _
/-- Sectors are wiped, one behind the other, till one is not. -/
def wipeK (D : DiskV) (f m : Nat) : List Int → DiskV × Int
  | [] => (D, 0)
  | n :: l => if (aWriteV D f m n zerosL).2 ≠ 0 then aWriteV D f m n zerosL else wipeK (aWriteV D f m n zerosL).1 f m l
def jWipe (D : DiskV) (f m : Nat) (kind : Int) : DiskV × Int := wipeK (rdK D m) f m (scanK D.now f kind m).2.2
def jOpenV (D : DiskV) (f m : Nat) (kind : Int) : DiskV × Nat × Int :=
  if kind < 1 ∨ 255 < kind then (D, 0, 2)
  else if D.off = true then (D, 0, 50)
  else if (jWipe D f m kind).2 ≠ 0 then ((jWipe D f m kind).1, 0, (jWipe D f m kind).2)
  else if (scanK D.now f kind m).2.2 = [] then ((jWipe D f m kind).1, (scanK D.now f kind m).2.1, 0)
  else if (flushV (jWipe D f m kind).1).2 ≠ 0 then ((flushV (jWipe D f m kind).1).1, 0, (flushV (jWipe D f m kind).1).2)
  else ((flushV (jWipe D f m kind).1).1, (scanK D.now f kind m).2.1, 0)
def OpPost (w : World) (base ga : Nat) (kind : Int) (p : DiskP) (R : DiskV × Nat × Int) (e : Ending) (w' : World) : Prop :=
  ∃ P, e = .returned (.tuple #[.pointer P, .int .i64 R.2.2]) ∧ (R.2.2 ≠ 0 → P = none) ∧ (R.2.2 = 0 → ∃ gj, P = some ⟨gj, 0, none⟩ ∧ w.heap.size ≤ gj ∧ JrnAt w' gj ga kind R.2.1) ∧ DiskS w' base p R.1 ∧ Step mutD base p w w'
theorem OpPost.no {w w' : World} {base ga : Nat} {kind z : Int} {p : DiskP} {D : DiskV} (hz : z ≠ 0) (hd : DiskS w' base p D) (hs : Step mutD base p w w') : OpPost w base ga kind p (D, 0, z) (.returned (.tuple #[.pointer none, .int .i64 z])) w' :=
  ⟨none, rfl, fun _ => rfl, fun e => absurd e hz, hd, hs⟩
theorem OpPost.yes {w w' : World} {base ga gj next : Nat} {kind : Int} {p : DiskP} {D : DiskV} (hg : w.heap.size ≤ gj) (hj : JrnAt w' gj ga kind next) (hd : DiskS w' base p D) (hs : Step mutD base p w w') : OpPost w base ga kind p (D, next, 0) (.returned (.tuple #[.pointer (some ⟨gj, 0, none⟩), .int .i64 0])) w' :=
  ⟨_, rfl, fun e => absurd rfl e, fun _ => ⟨gj, rfl, hg, hj⟩, hd, hs⟩
section
variable {w w' : World} {base ga f m : Nat} {kind : Int} {p : DiskP} {D : DiskV}
theorem jopen_kind (ha : AreaAt w ga p.d f m) (hm : 1 ≤ m) (hd : DiskS w base p D) (h : kind < 1 ∨ 255 < kind) : Calls Tryz.prog 50 #[.pointer (some ⟨ga, 0, none⟩), .int .i64 kind] w (OpPost w base ga kind p (D, 0, 2)) := by
  have hmany := many_any ha
  have hc : kind < 1 ∨ (1 ≤ kind ∧ 255 < kind) := by omega
  have hmz : ((m : Int) == 0) = false := by rw [beq_eq_false_iff_ne]; omega
  have HD := Lib.hid hd
  clear h hd ha
  rcases hc with h1 | ⟨h1, h2⟩
  all_goals
    go_enter Tryz.func50, Tryz.ntmps50
    go_wp2_with (first
      | (go_at_call 48; (with_reducible refine (hmany).mono ?_); rintro e w1 ⟨rfl, rfl⟩)
      | fail "no arm")
    go_ret2
    exact OpPost.no (by simp) HD.out (Step.refl _ _ _ _)
theorem jrn_new (w : World) (ga : Nat) (kind : Int) : JrnAt (w.alloc (.cells #[.pointer (some ⟨ga, 0, none⟩), .int .i64 kind, .int .i64 0] 200)) w.heap.size ga kind 0 := Blk.top _ rfl rfl
set_option maxRecDepth 100000 in
set_option maxHeartbeats 8000000 in
theorem jopen_off (ha : AreaAt w ga p.d f m) (hm : 1 ≤ m) (hd : DiskS w base p D) (hs : base ≤ w.heap.size) (h1 : 1 ≤ kind) (h2 : kind ≤ 255) (hfm : f + m ≤ D.many) (hoff : D.off = true) (hok : D.Ok) :
    Calls Tryz.prog 50 #[.pointer (some ⟨ga, 0, none⟩), .int .i64 kind] w (OpPost w base ga kind p (D, 0, 50)) := by
  have hmany := many_any ha
  have hmz : ((m : Int) == 0) = false := by rw [beq_eq_false_iff_ne]; omega
  have bA : Below w.heap.size w (w.alloc (.cells #[.pointer (some ⟨ga, 0, none⟩), .int .i64 kind, .int .i64 0] 200)) := (Below.refl _ _).alloc (Nat.le_refl _) _
  have hrd := jread_off (jrn_new w ga kind) (hd.below bA) (by have := bA.size; omega) (ha.below bA) hm hfm hoff hok
  have BA := Lib.hid bA
  clear ha hd hok bA
  go_enter Tryz.func50, Tryz.ntmps50
  go_wp2_with (first
    | (go_at_call 48; (with_reducible refine (hmany).mono ?_); rintro e w1 ⟨rfl, rfl⟩)
    | ((go_at_call 109; (with_reducible refine (hrd).mono ?_); rintro e w2 ⟨rfl, h2, s2⟩))
    | fail "no arm")
  go_ret2
  exact OpPost.no (by simp) h2 ((Step.of_below BA.out hs).trans s2)
theorem wipeK_step {D : DiskV} {f m : Nat} {n : Int} {l : List Int} (h : (aWriteV D f m n zerosL).2 = 0) : wipeK D f m (n :: l) = wipeK (aWriteV D f m n zerosL).1 f m l := by
  show (if (aWriteV D f m n zerosL).2 ≠ 0 then _ else _) = _
  rw [if_neg (by omega)]
theorem wipeK_stop {D : DiskV} {f m : Nat} {n : Int} {l : List Int} (h : (aWriteV D f m n zerosL).2 ≠ 0) : wipeK D f m (n :: l) = aWriteV D f m n zerosL := by
  show (if (aWriteV D f m n zerosL).2 ≠ 0 then _ else _) = _
  rw [if_pos h]
set_option maxRecDepth 100000 in
set_option maxHeartbeats 8000000 in
theorem jopen_on (ha : AreaAt w ga p.d f m) (hm : 1 ≤ m) (hd : DiskS w base p D) (hs : base ≤ w.heap.size) (h1 : 1 ≤ kind) (h2 : kind ≤ 255) (hfm : f + m ≤ D.many) (hoff : D.off = false) (hok : D.Ok) (hwt : D.waits.length < 900000) :
    Calls Tryz.prog 50 #[.pointer (some ⟨ga, 0, none⟩), .int .i64 kind] w (OpPost w base ga kind p (jOpenV D f m kind)) := by
  have hmany := many_any ha
  have hmz : ((m : Int) == 0) = false := by rw [beq_eq_false_iff_ne]; omega
  have bA : Below w.heap.size w (w.alloc (.cells #[.pointer (some ⟨ga, 0, none⟩), .int .i64 kind, .int .i64 0] 200)) := (Below.refl _ _).alloc (Nat.le_refl _) _
  have hrd := jread_on (jrn_new w ga kind) (hd.below bA) (by have := bA.size; omega) hs (ha.below bA) hfm hoff hok
  have hm4 : f + m ≤ 4096 := by have := hok.many1; omega
  have hle := scanK_le D.now f kind m
  have hun : jOpenV D f m kind = if (jWipe D f m kind).2 ≠ 0 then ((jWipe D f m kind).1, 0, (jWipe D f m kind).2)
      else if (scanK D.now f kind m).2.2 = [] then ((jWipe D f m kind).1, (scanK D.now f kind m).2.1, 0)
      else if (flushV (jWipe D f m kind).1).2 ≠ 0 then ((flushV (jWipe D f m kind).1).1, 0, (flushV (jWipe D f m kind).1).2)
      else ((flushV (jWipe D f m kind).1).1, (scanK D.now f kind m).2.1, 0) := by
    unfold jOpenV
    rw [if_neg (by omega), if_neg (by rw [hoff]; simp)]
  unfold jWipe at hun
  obtain ⟨o, eo⟩ := rdK_ops D m
  have hm1 : (rdK D m).many = D.many := by rw [eo]
  have hw1 : (rdK D m).waits.length = D.waits.length := by rw [eo]
  generalize jOpenV D f m kind = R at *
  generalize scanK D.now f kind m = sc at *
  obtain ⟨op, nx, dl⟩ := sc
  generalize rdK D m = D1 at *
  simp only at hun hle hrd
  have BA := Lib.hid bA
  have HA := Lib.hid ha
  have HD := Lib.hid hd
  have HUN := Lib.hid hun
  clear ha hd hok bA eo hun
  go_enter Tryz.func50, Tryz.ntmps50
  go_wp2_with (first
    | (go_at_call 48; (with_reducible refine (hmany).mono ?_); rintro e w1 ⟨rfl, rfl⟩)
    | ((go_at_call 109; (with_reducible refine (hrd).mono ?_); rintro e w2 ⟨B, N, c, rfl, o2, h2, j2, s2, t2⟩); have O2 := Lib.hid o2; have H2 := Lib.hid h2; have J2 := Lib.hid j2; have S2 := Lib.hid (Step.noJrn BA.out s2 t2 (Nat.le_refl _) hs); clear o2 h2 j2 s2 t2)
    | fail "no arm")
  have hNl := O2.out.1
  have sz2 := S2.out.size
  have hA2 : AreaAt w2 ga p.d f m := HD.out.area HA.out S2.out.tch (by decide)
  have HA2 := Lib.hid hA2
  clear hA2
  go_loopw [10, 11, 38] (fun _ _ i wr => ∃ (j : Nat) (Dj : DiskV), j ≤ N ∧ i = .int .i64 (j : Nat) ∧ wipeK D1 f m dl = wipeK Dj f m (dl.drop j) ∧ Dj.many = D.many ∧ Dj.waits.length ≤ D.waits.length + j ∧ DiskS wr base p Dj ∧ Step mutD base p w2 wr) (fun _ _ i _ => N - (intOf i).toNat)
  case atStart => exact ⟨0, D1, by omega, rfl, rfl, hm1, by omega, H2.out, Step.refl _ _ _ _⟩
  case round =>
    obtain ⟨j, Dj, hj, rfl, hwk, hmj, hwj, hdj, hst⟩ := hrel
    have hsts := hst.size
    have hjj : JrnAt wr w.heap.size ga kind nx := H2.out.blk J2.out hst.tch (by decide)
    have haj := H2.out.area HA2.out hst.tch (by decide)
    have hoj := H2.out.ow O2.out hst.tch (by decide)
    have HWK := Lib.hid hwk
    have HDJ := Lib.hid hdj
    have HST := Lib.hid hst
    by_cases hlt : j < N
    · obtain ⟨b, o, hB, hb, hcell⟩ := hoj.rd.2.at_ hlt
      have hjl : j < dl.length := by omega
      have hdr : dl.drop j = dl[j] :: dl.drop (j + 1) := List.drop_eq_getElem_cons hjl
      have hval : wr.cell? ⟨b, o + j, none⟩ = some (.int .i64 dl[j]) := by rw [hcell, getD_map dl j hjl]; rfl
      have hwp := s_awipe hdj (by omega) haj (by rw [hmj]; exact hfm) dl[j] (by omega)
      obtain ⟨q1, q2⟩ := aWriteV_many Dj f m dl[j] zerosL
      rw [hdr] at hwk
      by_cases he : (aWriteV Dj f m dl[j] zerosL).2 = 0
      · rw [wipeK_step he] at hwk
        rw [he] at hwp
        generalize (aWriteV Dj f m dl[j] zerosL).1 = Dn at *
        generalize dl[j] = nn at *
        have HW2 := Lib.hid hwk
        clear hwk hdj he hdr hoj hcell
        subst hB
        go_wp2_with (first
          | (go_at_call 110; (with_reducible refine (hwp).mono ?_); rintro e w3 ⟨rfl, h3, s3⟩)
          | fail "no arm")
        go_roundw
        case rel => first
          | exact ⟨j + 1, Dn, by omega, by go_num, HW2.out, by omega, by omega, h3, HST.out.trans s3⟩
          | ((repeat apply Exists.intro); exact ⟨⟨j + 1, Dn, by omega, by go_num, HW2.out, by omega, by omega, h3, HST.out.trans s3⟩, rfl⟩)
        case measure => simp [intOf]; omega
      · rw [wipeK_stop he] at hwk
        have hR := HUN.out
        rw [hwk, if_pos he] at hR
        subst hR
        generalize aWriteV Dj f m dl[j] zerosL = P at *
        obtain ⟨Dn, z⟩ := P
        simp only at hwp he
        generalize dl[j] = nn at *
        have hne : (z != 0) = true := by rw [bne_iff_ne]; exact he
        have HE := Lib.hid he
        clear hwk hdj he hdr hoj hcell HUN HWK q1 q2
        subst hB
        go_wp2_with (first
          | (go_at_call 110; (with_reducible refine (hwp).mono ?_); rintro e w3 ⟨rfl, h3, s3⟩)
          | fail "no arm")
        go_ret2
        exact OpPost.no HE.out h3 ((S2.out.trans HST.out).trans s3)
    · have hjN : j = N := by omega
      subst hjN
      have hdr : dl.drop j = [] := List.drop_of_length_le (by omega)
      rw [hdr] at hwk
      have hR := HUN.out
      rw [hwk, show wipeK Dj f m [] = (Dj, 0) from rfl, if_neg (by simp)] at hR
      simp only at hR
      by_cases hd0 : dl = []
      · rw [if_pos hd0] at hR
        have hj0 : j = 0 := by rw [← hNl, hd0]; rfl
        subst hj0 hR
        have HJJ := Lib.hid hjj
        clear hwk hdj hdr hoj HUN HWK hjj haj
        go_wp2
        go_ret2
        exact OpPost.yes (Nat.le_refl _) HJJ.out HDJ.out (S2.out.trans HST.out)
      · rw [if_neg hd0] at hR
        have hj0 : 0 < j := by
          rcases Nat.eq_zero_or_pos j with q | q
          · exact absurd (List.eq_nil_of_length_eq_zero (by omega)) hd0
          · exact q
        have hfl := s_aflush hdj (by omega) haj
        generalize flushV Dj = FV at *
        obtain ⟨Df, z⟩ := FV
        simp only at hR hfl
        have HJJ := Lib.hid hjj
        by_cases hz : z = 0
        · subst hz
          rw [if_neg (by simp)] at hR
          subst hR
          clear hwk hdj hdr hoj HUN HWK hjj haj hd0
          go_wp2_with (first
            | (go_at_call 108; (with_reducible refine (hfl).mono ?_); rintro e w3 ⟨rfl, h3, s3⟩)
            | fail "no arm")
          go_ret2
          exact OpPost.yes (Nat.le_refl _) (HDJ.out.blk HJJ.out s3.tch (by decide)) h3 ((S2.out.trans HST.out).trans s3)
        · rw [if_pos hz] at hR
          subst hR
          have hne : (z != 0) = true := by rw [bne_iff_ne]; exact hz
          have HZ := Lib.hid hz
          clear hwk hdj hdr hoj HUN HWK hjj haj hd0 hz
          go_wp2_with (first
            | (go_at_call 108; (with_reducible refine (hfl).mono ?_); rintro e w3 ⟨rfl, h3, s3⟩)
            | fail "no arm")
          go_ret2
          exact OpPost.no HZ.out h3 ((S2.out.trans HST.out).trans s3)
theorem jopen_any (ha : AreaAt w ga p.d f m) (hm : 1 ≤ m) (hd : DiskS w base p D) (hs : base ≤ w.heap.size) (hfm : f + m ≤ D.many) (hwt : D.waits.length < 900000) :
    Calls Tryz.prog 50 #[.pointer (some ⟨ga, 0, none⟩), .int .i64 kind] w (OpPost w base ga kind p (jOpenV D f m kind)) := by
  have hok : D.Ok := by obtain ⟨A, c, h⟩ := hd; exact h.ok
  by_cases hk : kind < 1 ∨ 255 < kind
  · have : jOpenV D f m kind = (D, 0, 2) := by unfold jOpenV; rw [if_pos hk]
    rw [this]; exact jopen_kind ha hm hd hk
  · cases ho : D.off with
    | true =>
      have : jOpenV D f m kind = (D, 0, 50) := by unfold jOpenV; rw [if_neg hk, if_pos ho]
      rw [this]; exact jopen_off ha hm hd hs (by omega) (by omega) hfm ho hok
    | false => exact jopen_on ha hm hd hs (by omega) (by omega) hfm ho hok hwt
end
end Go.Proofs.YtalmdccgpigppaaGreat
namespace Go.Proofs.YtalmdccgpigppaaGreat
open Go.RowKit
theorem secOf_splice {l b : List UInt8} {n k many : Nat} (hl : l.length = many * 128) (hb : b.length = 128) (hn : n < many) (hk : k < many) : secOf (splice l (n * 128) b) (k : Int) = if k = n then b else secOf l (k : Int) := by
  have h1 : (secOf (splice l (n * 128) b) (k : Int)).length = 128 := secOf_len (s := many) (by rw [splice_len (by rw [hl, hb]; omega), hl]) (by omega) (by omega)
  have h2 : (secOf l (k : Int)).length = 128 := secOf_len (s := many) hl (by omega) (by omega)
  have ext : ∀ {x y : List UInt8}, x.length = 128 → y.length = 128 → (∀ i, i < 128 → byteAt x i = byteAt y i) → x = y := by
    intro x y hx hy h
    apply List.ext_getElem (by omega)
    intro i q1 q2
    have := h i (by omega)
    unfold byteAt at this
    rw [List.getD_eq_getElem?_getD, List.getD_eq_getElem?_getD, List.getElem?_eq_getElem q1, List.getElem?_eq_getElem q2] at this
    exact UInt8.toNat_inj.1 this
  split
  · rename_i e
    subst e
    refine ext h1 hb (fun i hi => ?_)
    rw [byteAt_sec hi, byteAt_splice (by rw [hl, hb]; omega), if_pos (by rw [hb]; omega), Nat.add_sub_cancel_left]
  · rename_i e
    refine ext h1 h2 (fun i hi => ?_)
    rw [byteAt_sec hi, byteAt_sec hi, byteAt_splice (by rw [hl, hb]; omega), if_neg (by rw [hb]; omega)]
theorem Calm.write_now {D : DiskV} (h : Calm D) {n : Int} {b : List UInt8} (hb : b.length = 128) {k : Nat} (hk : k < D.many) : secOf (writeV D n b).1.now (k : Int) = if n = (k : Int) then b else secOf D.now (k : Int) := by
  by_cases hn : n < 0 ∨ (D.many : Int) ≤ n
  · rw [h.write_out hn, if_neg (by omega)]
  · rw [h.write_in (by omega) (by omega)]
    show secOf (splice D.now (n.toNat * 128) b) (k : Int) = _
    rw [secOf_splice h.ok.now hb (by omega) hk]
    by_cases e : k = n.toNat
    · rw [if_pos e, if_pos (by omega)]
    · rw [if_neg e, if_neg (by omega)]
/-- Beside an area all is as it was laid. -/
structure Beside (D : DiskV) (f m : Nat) : Prop where
  calm : Calm D
  many : D.many = 12
  fm : f + m ≤ 12
  out : ∀ n : Nat, n < 12 → ¬ (f ≤ n ∧ n < f + m) → secOf D.now (n : Int) = fullL [UInt8.ofNat (n + 1)]
theorem Beside.write {D : DiskV} {f m : Nat} (h : Beside D f m) (n : Int) {b : List UInt8} (hb : b.length = 128) (hw : D.waits.length < 1000000) : Beside (aWriteV D f m n b).1 f m ∧ (aWriteV D f m n b).1.waits.length ≤ D.waits.length + 1 := by
  unfold aWriteV
  split
  · exact ⟨h, by simp⟩
  · rename_i hn
    obtain ⟨c1, c2, c3⟩ := h.calm.write ((f : Int) + n) hb hw
    refine ⟨⟨c1, c2.trans h.many, h.fm, fun k hk hout => ?_⟩, c3⟩
    rw [h.calm.write_now hb (by rw [h.many]; exact hk), if_neg (by omega)]
    exact h.out k hk hout
theorem Beside.put {D : DiskV} {f m : Nat} (h : Beside D f m) (n kind number : Int) (l : List UInt8) (hw : D.waits.length < 1000000) : Beside (aPutV D f m n kind number l).1 f m ∧ (aPutV D f m n kind number l).1.waits.length ≤ D.waits.length + 1 := by
  unfold aPutV
  split
  · exact ⟨h, by simp⟩
  · exact h.write n (makeL_len _ _ _) hw
theorem Beside.flush {D : DiskV} {f m : Nat} (h : Beside D f m) : Beside (flushV D).1 f m ∧ (flushV D).1.waits = [] ∧ (flushV D).2 = 0 := by
  obtain ⟨e, c⟩ := h.calm.flush
  rw [e]
  exact ⟨⟨c, h.many, h.fm, h.out⟩, rfl, rfl⟩
theorem Calm.ops {D : DiskV} (h : Calm D) (o : List Int) : Calm { D with ops := o } := ⟨⟨h.ok.many0, h.ok.many1, h.ok.kept, h.ok.now, h.ok.inuse, h.ok.might, h.ok.waits, h.ok.room, h.ok.cut, h.ok.few⟩, h.cut, h.off, h.room, h.now, h.might⟩
theorem Calm.read {D : DiskV} (h : Calm D) {n : Nat} (hn : n < D.many) : readV D (n : Int) = (readV' D, secOf D.now (n : Int), 0) := by
  unfold readV
  rw [if_neg]
  rw [h.may, if_neg (by omega)]; simp
theorem Beside.read {D : DiskV} {f m : Nat} (h : Beside D f m) {n : Nat} (hn : n < 12) : readV D (n : Int) = (readV' D, secOf D.now (n : Int), 0) ∧ Beside (readV' D) f m :=
  ⟨h.calm.read (by rw [h.many]; exact hn), h.calm.ops _, h.many, h.fm, h.out⟩
end Go.Proofs.YtalmdccgpigppaaGreat
set_option linter.unusedVariables false
namespace Go.Proofs.YtalmdccgpigppaaGreat
open Go.RowKit
/-- The first k sectors of an image, and noughts. -/
def imgK (img : List UInt8) (many k : Nat) : List UInt8 := img.take (k * 128) ++ List.replicate (many * 128 - min img.length (k * 128)) 0
def trueK (many k : Nat) : List Bool := List.replicate k true ++ List.replicate (many - k) false
def loadD (many : Nat) (room : Int) (img : List UInt8) (k : Nat) : DiskV := { newV many room with kept := imgK img many k, now := imgK img many k, inuse := trueK many k, might := trueK many k }
def usedN (img : List UInt8) : Nat := (img.length + 127) / 128
theorem imgK_len {img : List UInt8} {many k : Nat} (h : img.length ≤ many * 128) : (imgK img many k).length = many * 128 := by
  unfold imgK; rw [List.length_append, List.length_take, List.length_replicate]; omega
theorem trueK_len {many k : Nat} (h : k ≤ many) : (trueK many k).length = many := by unfold trueK; rw [List.length_append, List.length_replicate, List.length_replicate]; omega
theorem trueK_succ {many k : Nat} (h : k < many) : (trueK many k).set k true = trueK many (k + 1) := by
  unfold trueK
  rw [List.set_append_right _ _ (by simp), List.length_replicate, Nat.sub_self, show many - k = (many - (k + 1)) + 1 by omega, List.replicate_succ, List.set_cons_zero, List.replicate_succ']
  simp
theorem imgK_zero (img : List UInt8) (many : Nat) : imgK img many 0 = List.replicate (many * 128) 0 := by simp [imgK]
theorem loadD_zero (many : Nat) (room : Int) (img : List UInt8) : loadD many room img 0 = newV many room := by
  unfold loadD; rw [imgK_zero]
  have : trueK many 0 = List.replicate many false := by simp [trueK]
  rw [this]; rfl
theorem imgK_succ {img : List UInt8} {many k : Nat} (h : img.length ≤ many * 128) (hk : k * 128 < img.length) : splice (imgK img many k) (k * 128) ((img.drop (k * 128)).take 128) = imgK img many (k + 1) := by
  unfold splice imgK
  have h1 : (img.take (k * 128)).length = k * 128 := by rw [List.length_take]; omega
  have h2 : ((img.drop (k * 128)).take 128).length = min 128 (img.length - k * 128) := by rw [List.length_take, List.length_drop]
  rw [List.take_append_of_le_length (by omega), List.take_of_length_le (by omega), h2, List.drop_append, h1, List.drop_of_length_le (show (img.take (k * 128)).length ≤ k * 128 + min 128 (img.length - k * 128) by omega), List.nil_append, List.drop_replicate, ← List.append_assoc]
  congr 1
  · rw [show (k + 1) * 128 = k * 128 + 128 by omega, List.take_add]
  · congr 1; omega
theorem imgK_byte {img : List UInt8} {many k q : Nat} (h : img.length ≤ many * 128) (hq : q < many * 128) : byteAt (imgK img many k) q = if q < k * 128 then byteAt img q else 0 := by
  unfold byteAt imgK
  rw [List.getD_eq_getElem?_getD, List.getD_eq_getElem?_getD]
  by_cases h1 : q < min img.length (k * 128)
  · rw [List.getElem?_append_left (by rw [List.length_take]; omega), List.getElem?_take, if_pos (by omega), if_pos (by omega)]
  · rw [List.getElem?_append_right (by rw [List.length_take]; omega), List.getElem?_replicate, List.length_take]
    have e0 : ∀ b : Bool, ((if b = true then some (0 : UInt8) else none).getD 0).toNat = 0 := fun b => by cases b <;> rfl
    have e1 := e0 (decide (q - min (k * 128) img.length < many * 128 - min img.length (k * 128)))
    simp only [decide_eq_true_eq] at e1
    rw [e1]
    split
    · rw [List.getElem?_eq_none (by omega)]; rfl
    · rfl
theorem byte_ext {x y : List UInt8} (hx : x.length = y.length) (h : ∀ i, i < y.length → byteAt x i = byteAt y i) : x = y := by
  apply List.ext_getElem (by omega)
  intro i q1 q2
  have := h i (by omega)
  unfold byteAt at this
  rw [List.getD_eq_getElem?_getD, List.getD_eq_getElem?_getD, List.getElem?_eq_getElem q1, List.getElem?_eq_getElem q2] at this
  exact UInt8.toNat_inj.1 this
theorem imgK_sec {img : List UInt8} {many k : Nat} (h : img.length ≤ many * 128) (hk : k < many) : splice (imgK img many k) (k * 128) (secOf (imgK img many (k + 1)) (k : Int)) = imgK img many (k + 1) := by
  have hs : (secOf (imgK img many (k + 1)) (k : Int)).length = 128 := secOf_len (imgK_len h) (by omega) (by omega)
  have hl := imgK_len (k := k) h
  have hl1 := imgK_len (k := k + 1) h
  refine byte_ext (by rw [splice_len (by omega), hl, hl1]) (fun i hi => ?_)
  rw [hl1] at hi
  rw [byteAt_splice (by omega), hs]
  split
  · rename_i hq
    rw [byteAt_sec (by omega), show k * 128 + (i - k * 128) = i by omega]
  · rename_i hq
    rw [imgK_byte h hi, imgK_byte h hi]
    by_cases q : i < k * 128
    · rw [if_pos q, if_pos (by omega)]
    · rw [if_neg q, if_neg (by omega)]
theorem loadD_ok {many : Nat} {room : Int} {img : List UInt8} {k : Nat} (h0 : 1 ≤ many) (h1 : many ≤ 4096) (r0 : 0 ≤ room) (r1 : room ≤ many) (h : img.length ≤ many * 128) (hk : k ≤ many) : (loadD many room img k).Ok :=
  ⟨h0, h1, imgK_len h, imgK_len h, trueK_len hk, trueK_len hk, fun p hp => (by cases hp), ⟨r0, r1⟩, ⟨by show (-1 : Int) ≤ -1; omega, by show (-1 : Int) ≤ _; omega⟩, by show 0 ≤ 1000000; omega⟩
end Go.Proofs.YtalmdccgpigppaaGreat
