/- Parts: DiskK, AreaC. -/
import Derived.Test.YtalmdccgpigppaaPr19
import Derived.Test.YtalmdccgpigppaaPr25
namespace Go.Proofs.Ytalmdccgpigppaa
open Go.RowKit
set_option linter.unusedVariables false
set_option linter.unusedSimpArgs false
section
variable {w : World} {d : Option Addr}
theorem NoDisk.alloc (h : NoDisk w d) (o : Obj) : NoDisk (w.alloc o) d := by
  rcases h with rfl | ⟨g, rfl, h⟩
  · exact .inl rfl
  · exact .inr ⟨g, rfl, by rw [World.cell?_alloc_some _ _ _ (by rw [h]; rfl)]; exact h⟩
end
end Go.Proofs.Ytalmdccgpigppaa
namespace Go.Proofs.Ytalmdccgpigppaa
open Go.RowKit
set_option linter.unusedVariables false
set_option linter.unusedSimpArgs false
def aPutV (D : DiskV) (f m : Nat) (n kind number : Int) (load : List UInt8) : DiskV × Int := if (makeL kind number load).2 ≠ 0 then (D, (makeL kind number load).2) else aWriteV D f m n (makeL kind number load).1
def openV (S : List UInt8) (kind : Int) : Int × List UInt8 × Int := if opens S kind then (sg (openNum S), openLoad S, 0) else (0, [], 53)
def aTakeV (D : DiskV) (f m : Nat) (n kind : Int) : Int × List UInt8 × Int := if (aReadV D f m n).2.2 ≠ 0 then (0, [], (aReadV D f m n).2.2) else openV (aReadV D f m n).2.1 kind
section
variable {w w' : World} {base ga f m : Nat} {p : DiskP} {A : Option Addr} {c : Nat} {D D' : DiskV}
theorem DiskNext.of_below {w1 : World} (hb : Below w.heap.size w w1) (h : DiskNext w1 base p A D' w') : DiskNext w base p A D' w' := by
  obtain ⟨A', c', h1, k, n⟩ := h
  exact ⟨A', c', h1, (Keep.of_below hb).trans k (fun _ _ e => e), fun g e => by rcases n g e with q | q; exact .inl q; exact .inr (by have := hb.size; omega)⟩
theorem awipe_any (h : DiskAt w base p A c D) (ha : AreaAt w ga p.d f m) (hfm : f + m ≤ D.many) (n : Int) (hw : D.waits.length < 1000000) (hbase : base ≤ w.heap.size) :
    Calls Try.prog 50 #[.pointer (some ⟨ga, 0, none⟩), .int .i64 n] w fun e w' => e = .returned (.int .i64 (aWriteV D f m n zerosL).2) ∧ DiskNext w base p A (aWriteV D f m n zerosL).1 w' := by
  have he : aggB zerosL = .agg Try.zeroCells128 := by kernel_rfl
  have hwr := awrite_any h ha hfm n zerosL zerosL_len hw hbase
  rw [he] at hwr
  generalize (aWriteV D f m n zerosL).1 = D' at *
  generalize (aWriteV D f m n zerosL).2 = z at *
  clear h ha he
  go_enter Try.func50, Try.ntmps50
  go_wp2_with (first
    | (go_at_call 83; (with_reducible refine (hwr).mono ?_); rintro e w1 ⟨rfl, hN⟩)
    | fail "no arm")
  go_ret
  exact ⟨rfl, hN⟩
theorem aflush_any (h : DiskAt w base p A c D) (ha : AreaAt w ga p.d f m) :
    Calls Try.prog 51 #[.pointer (some ⟨ga, 0, none⟩)] w fun e w' => e = .returned (.int .i64 (flushV D).2) ∧ DiskNext w base p A (flushV D).1 w' := by
  have hfl := flush_any h
  have c0 : w.cell? ⟨ga, 0, none⟩ = some (.pointer (some ⟨p.d, 0, none⟩)) := Blk.cell ha 0
  generalize (flushV D).1 = D' at *
  generalize (flushV D).2 = z at *
  clear h ha
  go_enter Try.func51, Try.ntmps51
  go_wp2_with (first
    | (go_at_call 84; (with_reducible refine (hfl).mono ?_); rintro e w1 ⟨rfl, hN⟩)
    | fail "no arm")
  go_ret
  exact ⟨rfl, hN⟩
set_option maxRecDepth 100000 in
set_option maxHeartbeats 4000000 in
theorem aput_any (h : DiskAt w base p A c D) (ha : AreaAt w ga p.d f m) (hfm : f + m ≤ D.many) (n kind number : Int) (B : Option Addr) (k d : Nat) (l : List UInt8) (hl : RB w B k l) (hk : k ≤ maxLen) (hnum : number ≤ 9223372036854775807) (hw : D.waits.length < 1000000) (hbase : base ≤ w.heap.size) :
    Calls Try.prog 55 #[.pointer (some ⟨ga, 0, none⟩), .int .i64 n, .int .i64 kind, .int .i64 number, .slice B k d] w fun e w' => e = .returned (.int .i64 (aPutV D f m n kind number l).2) ∧ DiskNext w base p A (aPutV D f m n kind number l).1 w' := by
  have hz := (zero_of_info zero128).1
  have Hi := Lib.hid (zero_of_info zero128).2
  have hlz : Hid ((zerosL.map bv).length = 128) := by show _ = _; simp [zerosL_len]
  have hmk := make_any kind number B k d l w hnum hk hl
  have hml := makeL_len kind number l
  have c0 : w.cell? ⟨ga, 0, none⟩ = some (.pointer (some ⟨p.d, 0, none⟩)) := Blk.cell ha 0
  have H := Lib.hid h
  have HA := Lib.hid ha
  unfold aPutV
  have hwr := fun w' (hb : Below w.heap.size w w') => awrite_any (h.below hb) (ha.below hb) hfm n (makeL kind number l).1 hml hw (by have := hb.size; omega)
  have hsl : Hid (((makeL kind number l).1.map bv).length = 128) := by show _ = _; rw [List.length_map, hml]
  have hsm := Lib.hid (mem_bv (l := (makeL kind number l).1))
  generalize makeL kind number l = M at *
  obtain ⟨S, z⟩ := M
  simp only at hmk hml hwr hsl hsm ⊢
  by_cases hzz : z = 0
  · rw [if_neg (by omega)]
    subst hzz
    have hne : ((0 : Int) != 0) = false := rfl
    generalize aWriteV D f m n S = RR at *
    obtain ⟨D', z⟩ := RR
    simp only at hwr ⊢
    unfold aggB at *
    generalize S.map bv = SV at *
    generalize zerosL.map bv = Z at *
    clear h ha hml
    go_enter Try.func55, Try.ntmps55
    go_wp2_with (first
      | ((go_at_call 86; (with_reducible refine (hmk).mono ?_); rintro e w1 ⟨rfl, hb1⟩); have s1 := hb1.size)
      | (refine wpList_store_arr rfl (x := .tmp 11) (y := .tmp 27) rfl rfl rfl (t := 128) (cs := Z) (xs := SV) (Blk.top _ rfl rfl) Hi.out hsl.out (by rw [hlz.out]; omega) hsm.out ?_; intro w2 hb2 hg2 hs2; rw [splice_all _ _ (hlz.out.trans hsl.out.symm)] at hb2; have b2 : Below w.heap.size w w2 := below_of_only (hb1.alloc s1 _) hg2 (by simp; omega) s1)
      | (refine wpList_load_arr rfl (x := .tmp 11) rfl rfl hb2 Try.underlying128 Hi.out hsl.out (by rw [List.drop_zero, List.take_of_length_le (by rw [hsl.out]; omega)]) ?_)
      | (go_at_call 83; (with_reducible refine (hwr _ b2).mono ?_); rintro e w3 ⟨rfl, hN⟩)
      | fail "no arm")
    go_ret
    exact ⟨rfl, hN.of_below b2⟩
  · rw [if_pos hzz]
    have hne : (z != 0) = true := by rw [bne_iff_ne]; exact hzz
    unfold aggB at *
    generalize S.map bv = SV at *
    generalize zerosL.map bv = Z at *
    clear h ha hml hwr hzz
    go_enter Try.func55, Try.ntmps55
    go_wp2_with (first
      | ((go_at_call 86; (with_reducible refine (hmk).mono ?_); rintro e w1 ⟨rfl, hb1⟩); have s1 := hb1.size)
      | (refine wpList_store_arr rfl (x := .tmp 11) (y := .tmp 27) rfl rfl rfl (t := 128) (cs := Z) (xs := SV) (Blk.top _ rfl rfl) Hi.out hsl.out (by rw [hlz.out]; omega) hsm.out ?_; intro w2 hb2 hg2 hs2; rw [splice_all _ _ (hlz.out.trans hsl.out.symm)] at hb2; have b2 : Below w.heap.size w w2 := below_of_only (hb1.alloc s1 _) hg2 (by simp; omega) s1)
      | fail "no arm")
    go_ret
    exact ⟨rfl, DiskNext.same H.out b2⟩
theorem open_v (S : List UInt8) (kind : Int) (w : World) (hl : S.length = 128) : Calls Try.prog 77 #[aggB S, .int .i64 kind] w fun e w' =>
    ∃ B k d, e = .returned (.tuple #[.int .i64 (openV S kind).1, .slice B k d, .int .i64 (openV S kind).2.2]) ∧ OB w' w.heap.size 5 B k d (openV S kind).2.1 ∧ Below w.heap.size w w' := by
  refine (open_any S kind w hl).mono fun e w' hE => ?_
  unfold openV
  rcases hE with ⟨hq, he, hb⟩ | ⟨hq, B, d, he, ho, hb⟩
  · rw [hq, if_neg (by simp)]; exact ⟨none, 0, 0, he, Ow.nil _ _ _ _, hb⟩
  · rw [hq, if_pos rfl]; exact ⟨B, _, d, he, ho, hb⟩
set_option maxRecDepth 100000 in
set_option maxHeartbeats 4000000 in
theorem atake_any (h : DiskAt w base p A c D) (ha : AreaAt w ga p.d f m) (hfm : f + m ≤ D.many) (n kind : Int) :
    Calls Try.prog 44 #[.pointer (some ⟨ga, 0, none⟩), .int .i64 n, .int .i64 kind] w fun e w' =>
      ∃ B k d, e = .returned (.tuple #[.int .i64 (aTakeV D f m n kind).1, .slice B k d, .int .i64 (aTakeV D f m n kind).2.2]) ∧ OB w' w.heap.size 5 B k d (aTakeV D f m n kind).2.1 ∧ DiskAt w' base p A c (aReadV D f m n).1 ∧ Keep (foot p A) w w' := by
  have hz := (zero_of_info zero128).1
  have Hi := Lib.hid (zero_of_info zero128).2
  have hlz : Hid ((zerosL.map bv).length = 128) := by show _ = _; simp [zerosL_len]
  have hrd := aread_any h ha hfm n
  have hl := aReadV_len (f := f) (m := m) h.ok n
  have hl4 := Lib.hid (fun g hg => h.lt g hg)
  unfold aTakeV
  generalize aReadV D f m n = RR at *
  obtain ⟨D', S, z⟩ := RR
  simp only at hrd hl ⊢
  have hop := fun w => open_v S kind w hl
  have hsl : Hid ((S.map bv).length = 128) := by show _ = _; rw [List.length_map, hl]
  have hsm := Lib.hid (mem_bv (l := S))
  by_cases hzz : z = 0
  · rw [if_neg (by omega)]
    subst hzz
    generalize openV S kind = OV at *
    obtain ⟨N, L, er⟩ := OV
    simp only at hop ⊢
    unfold aggB at *
    generalize S.map bv = SV at *
    generalize zerosL.map bv = Z at *
    clear h ha hl
    go_enter Try.func44, Try.ntmps44
    go_wp2_with (first
      | ((go_at_call 76; (with_reducible refine (hrd).mono ?_); rintro e w1 ⟨rfl, h1, k1⟩); have s1 := k1.size; have H1 := Lib.hid h1; clear h1)
      | (refine wpList_store_arr rfl (x := .tmp 9) (y := .tmp 14) rfl rfl rfl (t := 128) (cs := Z) (xs := SV) (Blk.top _ rfl rfl) Hi.out hsl.out (by rw [hlz.out]; omega) hsm.out ?_; intro w2 hb2 hg2 hs2; rw [splice_all _ _ (hlz.out.trans hsl.out.symm)] at hb2; have b2 : Below w1.heap.size w1 w2 := below_of_only ((Below.refl w1.heap.size w1).alloc (Nat.le_refl _) _) hg2 (by first | omega | (simp; done) | (simp; omega)) (by first | omega | (simp; done) | (simp; omega)); have s2 := b2.size)
      | (refine wpList_load_arr rfl (x := .tmp 9) rfl rfl hb2 Try.underlying128 Hi.out hsl.out (by rw [List.drop_zero, List.take_of_length_le (by rw [hsl.out]; omega)]) ?_)
      | (go_at_call 77; (with_reducible refine (hop _).mono ?_); rintro e w3 ⟨B3, k3, d3, rfl, o3, b3⟩)
      | fail "no arm")
    go_ret3
    have b13 : Below w1.heap.size w1 w3 := b2.trans (b3.mono s2)
    exact ⟨B3, k3, d3, rfl, o3.rebase (by omega), H1.out.below b13, k1.then_below b13⟩
  · rw [if_pos hzz]
    have hne : (z != 0) = true := by rw [bne_iff_ne]; exact hzz
    unfold aggB at *
    generalize S.map bv = SV at *
    generalize zerosL.map bv = Z at *
    clear h ha hl hop hzz
    go_enter Try.func44, Try.ntmps44
    go_wp2_with (first
      | ((go_at_call 76; (with_reducible refine (hrd).mono ?_); rintro e w1 ⟨rfl, h1, k1⟩); have s1 := k1.size; have H1 := Lib.hid h1; clear h1)
      | (refine wpList_store_arr rfl (x := .tmp 9) (y := .tmp 14) rfl rfl rfl (t := 128) (cs := Z) (xs := SV) (Blk.top _ rfl rfl) Hi.out hsl.out (by rw [hlz.out]; omega) hsm.out ?_; intro w2 hb2 hg2 hs2; rw [splice_all _ _ (hlz.out.trans hsl.out.symm)] at hb2; have b2 : Below w1.heap.size w1 w2 := below_of_only ((Below.refl w1.heap.size w1).alloc (Nat.le_refl _) _) hg2 (by first | omega | (simp; done) | (simp; omega)) (by first | omega | (simp; done) | (simp; omega)); have s2 := b2.size)
      | fail "no arm")
    go_ret3
    exact ⟨none, 0, 0, rfl, Ow.nil _ _ _ _, H1.out.below b2, k1.then_below b2⟩
theorem anew_ok (h : DiskAt w base p A c D) (f m : Nat) (h1 : 1 ≤ m) (h2 : f + m ≤ D.many) :
    Calls Try.prog 46 #[.pointer (some ⟨p.d, 0, none⟩), .agg #[.int .i64 (f : Int), .int .i64 (m : Int)]] w fun e w' => ∃ ga, e = .returned (.tuple #[.pointer (some ⟨ga, 0, none⟩), .int .i64 0]) ∧ AreaAt w' ga p.d f m ∧ w.heap.size ≤ ga ∧ Below w.heap.size w w' := by
  have hs := fun o => size_any (h.alloc o)
  have hm := h.ok.many1
  generalize D.many = many at *
  clear h
  unfold AreaAt
  go_enter Try.func46, Try.ntmps46
  go_wp2_with (first
    | (go_at_call 79; (with_reducible refine (hs _).mono ?_); rintro e w1 ⟨rfl, rfl⟩)
    | fail "no arm")
  go_ret2
  exact ⟨w.heap.size + 1, by simp, (by (repeat' (first | (with_reducible assumption) | (with_reducible refine Blk.top _ (by first | rfl | omega | (simp; done) | (simp; omega)) rfl) | (with_reducible refine Blk.alloc ?_ _) | (with_reducible refine Blk.drew ?_) | (with_reducible refine Blk.drewN ?_ _) | (with_reducible refine Blk.far ?_ (by first | omega | (simp; done) | (simp; omega)) _)))), by omega, (by (repeat' (first | (with_reducible exact Below.refl _ _) | (with_reducible assumption) | (with_reducible refine Below.drew ?_) | (with_reducible refine below_drewN ?_ _) | (with_reducible refine Below.alloc ?_ ?_ _) | (with_reducible refine Below.setCell ?_ ?_ _) | omega | (simp; done) | (simp; omega))))⟩
end
end Go.Proofs.Ytalmdccgpigppaa
