/- Parts: JrnB. -/
import Derived.Test.YtalmdccgpigppaaGreatPr17
namespace Go.Proofs.YtalmdccgpigppaaGreat
open Go.RowKit
set_option linter.unusedVariables false
set_option linter.unusedSimpArgs false
theorem DiskS.grown {α : Type} {enc : α → Value} {w w' : World} {base b n c : Nat} {e : TypeId} {B : Option Addr} {p : DiskP} {D : DiskV} {l : List α} (h : DiskS w base p D) (ho : Ow enc w b e B n c l) (hg : w.grownBy w' (B.map (·.block))) (ht : e ∉ 4 :: mutD) : DiskS w' base p D := by
  obtain ⟨A, a, h⟩ := h
  refine ⟨A, a, h.keep (F := fun g => B.map (·.block) = some g) (Keep.of_grown hg (fun g e => e)) (fun g hf he => ?_)⟩
  rcases ho.2.2 with ⟨hv, _⟩ | ⟨g', cap, cur, hv, _, hh, _⟩
  · injection hv with hv; subst hv; cases he
  · injection hv with hv
    subst hv
    simp only [Option.map_some, Option.some.injEq] at he
    subst he
    rcases h.foot_ty (t := e) (cs := cur.toList) (by unfold Blk; rw [hh]) hf with q | q | q | q | q
    all_goals exact ht (by rw [q]; decide)
theorem Step.then_below {M : List TypeId} {w w1 w2 : World} {base : Nat} {p : DiskP} (h : Step M base p w w1) (hb : Below w.heap.size w1 w2) (hs : base ≤ w.heap.size) : Step M base p w w2 := by
  obtain ⟨h1, F, hF, tF⟩ := h
  refine ⟨h1.trans (hb.mono hs), F, ⟨hb.os.trans hF.os, hb.tape.trans hF.tape, hb.output.trans hF.output, Nat.le_trans hF.size hb.size, fun k hk hn => (hb.block k hk).trans (hF.block k hk hn)⟩, tF⟩
/-- The other journals are as they were. -/
def OthersJ (w w' : World) (gj : Nat) : Prop := ∀ g cs, g ≠ gj → Blk w g 200 cs → Blk w' g 200 cs
def rdK (D : DiskV) : Nat → DiskV
  | 0 => D
  | k + 1 => readV' (rdK D k)
theorem rdK_ops (D : DiskV) : ∀ k, ∃ o, rdK D k = { D with ops := o } := by
  intro k
  induction k with
  | zero => exact ⟨D.ops, rfl⟩
  | succ k ih => obtain ⟨o, e⟩ := ih; exact ⟨mAdd o 1 1, by show readV' (rdK D k) = _; rw [e]; rfl⟩
/-- What is a record, so far; how many; which sectors behind them are not blank. -/
def recB (S : List UInt8) (kind : Int) (k : Nat) : Bool := opens S kind && decide (sg (openNum S) = (k : Int))
def scanK (now : List UInt8) (f : Nat) (kind : Int) : Nat → Bool × Nat × List Int
  | 0 => (true, 0, [])
  | k + 1 =>
    if (scanK now f kind k).1 = true ∧ recB (secOf now ((f + k : Nat) : Int)) kind k = true then (true, (scanK now f kind k).2.1 + 1, (scanK now f kind k).2.2)
    else (false, (scanK now f kind k).2.1, if secOf now ((f + k : Nat) : Int) = zerosL then (scanK now f kind k).2.2 else (scanK now f kind k).2.2 ++ [(k : Int)])
theorem scanK_le (now : List UInt8) (f : Nat) (kind : Int) : ∀ k, (scanK now f kind k).2.1 ≤ k ∧ (scanK now f kind k).2.2.length ≤ k := by
  intro k
  induction k with
  | zero => exact ⟨Nat.le_refl _, Nat.le_refl _⟩
  | succ k ih =>
    unfold scanK
    split
    · simp only; omega
    · simp only
      split
      · omega
      · rw [List.length_append, List.length_singleton]; omega
section
variable {w w' : World} {base ga gj f m : Nat} {kind : Int} {p : DiskP} {D : DiskV}
theorem onRead {D : DiskV} (h : D.off = false) {f m k : Nat} (hfm : f + m ≤ D.many) (hk : k < m) : aReadV D f m (k : Int) = (readV' D, secOf D.now ((f + k : Nat) : Int), 0) := by
  unfold aReadV readV
  have hm : mayV D ((f : Int) + k) = 0 := by unfold mayV; rw [h]; simp; omega
  rw [if_neg (by omega), hm, if_neg (by simp)]
  rw [show ((f : Int) + (k : Int)) = ((f + k : Nat) : Int) by omega]
set_option maxRecDepth 100000 in
set_option maxHeartbeats 8000000 in
theorem jread_on (h : JrnAt w gj ga kind 0) (hd : DiskS w base p D) (hs : base ≤ w.heap.size) (hg : base ≤ gj) (ha : AreaAt w ga p.d f m) (hfm : f + m ≤ D.many) (hoff : D.off = false) (hok : D.Ok) :
    Calls Tryz.prog 109 #[.pointer (some ⟨gj, 0, none⟩)] w fun e w' => ∃ B N c, e = .returned (.tuple #[.slice B N c, .int .i64 0]) ∧ Ow iv w' w.heap.size 3 B N c (scanK D.now f kind m).2.2 ∧
      DiskS w' base p (rdK D m) ∧ JrnAt w' gj ga kind (scanK D.now f kind m).2.1 ∧ Step mutJ base p w w' ∧ OthersJ w w' gj := by
  have c0 : w.cell? ⟨gj, 0, none⟩ = some (.pointer (some ⟨ga, 0, none⟩)) := Blk.cell h 0
  have hmany := many_any ha
  have hz := (zero_of_info zero128).1
  have Hi := Lib.hid (zero_of_info zero128).2
  have hlz : Hid ((zerosL.map bv).length = 128) := by show _ = _; simp [zerosL_len]
  have hm4 : f + m ≤ 4096 := by have := hok.many1; omega
  have HD := Lib.hid hd
  have HJ := Lib.hid h
  have HA := Lib.hid ha
  have HOK := Lib.hid hok
  clear h hd ha hok
  unfold aggB at *
  generalize hZ : zerosL.map bv = Z at *
  have HZ := Lib.hid hZ
  clear hZ
  go_enter Tryz.func109, Tryz.ntmps109
  go_wp2_with fail
  go_step3
  go_wp2_with fail
  go_step3
  go_wp2_with (first
    | (go_at_call 48; (with_reducible refine (hmany).mono ?_); rintro e w1 ⟨rfl, rfl⟩)
    | fail "no arm")
  go_loopw [4, 5, 6, 7, 8, 9, 10, 11, 17] (fun v o _ _ _ _ _ _ i wr => ∃ (k : Nat) (B : Option Addr) (N c : Nat), k ≤ m ∧ i = .int .i64 (k : Nat) ∧ o = .bool (scanK D.now f kind k).1 ∧ v = .slice B N c ∧ Ow iv wr w.heap.size 3 B N c (scanK D.now f kind k).2.2 ∧
      DiskS wr base p (rdK D k) ∧ JrnAt wr gj ga kind (scanK D.now f kind k).2.1 ∧ Step mutJ base p w wr ∧ OthersJ w wr gj) (fun _ _ _ _ _ _ _ _ i _ => m - (intOf i).toNat)
  case atStart => exact ⟨0, none, 0, 0, by omega, rfl, rfl, rfl, Ow.nil _ _ _ _, HD.out, HJ.out, Step.refl _ _ _ _, fun _ _ _ h => h⟩
  case round =>
    obtain ⟨k, B, N, c, hk, rfl, rfl, rfl, hown, hdk, hjk, hst, hot⟩ := hrel
    by_cases hlt : k < m
    · have hak := HD.out.area HA.out hst.tch (by decide)
      obtain ⟨o, eo⟩ := rdK_ops D k
      have hon : aReadV (rdK D k) f m (k : Int) = (rdK D (k + 1), secOf D.now ((f + k : Nat) : Int), 0) := by
        rw [onRead (by rw [eo]; exact hoff) (by rw [eo]; exact hfm) hlt]
        show (rdK D (k + 1), secOf (rdK D k).now _, (0 : Int)) = _
        rw [eo]
      have hsz := hst.size
      have hrd := s_aread hdk (by omega) hak (by rw [eo]; exact hfm) (k : Int)
      rw [hon] at hrd
      simp only at hrd
      have hsl0 : (secOf D.now ((f + k : Nat) : Int)).length = 128 := secOf_len HOK.out.now (by omega) (by omega)
      have hop := fun w => open_v (secOf D.now ((f + k : Nat) : Int)) kind w hsl0
      have hbl := fun w => blank_any (secOf D.now ((f + k : Nat) : Int)) w hsl0
      have hnx : Hid (scanK D.now f kind (k + 1) = if (scanK D.now f kind k).1 = true ∧ recB (secOf D.now ((f + k : Nat) : Int)) kind k = true then (true, (scanK D.now f kind k).2.1 + 1, (scanK D.now f kind k).2.2) else (false, (scanK D.now f kind k).2.1, if secOf D.now ((f + k : Nat) : Int) = zerosL then (scanK D.now f kind k).2.2 else (scanK D.now f kind k).2.2 ++ [(k : Int)])) := rfl
      have hle := scanK_le D.now f kind k
      have hNl := hown.1
      generalize scanK D.now f kind k = sc at *
      obtain ⟨op, nx, dl⟩ := sc
      simp only at hown hjk hnx hle hNl
      generalize secOf D.now ((f + k : Nat) : Int) = S at *
      have hsl : Hid ((S.map bv).length = 128) := by show _ = _; rw [List.length_map]; exact hsl0
      have hsm := Lib.hid (mem_bv (l := S))
      have HDk := Lib.hid hdk
      have HJk := Lib.hid hjk
      have Hown := Lib.hid hown
      have Hot := Lib.hid hot
      clear hot
      have y0 : wr.cell? ⟨gj, 0, none⟩ = some (.pointer (some ⟨ga, 0, none⟩)) := Blk.cell hjk 0
      have hkI : (k : Int) < m := by omega
      have hnum : Hid ((openV S kind).1 = if opens S kind then sg (openNum S) else 0) := by show _ = _; unfold openV; split <;> rfl
      have herr : Hid ((openV S kind).2.2 = if opens S kind then 0 else 53) := by show _ = _; unfold openV; split <;> rfl
      have hrec : Hid (recB S kind k = (opens S kind && decide (sg (openNum S) = (k : Int)))) := rfl
      have HSV : Hid (S.map bv = S.map bv) := rfl
      unfold aggB at hrd hop hbl
      generalize S.map bv = SV at *
      generalize openV S kind = OV at *
      obtain ⟨Nn, L, er⟩ := OV
      simp only at hnum herr hop
      clear hdk hjk hown hsl0 hon hak eo
      go_wp2_with (first
        | ((go_at_call 149; (with_reducible refine (hrd).mono ?_); rintro e w2 ⟨rfl, h2, s2⟩); have HJ2 := Lib.hid (show JrnAt w2 gj ga kind nx from HDk.out.blk HJk.out s2.tch (by decide)); have H2 := Lib.hid h2; have o2 := Lib.hid (HDk.out.ow Hown.out s2.tch (by decide)); clear h2)
        | (refine wpList_store_arr rfl (x := .tmp 7) (y := .tmp 27) rfl rfl rfl (t := 137) (cs := Z) (xs := SV) (Blk.top _ rfl rfl) Hi.out hsl.out (by rw [hlz.out]; omega) hsm.out ?_; intro w3 hb3 hg3 hs3; rw [splice_all _ _ (hlz.out.trans hsl.out.symm)] at hb3; have b3 : Below w2.heap.size w2 w3 := below_of_only ((Below.refl w2.heap.size w2).alloc (Nat.le_refl _) _) hg3 (by first | omega | (simp; done) | (simp; omega)) (by first | omega | (simp; done) | (simp; omega)); have HJ3 := Lib.hid (show JrnAt w3 gj ga kind nx from Blk.below HJ2.out b3 HJ2.out.lt); have H3 := Lib.hid (H2.out.below b3); have o3 := Lib.hid (o2.out.below b3 (Nat.le_refl _)); have S3 : Step mutJ base p w w3 := hst.trans ((s2.mono (fun _ e => List.mem_cons_of_mem _ e)).trans (Step.of_below b3 (by have := s2.size; omega))); have ot3 : OthersJ w w3 gj := (fun g cs hne hb => (by have q := HDk.out.blk (Hot.out g cs hne hb) s2.tch (by decide); exact q.below b3 q.lt)))
        | fail "no arm")
      have r3 := Blk.range (o := 0) (n := 128) (xs := SV) hb3 (by rw [List.drop_zero, List.take_of_length_le (by rw [hsl.out]; omega)])
      have y31 : w3.cell? ⟨gj, 1, none⟩ = some (.int .i64 kind) := Blk.cell HJ3.out 1
      refine wp_region_held_drew (S := fun w' => w'.cell? ⟨gj, 1, none⟩ = some (.int .i64 kind) ∧ w'.rangeAt w2.heap.size 0 SV) (by kernel_rfl) ⟨y31, r3⟩ (fun hHeld => ?_)
      refine wpAnyH_take (i := 0) (v := _) rfl (by decide +kernel) (by decide +kernel) (by decide +kernel) (fun _ _ _ h => h) (yieldsIf_load_mid (by rfl) _ _ rfl _ _ rfl SV _ (fun _ h => h.2) Tryz.underlying137 rfl (by rw [hsl.out]; exact Hi.out)) (by assumption) ?_
      try simp only [List.getElem_toArray, List.getElem_cons_zero, List.getElem_cons_succ, Act.put, List.setIfInBounds_toArray, List.set_cons_zero, List.set_cons_succ]
      refine wpAnyH_take (i := 1) (v := ?_) rfl (by decide +kernel) (by decide +kernel) (by decide +kernel) (fun _ _ _ h => h) (Or.inl ⟨by rfl, ?_⟩) (by assumption) ?_
      rotate_left 1
      · (intro w hSw; (try dsimp only at hSw); go_simp; try (with_reducible rfl))
      try simp only [List.getElem_toArray, List.getElem_cons_zero, List.getElem_cons_succ, Act.put, List.setIfInBounds_toArray, List.set_cons_zero, List.set_cons_succ]
      refine wpAnyH_take (i := 2) (v := ?_) rfl (by decide +kernel) (by decide +kernel) (by decide +kernel) (fun _ _ _ h => h) (Or.inl ⟨by rfl, ?_⟩) (by assumption) ?_
      rotate_left 1
      · (intro w hSw; (try dsimp only at hSw); go_simp; try (with_reducible rfl))
      try simp only [List.getElem_toArray, List.getElem_cons_zero, List.getElem_cons_succ, Act.put, List.setIfInBounds_toArray, List.set_cons_zero, List.set_cons_succ]
      refine wpAnyH_take (i := 3) (v := ?_) rfl (by decide +kernel) (by decide +kernel) (by decide +kernel) (fun _ _ _ h => h) (Or.inl ⟨by rfl, ?_⟩) (by assumption) ?_
      rotate_left 1
      · (intro w hSw; (try dsimp only at hSw); go_simp; try (with_reducible rfl))
      try simp only [List.getElem_toArray, List.getElem_cons_zero, List.getElem_cons_succ, Act.put, List.setIfInBounds_toArray, List.set_cons_zero, List.set_cons_succ]
      refine wpAnyH_take (i := 4) (v := ?_) rfl (by decide +kernel) (by decide +kernel) (by decide +kernel) (fun _ _ _ h => h) (Or.inl ⟨by rfl, ?_⟩) (by assumption) ?_
      rotate_left 1
      · (intro w hSw; (try dsimp only at hSw); obtain ⟨s1, s2⟩ := hSw; go_simp; rfl)
      try simp only [List.getElem_toArray, List.getElem_cons_zero, List.getElem_cons_succ, Act.put, List.setIfInBounds_toArray, List.set_cons_zero, List.set_cons_succ]
      refine wpAnyH_ready (rs := [5]) (by decide +kernel) (by simp) ?_
      refine AllReadyH.cons rfl (fun K hK => ?_) AllReadyH.nil
      go_simp
      (go_at_call 150; (with_reducible refine (hop _).mono ?_); rintro e w4 ⟨B4, k4, d4, rfl, o4, hb4⟩)
      have b4 : Below w3.heap.size w3 w4 := below_then' (by (repeat' (first | (with_reducible exact Below.refl _ _) | (with_reducible assumption) | (with_reducible refine Below.drew ?_) | (with_reducible refine below_drewN ?_ _) | (with_reducible refine Below.alloc ?_ ?_ _) | (with_reducible refine Below.setCell ?_ ?_ _) | omega | (simp; done) | (simp; omega)))) hb4 (by first | omega | (simp; done) | (simp; omega))
      have hb4b := Blk.below hb3 b4 (Blk.lt hb3)
      have hj4 : JrnAt w4 gj ga kind nx := Blk.below HJ3.out b4 HJ3.out.lt
      have H4 := Lib.hid (H3.out.below b4)
      have o4' := Lib.hid (o3.out.below b4 (Nat.le_refl _))
      have sz3 : base ≤ w3.heap.size := by have := S3.size; omega
      have S4 : Step mutJ base p w w4 := S3.trans (Step.of_below b4 sz3)
      have ot4 : Hid (OthersJ w w4 gj) := fun g cs hne hb => (ot3 g cs hne hb).below b4 (ot3 g cs hne hb).lt
      clear ot3
      have y41 : w4.cell? ⟨gj, 1, none⟩ = some (.int .i64 kind) := Blk.cell hj4 1
      have y42 : w4.cell? ⟨gj, 2, none⟩ = some (.int .i64 (nx : Int)) := Blk.cell hj4 2
      have y4f := Blk.frozen hj4 2
      have HJ4 := Lib.hid hj4
      refine hK.out _ _ (⟨y41, Blk.range (o := 0) (n := 128) (xs := SV) hb4b (by rw [List.drop_zero, List.take_of_length_le (by rw [hsl.out]; omega)])⟩) (fun hHeld => ?_)
      clear hK K
      try simp only [List.getElem_toArray, List.getElem_cons_zero, List.getElem_cons_succ, Act.put, List.setIfInBounds_toArray, List.set_cons_zero, List.set_cons_succ]
      refine wpAnyH_take (i := 6) (v := ?_) rfl (by decide +kernel) (by decide +kernel) (by decide +kernel) (fun _ _ _ h => h) (Or.inl ⟨by rfl, ?_⟩) (by assumption) ?_
      rotate_left 1
      · (intro w hSw; (try dsimp only at hSw); go_simp; try (with_reducible rfl))
      try simp only [List.getElem_toArray, List.getElem_cons_zero, List.getElem_cons_succ, Act.put, List.setIfInBounds_toArray, List.set_cons_zero, List.set_cons_succ]
      refine wpAnyH_take (i := 7) (v := ?_) rfl (by decide +kernel) (by decide +kernel) (by decide +kernel) (fun _ _ _ h => h) (Or.inl ⟨by rfl, ?_⟩) (by assumption) ?_
      rotate_left 1
      · (intro w hSw; (try dsimp only at hSw); go_simp; try (with_reducible rfl))
      try simp only [List.getElem_toArray, List.getElem_cons_zero, List.getElem_cons_succ, Act.put, List.setIfInBounds_toArray, List.set_cons_zero, List.set_cons_succ]
      refine wpAnyH_take (i := 8) (v := ?_) rfl (by decide +kernel) (by decide +kernel) (by decide +kernel) (fun _ _ _ h => h) (Or.inl ⟨by rfl, ?_⟩) (by assumption) ?_
      rotate_left 1
      · (intro w hSw; (try dsimp only at hSw); go_simp; try (with_reducible rfl))
      try simp only [List.getElem_toArray, List.getElem_cons_zero, List.getElem_cons_succ, Act.put, List.setIfInBounds_toArray, List.set_cons_zero, List.set_cons_succ]
      refine wpAnyH_take (i := 9) (v := ?_) rfl (by decide +kernel) (by decide +kernel) (by decide +kernel) (fun _ _ _ h => h) (Or.inl ⟨by rfl, ?_⟩) (by assumption) ?_
      rotate_left 1
      · (intro w hSw; (try dsimp only at hSw); go_simp; try (with_reducible rfl))
      try simp only [List.getElem_toArray, List.getElem_cons_zero, List.getElem_cons_succ, Act.put, List.setIfInBounds_toArray, List.set_cons_zero, List.set_cons_succ]
      refine wpAnyH_take (i := 10) (v := ?_) rfl (by decide +kernel) (by decide +kernel) (by decide +kernel) (fun _ _ _ h => h) (Or.inl ⟨by rfl, ?_⟩) (by assumption) ?_
      rotate_left 1
      · (intro w hSw; (try dsimp only at hSw); go_simp; try (with_reducible rfl))
      try simp only [List.getElem_toArray, List.getElem_cons_zero, List.getElem_cons_succ, Act.put, List.setIfInBounds_toArray, List.set_cons_zero, List.set_cons_succ]
      refine wpAnyH_take (i := 11) (v := ?_) rfl (by decide +kernel) (by decide +kernel) (by decide +kernel) (fun _ _ _ h => h) (Or.inl ⟨by rfl, ?_⟩) (by assumption) ?_
      rotate_left 1
      · (intro w hSw; (try dsimp only at hSw); go_simp; try (with_reducible rfl))
      try simp only [List.getElem_toArray, List.getElem_cons_zero, List.getElem_cons_succ, Act.put, List.setIfInBounds_toArray, List.set_cons_zero, List.set_cons_succ]
      refine wpAnyH_take (i := 12) (v := ?_) rfl (by decide +kernel) (by decide +kernel) (by decide +kernel) (fun _ _ _ h => h) (Or.inl ⟨by rfl, ?_⟩) (by assumption) ?_
      rotate_left 1
      · (intro w hSw; (try dsimp only at hSw); go_simp; try (with_reducible rfl))
      try simp only [List.getElem_toArray, List.getElem_cons_zero, List.getElem_cons_succ, Act.put, List.setIfInBounds_toArray, List.set_cons_zero, List.set_cons_succ]
      refine wpAnyH_done (by decide +kernel) ?_ _
      cases op with
      | false =>
        by_cases hS0 : S = zerosL
        · have hbl' : ∀ w, Calls Tryz.prog 151 #[.agg SV.toArray] w fun e w' => e = .returned (.bool true) ∧ Below w.heap.size w w' := fun w => (hbl w).mono fun e w' ⟨q1, q2⟩ => ⟨by rw [q1, decide_eq_true hS0], q2⟩
          have HN : Hid (scanK D.now f kind (k + 1) = (false, nx, dl)) := by show _ = _; rw [hnx.out, if_neg (by simp), if_pos hS0]
          clear hbl hS0
          go_wp2_with (first
            | (refine wpList_load_arr rfl (x := .tmp 7) rfl rfl hb4b Tryz.underlying137 Hi.out hsl.out (by rw [List.drop_zero, List.take_of_length_le (by rw [hsl.out]; omega)]) ?_)
            | (go_at_call 151; (with_reducible refine (hbl' _).mono ?_); rintro e w5 ⟨rfl, hb5⟩)
            | fail "no arm")
          go_roundw
          case rel =>
            have f1 := o4'.out.below hb5 (Nat.le_refl _)
            have f2 := H4.out.below hb5
            have f3 : JrnAt w5 gj ga kind nx := Blk.below HJ4.out hb5 HJ4.out.lt
            have f4 := S4.trans (Step.of_below hb5 (by have := S4.size; omega))
            have e1 : Value.bool false = .bool (scanK D.now f kind (k + 1)).1 := by rw [HN.out]
            have e2 : Ow iv w5 w.heap.size 3 B N c (scanK D.now f kind (k + 1)).2.2 := by rw [HN.out]; exact f1
            have e3 : JrnAt w5 gj ga kind (scanK D.now f kind (k + 1)).2.1 := by rw [HN.out]; exact f3
            have f5 : OthersJ w w5 gj := fun g cs hne hb => (ot4.out g cs hne hb).below hb5 (ot4.out g cs hne hb).lt
            first
              | exact ⟨k + 1, B, N, c, by omega, by go_num, e1, rfl, e2, f2, e3, f4, f5⟩
              | ((repeat apply Exists.intro); exact ⟨⟨k + 1, B, N, c, by omega, by go_num, e1, rfl, e2, f2, e3, f4, f5⟩, rfl⟩)
          case measure => simp [intOf]; omega
        · have hbl' : ∀ w, Calls Tryz.prog 151 #[.agg SV.toArray] w fun e w' => e = .returned (.bool false) ∧ Below w.heap.size w w' := fun w => (hbl w).mono fun e w' ⟨q1, q2⟩ => ⟨by rw [q1, decide_eq_false hS0], q2⟩
          have HN : Hid (scanK D.now f kind (k + 1) = (false, nx, dl ++ [(k : Int)])) := by show _ = _; rw [hnx.out, if_neg (by simp), if_neg hS0]
          have hszw := S4.size
          clear hbl hS0
          go_wp2_with (first
            | (refine wpList_load_arr rfl (x := .tmp 7) rfl rfl hb4b Tryz.underlying137 Hi.out hsl.out (by rw [List.drop_zero, List.take_of_length_le (by rw [hsl.out]; omega)]) ?_)
            | ((go_at_call 151; (with_reducible refine (hbl' _).mono ?_); rintro e w5 ⟨rfl, hb5⟩); have o5 := o4'.out.below hb5 (Nat.le_refl _); have b5s := hb5.size)
            | (at_builtin; refine wpList_app rfl rfl elemInt iv_one (s := .tmp 62) (N := N + 1) (L := dl ++ [(k : Int)]) rfl (o5.below (b := w5.heap.size) (by (repeat' (first | (with_reducible exact Below.refl _ _) | (with_reducible assumption) | (with_reducible refine Below.drew ?_) | (with_reducible refine below_drewN ?_ _) | (with_reducible refine Below.alloc ?_ ?_ _) | (with_reducible refine Below.setCell ?_ ?_ _) | omega | (simp; done) | (simp; omega)))) (by first | omega | (simp; done) | (simp; omega))) rfl (k := [(k : Int)]) (Rd.of_block (l := [(k : Int)]) (heap_top _ _ (by simp)) rfl) rfl (rfl) (by unfold maxLen; omega) (by omega) (by first | omega | (simp; done) | (simp; omega)) ?_; intro A6 c6 w6 hown6 hg6 hat6 hb6)
            | fail "no arm")
          go_roundw
          case rel =>
            have o5a := o5.below (b := w5.heap.size) ((Below.refl w5.heap.size w5).alloc (Nat.le_refl _) (.cells #[.int .i64 (k : Int)] 3)) (Nat.le_refl _)
            have bA : Below w5.heap.size w5 (w5.alloc (.cells #[.int .i64 (k : Int)] 3)) := (Below.refl w5.heap.size w5).alloc (Nat.le_refl _) _
            have f2 := ((H4.out.below hb5).below bA).grown o5a hg6 (by decide)
            have f3 : JrnAt w6 gj ga kind nx := Blk.grown (Blk.below (Blk.below HJ4.out hb5 HJ4.out.lt) bA (by have := HJ4.out.lt; omega)) hg6 (o5a.ne_ (Blk.below (Blk.below HJ4.out hb5 HJ4.out.lt) bA (by have := HJ4.out.lt; omega)) (by decide))
            have f4 := ((S4.trans (Step.of_below hb5 (by omega))).trans (Step.of_below bA (by omega))).then_below hb6 hs
            have e1 : Value.bool false = .bool (scanK D.now f kind (k + 1)).1 := by rw [HN.out]
            have e2 : Ow iv w6 w.heap.size 3 A6 (N + 1) c6 (scanK D.now f kind (k + 1)).2.2 := by rw [HN.out]; exact hown6
            have e3 : JrnAt w6 gj ga kind (scanK D.now f kind (k + 1)).2.1 := by rw [HN.out]; exact f3
            have f5 : OthersJ w w6 gj := fun g cs hne hb => (by
              have q := ((ot4.out g cs hne hb).below hb5 (ot4.out g cs hne hb).lt)
              have q2 := q.below bA q.lt
              exact Blk.grown q2 hg6 (o5a.ne_ q2 (by decide)))
            first
              | exact ⟨k + 1, A6, N + 1, c6, by omega, by go_num, e1, rfl, e2, f2, e3, f4, f5⟩
              | ((repeat apply Exists.intro); exact ⟨⟨k + 1, A6, N + 1, c6, by omega, by go_num, e1, rfl, e2, f2, e3, f4, f5⟩, rfl⟩)
          case measure => simp [intOf]; omega
      | true =>
        cases ho : opens S kind with
        | false =>
          have her : er = 53 := by rw [herr.out, ho]; rfl
          subst her
          by_cases hS0 : S = zerosL
          · have hbl' : ∀ w, Calls Tryz.prog 151 #[.agg SV.toArray] w fun e w' => e = .returned (.bool true) ∧ Below w.heap.size w w' := fun w => (hbl w).mono fun e w' ⟨q1, q2⟩ => ⟨by rw [q1, decide_eq_true hS0], q2⟩
            have HN : Hid (scanK D.now f kind (k + 1) = (false, nx, dl)) := by show _ = _; rw [hnx.out, if_neg (by rw [hrec.out, ho]; simp), if_pos hS0]
            clear hbl hS0
            go_wp2_with (first
              | (refine wpList_load_arr rfl (x := .tmp 7) rfl rfl hb4b Tryz.underlying137 Hi.out hsl.out (by rw [List.drop_zero, List.take_of_length_le (by rw [hsl.out]; omega)]) ?_)
              | (go_at_call 151; (with_reducible refine (hbl' _).mono ?_); rintro e w5 ⟨rfl, hb5⟩)
              | fail "no arm")
            go_roundw
            case rel =>
              have f1 := o4'.out.below hb5 (Nat.le_refl _)
              have f2 := H4.out.below hb5
              have f3 : JrnAt w5 gj ga kind nx := Blk.below HJ4.out hb5 HJ4.out.lt
              have f4 := S4.trans (Step.of_below hb5 (by have := S4.size; omega))
              have e1 : Value.bool false = .bool (scanK D.now f kind (k + 1)).1 := by rw [HN.out]
              have e2 : Ow iv w5 w.heap.size 3 B N c (scanK D.now f kind (k + 1)).2.2 := by rw [HN.out]; exact f1
              have e3 : JrnAt w5 gj ga kind (scanK D.now f kind (k + 1)).2.1 := by rw [HN.out]; exact f3
              have f5 : OthersJ w w5 gj := fun g cs hne hb => (ot4.out g cs hne hb).below hb5 (ot4.out g cs hne hb).lt
              first
                | exact ⟨k + 1, B, N, c, by omega, by go_num, e1, rfl, e2, f2, e3, f4, f5⟩
                | ((repeat apply Exists.intro); exact ⟨⟨k + 1, B, N, c, by omega, by go_num, e1, rfl, e2, f2, e3, f4, f5⟩, rfl⟩)
            case measure => simp [intOf]; omega
          · have hbl' : ∀ w, Calls Tryz.prog 151 #[.agg SV.toArray] w fun e w' => e = .returned (.bool false) ∧ Below w.heap.size w w' := fun w => (hbl w).mono fun e w' ⟨q1, q2⟩ => ⟨by rw [q1, decide_eq_false hS0], q2⟩
            have HN : Hid (scanK D.now f kind (k + 1) = (false, nx, dl ++ [(k : Int)])) := by show _ = _; rw [hnx.out, if_neg (by rw [hrec.out, ho]; simp), if_neg hS0]
            have hszw := S4.size
            clear hbl hS0
            go_wp2_with (first
              | (refine wpList_load_arr rfl (x := .tmp 7) rfl rfl hb4b Tryz.underlying137 Hi.out hsl.out (by rw [List.drop_zero, List.take_of_length_le (by rw [hsl.out]; omega)]) ?_)
              | ((go_at_call 151; (with_reducible refine (hbl' _).mono ?_); rintro e w5 ⟨rfl, hb5⟩); have o5 := o4'.out.below hb5 (Nat.le_refl _); have b5s := hb5.size)
              | (at_builtin; refine wpList_app rfl rfl elemInt iv_one (s := .tmp 62) (N := N + 1) (L := dl ++ [(k : Int)]) rfl (o5.below (b := w5.heap.size) (by (repeat' (first | (with_reducible exact Below.refl _ _) | (with_reducible assumption) | (with_reducible refine Below.drew ?_) | (with_reducible refine below_drewN ?_ _) | (with_reducible refine Below.alloc ?_ ?_ _) | (with_reducible refine Below.setCell ?_ ?_ _) | omega | (simp; done) | (simp; omega)))) (by first | omega | (simp; done) | (simp; omega))) rfl (k := [(k : Int)]) (Rd.of_block (l := [(k : Int)]) (heap_top _ _ (by simp)) rfl) rfl (rfl) (by unfold maxLen; omega) (by omega) (by first | omega | (simp; done) | (simp; omega)) ?_; intro A6 c6 w6 hown6 hg6 hat6 hb6)
              | fail "no arm")
            go_roundw
            case rel =>
              have o5a := o5.below (b := w5.heap.size) ((Below.refl w5.heap.size w5).alloc (Nat.le_refl _) (.cells #[.int .i64 (k : Int)] 3)) (Nat.le_refl _)
              have bA : Below w5.heap.size w5 (w5.alloc (.cells #[.int .i64 (k : Int)] 3)) := (Below.refl w5.heap.size w5).alloc (Nat.le_refl _) _
              have f2 := ((H4.out.below hb5).below bA).grown o5a hg6 (by decide)
              have f3 : JrnAt w6 gj ga kind nx := Blk.grown (Blk.below (Blk.below HJ4.out hb5 HJ4.out.lt) bA (by have := HJ4.out.lt; omega)) hg6 (o5a.ne_ (Blk.below (Blk.below HJ4.out hb5 HJ4.out.lt) bA (by have := HJ4.out.lt; omega)) (by decide))
              have f4 := ((S4.trans (Step.of_below hb5 (by omega))).trans (Step.of_below bA (by omega))).then_below hb6 hs
              have e1 : Value.bool false = .bool (scanK D.now f kind (k + 1)).1 := by rw [HN.out]
              have e2 : Ow iv w6 w.heap.size 3 A6 (N + 1) c6 (scanK D.now f kind (k + 1)).2.2 := by rw [HN.out]; exact hown6
              have e3 : JrnAt w6 gj ga kind (scanK D.now f kind (k + 1)).2.1 := by rw [HN.out]; exact f3
              have f5 : OthersJ w w6 gj := fun g cs hne hb => (by
                have q := ((ot4.out g cs hne hb).below hb5 (ot4.out g cs hne hb).lt)
                have q2 := q.below bA q.lt
                exact Blk.grown q2 hg6 (o5a.ne_ q2 (by decide)))
              first
                | exact ⟨k + 1, A6, N + 1, c6, by omega, by go_num, e1, rfl, e2, f2, e3, f4, f5⟩
                | ((repeat apply Exists.intro); exact ⟨⟨k + 1, A6, N + 1, c6, by omega, by go_num, e1, rfl, e2, f2, e3, f4, f5⟩, rfl⟩)
            case measure => simp [intOf]; omega
        | true =>
          have her : er = 0 := by rw [herr.out, ho]; rfl
          have hnn : Nn = sg (openNum S) := by rw [hnum.out, ho]; rfl
          subst her
          by_cases hN : Nn = (k : Int)
          · have HN : Hid (scanK D.now f kind (k + 1) = (true, nx + 1, dl)) := by show _ = _; rw [hnx.out, if_pos ⟨rfl, by rw [hrec.out, ho, ← hnn, hN]; simp⟩]
            have hNB : (Nn == (k : Int)) = true := by rw [hN]; simp
            clear hN hnn ho
            go_wp2
            go_roundw
            case rel =>
              have hset : JrnAt (w4.setCell ⟨gj, 2, none⟩ (.int .i64 ((nx : Int) + 1))) gj ga kind (nx + 1) := Blk.set_ HJ4.out 2 _
              have st : Step mutJ base p w4 (w4.setCell ⟨gj, 2, none⟩ (.int .i64 ((nx : Int) + 1))) := Step.one (grown_setCell _) HJ4.out (List.mem_cons_self ..) hg (by have := S4.size; omega)
              have f1 := Ow.setFar o4'.out HJ4.out (by decide) 2 (.int .i64 ((nx : Int) + 1))
              have f2 : DiskS (w4.setCell ⟨gj, 2, none⟩ (.int .i64 ((nx : Int) + 1))) base p (rdK D (k + 1)) := by
                obtain ⟨A9, c9, h9⟩ := H4.out
                exact ⟨A9, c9, h9.keep (F := (· = gj)) (Keep.one (grown_setCell _)) (fun g hf e => by
                  subst e
                  rcases h9.foot_ty HJ4.out hf with q | q | q | q | q <;> exact absurd q (by decide))⟩
              have e1 : Value.bool true = .bool (scanK D.now f kind (k + 1)).1 := by rw [HN.out]
              have e2 : Ow iv (w4.setCell ⟨gj, 2, none⟩ (.int .i64 ((nx : Int) + 1))) w.heap.size 3 B N c (scanK D.now f kind (k + 1)).2.2 := by rw [HN.out]; exact f1
              have e3 : JrnAt (w4.setCell ⟨gj, 2, none⟩ (.int .i64 ((nx : Int) + 1))) gj ga kind (scanK D.now f kind (k + 1)).2.1 := by rw [HN.out]; exact hset
              first
                | exact ⟨k + 1, B, N, c, by omega, by go_num, e1, rfl, e2, f2, e3, S4.trans st, fun g cs hne hb => Blk.far (ot4.out g cs hne hb) (show g ≠ gj from hne) _⟩
                | ((repeat apply Exists.intro); exact ⟨⟨k + 1, B, N, c, by omega, by go_num, e1, rfl, e2, f2, e3, S4.trans st, fun g cs hne hb => Blk.far (ot4.out g cs hne hb) (show g ≠ gj from hne) _⟩, rfl⟩)
            case measure => simp [intOf]; omega
          · have hNB : (Nn == (k : Int)) = false := by rw [beq_eq_false_iff_ne]; exact hN
            have hc : ¬ ((true = true) ∧ recB S kind k = true) := by rw [hrec.out, ho, ← hnn, decide_eq_false hN]; simp
            have HC := Lib.hid hc
            clear hN hnn ho hc
            by_cases hS0 : S = zerosL
            · have hbl' : ∀ w, Calls Tryz.prog 151 #[.agg SV.toArray] w fun e w' => e = .returned (.bool true) ∧ Below w.heap.size w w' := fun w => (hbl w).mono fun e w' ⟨q1, q2⟩ => ⟨by rw [q1, decide_eq_true hS0], q2⟩
              have HN : Hid (scanK D.now f kind (k + 1) = (false, nx, dl)) := by show _ = _; rw [hnx.out, if_neg (HC.out), if_pos hS0]
              clear hbl hS0
              go_wp2_with (first
                | (refine wpList_load_arr rfl (x := .tmp 7) rfl rfl hb4b Tryz.underlying137 Hi.out hsl.out (by rw [List.drop_zero, List.take_of_length_le (by rw [hsl.out]; omega)]) ?_)
                | (go_at_call 151; (with_reducible refine (hbl' _).mono ?_); rintro e w5 ⟨rfl, hb5⟩)
                | fail "no arm")
              go_roundw
              case rel =>
                have f1 := o4'.out.below hb5 (Nat.le_refl _)
                have f2 := H4.out.below hb5
                have f3 : JrnAt w5 gj ga kind nx := Blk.below HJ4.out hb5 HJ4.out.lt
                have f4 := S4.trans (Step.of_below hb5 (by have := S4.size; omega))
                have e1 : Value.bool false = .bool (scanK D.now f kind (k + 1)).1 := by rw [HN.out]
                have e2 : Ow iv w5 w.heap.size 3 B N c (scanK D.now f kind (k + 1)).2.2 := by rw [HN.out]; exact f1
                have e3 : JrnAt w5 gj ga kind (scanK D.now f kind (k + 1)).2.1 := by rw [HN.out]; exact f3
                have f5 : OthersJ w w5 gj := fun g cs hne hb => (ot4.out g cs hne hb).below hb5 (ot4.out g cs hne hb).lt
                first
                  | exact ⟨k + 1, B, N, c, by omega, by go_num, e1, rfl, e2, f2, e3, f4, f5⟩
                  | ((repeat apply Exists.intro); exact ⟨⟨k + 1, B, N, c, by omega, by go_num, e1, rfl, e2, f2, e3, f4, f5⟩, rfl⟩)
              case measure => simp [intOf]; omega
            · have hbl' : ∀ w, Calls Tryz.prog 151 #[.agg SV.toArray] w fun e w' => e = .returned (.bool false) ∧ Below w.heap.size w w' := fun w => (hbl w).mono fun e w' ⟨q1, q2⟩ => ⟨by rw [q1, decide_eq_false hS0], q2⟩
              have HN : Hid (scanK D.now f kind (k + 1) = (false, nx, dl ++ [(k : Int)])) := by show _ = _; rw [hnx.out, if_neg (HC.out), if_neg hS0]
              have hszw := S4.size
              clear hbl hS0
              go_wp2_with (first
                | (refine wpList_load_arr rfl (x := .tmp 7) rfl rfl hb4b Tryz.underlying137 Hi.out hsl.out (by rw [List.drop_zero, List.take_of_length_le (by rw [hsl.out]; omega)]) ?_)
                | ((go_at_call 151; (with_reducible refine (hbl' _).mono ?_); rintro e w5 ⟨rfl, hb5⟩); have o5 := o4'.out.below hb5 (Nat.le_refl _); have b5s := hb5.size)
                | (at_builtin; refine wpList_app rfl rfl elemInt iv_one (s := .tmp 62) (N := N + 1) (L := dl ++ [(k : Int)]) rfl (o5.below (b := w5.heap.size) (by (repeat' (first | (with_reducible exact Below.refl _ _) | (with_reducible assumption) | (with_reducible refine Below.drew ?_) | (with_reducible refine below_drewN ?_ _) | (with_reducible refine Below.alloc ?_ ?_ _) | (with_reducible refine Below.setCell ?_ ?_ _) | omega | (simp; done) | (simp; omega)))) (by first | omega | (simp; done) | (simp; omega))) rfl (k := [(k : Int)]) (Rd.of_block (l := [(k : Int)]) (heap_top _ _ (by simp)) rfl) rfl (rfl) (by unfold maxLen; omega) (by omega) (by first | omega | (simp; done) | (simp; omega)) ?_; intro A6 c6 w6 hown6 hg6 hat6 hb6)
                | fail "no arm")
              go_roundw
              case rel =>
                have o5a := o5.below (b := w5.heap.size) ((Below.refl w5.heap.size w5).alloc (Nat.le_refl _) (.cells #[.int .i64 (k : Int)] 3)) (Nat.le_refl _)
                have bA : Below w5.heap.size w5 (w5.alloc (.cells #[.int .i64 (k : Int)] 3)) := (Below.refl w5.heap.size w5).alloc (Nat.le_refl _) _
                have f2 := ((H4.out.below hb5).below bA).grown o5a hg6 (by decide)
                have f3 : JrnAt w6 gj ga kind nx := Blk.grown (Blk.below (Blk.below HJ4.out hb5 HJ4.out.lt) bA (by have := HJ4.out.lt; omega)) hg6 (o5a.ne_ (Blk.below (Blk.below HJ4.out hb5 HJ4.out.lt) bA (by have := HJ4.out.lt; omega)) (by decide))
                have f4 := ((S4.trans (Step.of_below hb5 (by omega))).trans (Step.of_below bA (by omega))).then_below hb6 hs
                have e1 : Value.bool false = .bool (scanK D.now f kind (k + 1)).1 := by rw [HN.out]
                have e2 : Ow iv w6 w.heap.size 3 A6 (N + 1) c6 (scanK D.now f kind (k + 1)).2.2 := by rw [HN.out]; exact hown6
                have e3 : JrnAt w6 gj ga kind (scanK D.now f kind (k + 1)).2.1 := by rw [HN.out]; exact f3
                have f5 : OthersJ w w6 gj := fun g cs hne hb => (by
                  have q := ((ot4.out g cs hne hb).below hb5 (ot4.out g cs hne hb).lt)
                  have q2 := q.below bA q.lt
                  exact Blk.grown q2 hg6 (o5a.ne_ q2 (by decide)))
                first
                  | exact ⟨k + 1, A6, N + 1, c6, by omega, by go_num, e1, rfl, e2, f2, e3, f4, f5⟩
                  | ((repeat apply Exists.intro); exact ⟨⟨k + 1, A6, N + 1, c6, by omega, by go_num, e1, rfl, e2, f2, e3, f4, f5⟩, rfl⟩)
              case measure => simp [intOf]; omega
    · have hk9 : k = m := by omega
      subst hk9
      have HDk := Lib.hid hdk
      have HJk := Lib.hid hjk
      have HS := Lib.hid hst
      clear hdk hjk hst
      go_wp2
      rw [Exit.noGoto_ret]
      go_ret2
      exact ⟨B, N, c, rfl, hown, HDk.out, HJk.out, HS.out, hot⟩
set_option maxRecDepth 100000 in
set_option maxHeartbeats 8000000 in
theorem jread_off (h : JrnAt w gj ga kind 0) (hd : DiskS w base p D) (hs : base ≤ w.heap.size) (ha : AreaAt w ga p.d f m) (hm : 1 ≤ m) (hfm : f + m ≤ D.many) (hoff : D.off = true) (hok : D.Ok) :
    Calls Tryz.prog 109 #[.pointer (some ⟨gj, 0, none⟩)] w fun e w' => e = .returned (.tuple #[.slice none 0 0, .int .i64 50]) ∧ DiskS w' base p D ∧ Step mutD base p w w' := by
  have c0 : w.cell? ⟨gj, 0, none⟩ = some (.pointer (some ⟨ga, 0, none⟩)) := Blk.cell h 0
  have hmany := many_any ha
  have hz := (zero_of_info zero128).1
  have Hi := Lib.hid (zero_of_info zero128).2
  have hlz : Hid ((zerosL.map bv).length = 128) := by show _ = _; simp [zerosL_len]
  have HZm := Lib.hid (mem_bv (l := zerosL))
  have hm4 : f + m ≤ 4096 := by have := hok.many1; omega
  have hon : aReadV D f m 0 = (D, zerosL, 50) := by
    have hmay : mayV D ((f : Int) + 0) = 50 := by unfold mayV; rw [hoff]; rfl
    unfold aReadV readV
    rw [if_neg (by omega), hmay, if_pos (by simp)]
  have hrd := s_aread hd hs ha hfm 0
  rw [hon] at hrd
  simp only at hrd
  clear h hd ha hok hon
  unfold aggB at *
  generalize zerosL.map bv = Z at *
  go_enter Tryz.func109, Tryz.ntmps109
  go_wp2_with fail
  go_step3
  go_wp2_with fail
  go_step3
  go_wp2_with (first
    | (go_at_call 48; (with_reducible refine (hmany).mono ?_); rintro e w1 ⟨rfl, rfl⟩)
    | fail "no arm")
  go_loopw [4, 5, 6, 7, 8, 9, 10, 11, 17] (fun _ _ _ _ _ _ _ _ i wr => i = .int .i64 0 ∧ wr = w) (fun _ _ _ _ _ _ _ _ i _ => m - (intOf i).toNat)
  case atStart => exact ⟨rfl, rfl⟩
  case round =>
    obtain ⟨rfl, rfl⟩ := hrel
    have hmI : (0 : Int) < m := by omega
    go_wp2_with (first
      | ((go_at_call 149; (with_reducible refine (hrd).mono ?_); rintro e w2 ⟨rfl, h2, s2⟩); have H2 := Lib.hid h2; clear h2)
      | (refine wpList_store_arr rfl (x := .tmp 7) (y := .tmp 27) rfl rfl rfl (t := 137) (cs := Z) (xs := Z) (Blk.top _ rfl rfl) Hi.out hlz.out (by rw [hlz.out]; omega) HZm.out ?_; intro w3 hb3 hg3 hs3; rw [splice_all _ _ rfl] at hb3; have b3 : Below w2.heap.size w2 w3 := below_of_only ((Below.refl w2.heap.size w2).alloc (Nat.le_refl _) _) hg3 (by first | omega | (simp; done) | (simp; omega)) (by first | omega | (simp; done) | (simp; omega)))
      | fail "no arm")
    rw [Exit.noGoto_ret]
    go_ret2
    exact ⟨rfl, H2.out.below b3, s2.trans (Step.of_below b3 (by have := s2.size; omega))⟩
theorem Step.noJrn {w1 : World} (hb : Below w.heap.size w w1) (h : Step mutJ base p w1 w') (ho : OthersJ w1 w' gj) (hg : w.heap.size ≤ gj) (hs : base ≤ w.heap.size) : Step mutD base p w w' := by
  obtain ⟨h1, F, hF, tF⟩ := h
  refine ⟨(hb.mono hs).trans h1, fun g => F g ∧ ∀ cs, ¬ Blk w1 g 200 cs, ⟨hF.os.trans hb.os, hF.tape.trans hb.tape, hF.output.trans hb.output, Nat.le_trans hb.size hF.size, fun k hk hn => ?_⟩, fun g t cs e hbk => ?_⟩
  · have e0 := hb.block k hk
    by_cases hfk : F k
    · have : ∃ cs, Blk w1 k 200 cs := by
        apply Classical.byContradiction
        intro hno
        exact hn ⟨hfk, fun cs hc => hno ⟨cs, hc⟩⟩
      obtain ⟨cs, hc⟩ := this
      have := ho k cs (by omega) hc
      unfold Blk at this hc
      rw [this, ← hc]; exact e0
    · rw [← e0]; exact hF.block k (by have := hb.size; omega) hfk
  · have hb1 := hbk.below hb hbk.lt
    rcases tF g t cs e.1 hb1 with q | q
    · rcases List.mem_cons.1 q with q | q
      · subst q; exact absurd hb1 (e.2 cs)
      · exact .inl q
    · exact .inr q
end
end Go.Proofs.YtalmdccgpigppaaGreat
