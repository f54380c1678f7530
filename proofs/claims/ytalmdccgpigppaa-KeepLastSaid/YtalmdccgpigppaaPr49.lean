/- Parts: KeepC. -/
import Derived.Test.YtalmdccgpigppaaPr48
namespace Go.Proofs.Ytalmdccgpigppaa
open Go.RowKit
set_option linter.unusedVariables false
set_option linter.unusedSimpArgs false
section
variable {w w' : World} {base g ga gb fl ml fr mr : Nat} {q : DiskP} {D : DiskV} {x : PA} {p : PV} {hash tick : Int} {k : KpV} {cells : List Int} {A : Option Addr} {n c : Nat}
theorem ProgRd.drew_ {w : World} {x : PA} {p : PV} (h : ProgRd w x p) : ProgRd w.drew x p := h.below (b := w.heap.size) (Below.drew (Below.refl _ _)) (Nat.le_refl _)
/-- The snapshot that is to be saved. -/
def SvCut (w : World) (tick hash : Int) (n : Nat) (cells : List Int) (t : Value) (wx : World) : Prop :=
  ∃ gx A5 c5, t = .pointer (some ⟨gx, 0, none⟩) ∧ Blk wx gx 98 [.int .i64 tick, .int .i64 hash, .slice A5 n c5] ∧ (∃ b, Ow iv wx b 3 A5 n c5 cells) ∧ Below w.heap.size w wx ∧ w.heap.size ≤ gx
set_option maxRecDepth 100000 in
set_option maxHeartbeats 8000000 in
theorem ksave_any (h : KeepAt w base g ga gb x p hash k) (hmay : mayB p = true) (hd : DiskS w base q D) (hs : base ≤ w.heap.size) (hal : AreaAt w ga q.d fl ml) (har : AreaAt w gb q.d fr mr) (hml : 5 ≤ ml) (hmr : 5 ≤ mr) (hfl : fl + ml ≤ D.many) (hfr : fr + mr ≤ D.many)
    (hc : IntsAt w base A n cells) (hn : n ≤ 1000) (hnb : -9223372036854775808 ≤ k.s.number ∧ k.s.number ≤ 9223372036854775807) (hw : D.waits.length < 800000) :
    Calls Try.prog 42 #[.pointer (some ⟨g, 0, none⟩), .int .i64 tick, .slice A n c] w fun e w' => e = .returned (.int .i64 (kSaveV D fl ml fr mr p hash k tick cells).2.2) ∧ DiskS w' base q (kSaveV D fl ml fr mr p hash k tick cells).1 ∧ KeepAt w' base g ga gb x p hash (kSaveV D fl ml fr mr p hash k tick cells).2.1 ∧ Step mutK base q w w' := by
  have HK := Lib.hid h
  obtain ⟨gs, A1, n1, c1, b1, b2, b3, b4, b5, b6, b7, b8⟩ := h
  obtain ⟨k0, k1, k2, k3, k4, k5, k6⟩ := (show w.cell? ⟨g, 0, none⟩ = some (.pointer (some ⟨gs, 0, none⟩)) ∧ w.cell? ⟨g, 1, none⟩ = some (.slice x.A1 x.n1 x.c1) ∧ w.cell? ⟨g, 2, none⟩ = some (.slice x.A2 x.n2 x.c2) ∧ w.cell? ⟨g, 3, none⟩ = some (.int .i64 p.regs) ∧ w.cell? ⟨g, 4, none⟩ = some (.slice x.A3 x.n3 x.c3) ∧ w.cell? ⟨g, 5, none⟩ = some (.slice x.A4 x.n4 x.c4) ∧ w.cell? ⟨g, 6, none⟩ = some (.int .i64 hash) from ⟨b1.cell 0, b1.cell 1, b1.cell 2, b1.cell 3, b1.cell 4, b1.cell 5, b1.cell 6⟩)
  have hgl := b1.lt
  have B1 := Lib.hid b1
  have S1 := Lib.hid b4
  have I1 := Lib.hid b5
  have P1 := Lib.hid b8
  have HC := Lib.hid hc
  have HD := Lib.hid hd
  have hlen := hc.ri.1
  have HL := Lib.hid hlen
  have hnm : n ≤ maxLen := by unfold maxLen; omega
  clear b1 b4 b5 b8 hc hd hlen
  have hwr0 := fun (W : World) (B : Option Addr) (d : Nat) (h : ProgRd W x p) (hl : RI W B n cells) => statewrite_row x p tick hash B n d cells W h hl hnm hmay
  have hwr1 := fun (W : World) (B : Option Addr) (d : Nat) (h : ProgRd W x p) (hl : RI W B n cells) => statewrite_ok x p tick hash B n d cells W h hl hnm
  have hR : kSaveV D fl ml fr mr p hash k tick cells = if stFits p ⟨tick, hash, cells⟩ = false then (D, k, 41)
      else if (saveSV D fl ml fr mr k.s (stBs ⟨tick, hash, cells⟩)).2.2 ≠ 0 then ((saveSV D fl ml fr mr k.s (stBs ⟨tick, hash, cells⟩)).1, { k with s := (saveSV D fl ml fr mr k.s (stBs ⟨tick, hash, cells⟩)).2.1 }, (saveSV D fl ml fr mr k.s (stBs ⟨tick, hash, cells⟩)).2.2)
      else ((saveSV D fl ml fr mr k.s (stBs ⟨tick, hash, cells⟩)).1, ⟨(saveSV D fl ml fr mr k.s (stBs ⟨tick, hash, cells⟩)).2.1, ⟨tick, hash, cells⟩, true⟩, 0) := rfl
  have HR := Lib.hid hR
  clear hR
  generalize kSaveV D fl ml fr mr p hash k tick cells = R at *
  go_enter Try.func42, Try.ntmps42
  go_upto_region 3 with fail
  go_cut [7] (fun t wx => SvCut w tick hash n cells t wx)
  case first =>
    refine wp_region_held_drew (S := fun w' => w'.cell? ⟨g, 2 + 4, none⟩ = some (.int .i64 hash)) (by kernel_rfl) k6 (fun hHeld => ?_)
    refine wpAnyH_take (i := 0) (v := ?_) rfl (by decide +kernel) (by decide +kernel) (by decide +kernel) (fun _ _ _ h => h) (Or.inl ⟨by rfl, ?_⟩) (by assumption) ?_
    rotate_left 1
    · (intro w hSw; (try dsimp only at hSw); go_simp; try (with_reducible rfl))
    try simp only [List.getElem_toArray, List.getElem_cons_zero, List.getElem_cons_succ, Act.put, List.setIfInBounds_toArray, List.set_cons_zero, List.set_cons_succ]
    refine wpAnyH_take (i := 1) (v := ?_) rfl (by decide +kernel) (by decide +kernel) (by decide +kernel) (fun _ _ _ h => h) (Or.inl ⟨by rfl, ?_⟩) (by assumption) ?_
    rotate_left 1
    · (intro w hSw; (try dsimp only at hSw); go_simp; try (with_reducible rfl))
    try simp only [List.getElem_toArray, List.getElem_cons_zero, List.getElem_cons_succ, Act.put, List.setIfInBounds_toArray, List.set_cons_zero, List.set_cons_succ]
    refine wpAnyH_take (i := 2) (v := ?_) rfl (by decide +kernel) (by decide +kernel) (by decide +kernel) (fun _ _ _ h => h) (Or.inl ⟨by rfl, ?_⟩) (by assumption) ?_
    rotate_left 1
    · (intro w hSw; (try dsimp only at hSw); go_simp; try (with_reducible rfl))
    try simp only [List.getElem_toArray, List.getElem_cons_zero, List.getElem_cons_succ, Act.put, List.setIfInBounds_toArray, List.set_cons_zero, List.set_cons_succ]
    refine wpAnyH_take (i := 3) (v := ?_) rfl (by decide +kernel) (by decide +kernel) (by decide +kernel) (fun _ _ _ h => h) (Or.inl ⟨by rfl, ?_⟩) (by assumption) ?_
    rotate_left 1
    · (intro w hSw; (try dsimp only at hSw); go_simp; try (with_reducible rfl))
    try simp only [List.getElem_toArray, List.getElem_cons_zero, List.getElem_cons_succ, Act.put, List.setIfInBounds_toArray, List.set_cons_zero, List.set_cons_succ]
    refine wpAnyH_take (i := 4) (v := ?_) rfl (by decide +kernel) (by decide +kernel) (by decide +kernel) (fun _ _ _ h => h) (Or.inl ⟨by rfl, ?_⟩) (by assumption) ?_
    rotate_left 1
    · (intro w hSw; (try dsimp only at hSw); go_simp; rfl)
    try simp only [List.getElem_toArray, List.getElem_cons_zero, List.getElem_cons_succ, Act.put, List.setIfInBounds_toArray, List.set_cons_zero, List.set_cons_succ]
    refine wpAnyH_take (i := 6) (v := ?_) rfl (by decide +kernel) (by decide +kernel) (by decide +kernel) (fun _ _ _ h => h) (Or.inl ⟨by rfl, ?_⟩) (by assumption) ?_
    rotate_left 1
    · (intro w hSw; (try dsimp only at hSw); go_simp; try (with_reducible rfl))
    try simp only [List.getElem_toArray, List.getElem_cons_zero, List.getElem_cons_succ, Act.put, List.setIfInBounds_toArray, List.set_cons_zero, List.set_cons_succ]
    refine wpAnyH_ready (rs := [5, 9]) (by decide +kernel) (by simp) ?_
    refine AllReadyH.cons rfl (fun K hK => ?_) (AllReadyH.cons rfl (fun K hK => ?_) AllReadyH.nil)
    · go_simp
      have b1 : Below w.heap.size w (w.alloc (.cells #[] 3)).drew := (by (repeat' (first | (with_reducible exact Below.refl _ _) | (with_reducible assumption) | (with_reducible refine Below.drew ?_) | (with_reducible refine below_drewN ?_ _) | (with_reducible refine Below.alloc ?_ ?_ _) | (with_reducible refine Below.setCell ?_ ?_ _) | omega | (simp; done) | (simp; omega))))
      have e1 : (w.alloc (.cells #[] 3)).drew.cell? ⟨g, 2 + 4, none⟩ = some (.int .i64 hash) := (b1.cell (p := ⟨g, 2 + 4, none⟩) hgl).trans k6
      have o1 : Ow iv (w.alloc (.cells #[] 3)).drew w.heap.size 3 (some ⟨w.heap.size, 0, none⟩) 0 0 [] := (Ow.new w 3 #[] [] rfl (by decide))
      refine hK.out _ _ (e1) (fun hHeld => ?_)
      clear hK K
      try simp only [List.getElem_toArray, List.getElem_cons_zero, List.getElem_cons_succ, Act.put, List.setIfInBounds_toArray, List.set_cons_zero, List.set_cons_succ]
      refine wpAnyH_ready (rs := [7, 9]) (by decide +kernel) (by simp) ?_
      refine AllReadyH.cons rfl (fun K hK => ?_) (AllReadyH.cons rfl (fun K hK => ?_) AllReadyH.nil)
      · refine step_app (α := Int) (enc := iv) rfl rfl elemInt iv_one (s := .tmp 25) (N := n) (L := cells) rfl o1 rfl (k := cells) (HC.out.ri.below (B := w.heap.size) b1 (Nat.le_refl _)).rd (by omega) rfl hnm (by omega) (by simp) ?_
        intro A5 c5 w5 hown5 hg5 hat5 hb5
        have b5 : Below w.heap.size w w5 := b1.trans hb5
        have e5 : w5.cell? ⟨g, 2 + 4, none⟩ = some (.int .i64 hash) := (b5.cell (p := ⟨g, 2 + 4, none⟩) hgl).trans k6
        refine hK.out _ _ (e5) (fun hHeld => ?_)
        clear hK K
        try simp only [List.getElem_toArray, List.getElem_cons_zero, List.getElem_cons_succ, Act.put, List.setIfInBounds_toArray, List.set_cons_zero, List.set_cons_succ]
        refine wpAnyH_take (i := 8) (v := ?_) rfl (by decide +kernel) (by decide +kernel) (by decide +kernel) (fun _ _ _ h => h) (Or.inl ⟨by rfl, ?_⟩) (by assumption) ?_
        rotate_left 1
        · (intro w hSw; (try dsimp only at hSw); go_simp; try (with_reducible rfl))
        try simp only [List.getElem_toArray, List.getElem_cons_zero, List.getElem_cons_succ, Act.put, List.setIfInBounds_toArray, List.set_cons_zero, List.set_cons_succ]
        refine wpAnyH_ready (rs := [9]) (by decide +kernel) (by simp) ?_
        refine AllReadyH.cons rfl (fun K hK => ?_) AllReadyH.nil
        go_simp
        have b6 : Below w.heap.size w (w5.alloc (.cells #[.int .i64 0, .int .i64 0, .slice none 0 0] 98)) := b5.alloc b5.size _
        have e6 := (b6.cell (p := ⟨g, 2 + 4, none⟩) hgl).trans k6
        refine hK.out _ _ (e6) (fun hHeld => ?_)
        clear hK K
        try simp only [List.getElem_toArray, List.getElem_cons_zero, List.getElem_cons_succ, Act.put, List.setIfInBounds_toArray, List.set_cons_zero, List.set_cons_succ]
        refine wpAnyH_ready (rs := [10]) (by decide +kernel) (by simp) ?_
        refine AllReadyH.cons rfl (fun K hK => ?_) AllReadyH.nil
        go_simp
        have b7 : Below w.heap.size w (w5.alloc (.cells #[.int .i64 tick, .int .i64 hash, .slice A5 n c5] 98)) := b5.alloc b5.size _
        have e7 := (b7.cell (p := ⟨g, 2 + 4, none⟩) hgl).trans k6
        refine hK.out _ _ (e7) (fun hHeld => ?_)
        clear hK K
        try simp only [List.getElem_toArray, List.getElem_cons_zero, List.getElem_cons_succ, Act.put, List.setIfInBounds_toArray, List.set_cons_zero, List.set_cons_succ]
        refine wpAnyH_done (by decide +kernel) ?_ _
        go_wp2_with fail
        go_meet
        exact ⟨w5.heap.size, A5, c5, rfl, Blk.top _ rfl rfl, ⟨_, hown5.below (b := w5.heap.size) ((Below.refl _ _).alloc (Nat.le_refl _) _) (Nat.le_refl _)⟩, b7, b5.size⟩
      · go_simp
        have b2 : Below w.heap.size w ((w.alloc (.cells #[] 3)).alloc (.cells #[.int .i64 0, .int .i64 0, .slice none 0 0] 98)).drew := (by (repeat' (first | (with_reducible exact Below.refl _ _) | (with_reducible assumption) | (with_reducible refine Below.drew ?_) | (with_reducible refine below_drewN ?_ _) | (with_reducible refine Below.alloc ?_ ?_ _) | (with_reducible refine Below.setCell ?_ ?_ _) | omega | (simp; done) | (simp; omega))))
        have e2 := (b2.cell (p := ⟨g, 2 + 4, none⟩) hgl).trans k6
        have X2 : Blk ((w.alloc (.cells #[] 3)).alloc (.cells #[.int .i64 0, .int .i64 0, .slice none 0 0] 98)).drew (w.heap.size + 1) 98 [.int .i64 0, .int .i64 0, .slice none 0 0] := Blk.drew (Blk.top _ (by simp) rfl)
        have o2 : Ow iv ((w.alloc (.cells #[] 3)).alloc (.cells #[.int .i64 0, .int .i64 0, .slice none 0 0] 98)).drew w.heap.size 3 (some ⟨w.heap.size, 0, none⟩) 0 0 [] := (Ow.new (enc := iv) w 3 #[] [] rfl (by decide)).below (b := (w.alloc (.cells #[] 3)).heap.size) (Below.drew ((Below.refl _ _).alloc (Nat.le_refl _) _)) (Nat.le_refl _)
        refine hK.out _ _ (e2) (fun hHeld => ?_)
        clear hK K
        try simp only [List.getElem_toArray, List.getElem_cons_zero, List.getElem_cons_succ, Act.put, List.setIfInBounds_toArray, List.set_cons_zero, List.set_cons_succ]
        refine wpAnyH_ready (rs := [7]) (by decide +kernel) (by simp) ?_
        refine AllReadyH.cons rfl (fun K hK => ?_) AllReadyH.nil
        refine step_app (α := Int) (enc := iv) rfl rfl elemInt iv_one (s := .tmp 25) (N := n) (L := cells) rfl o2 rfl (k := cells) (HC.out.ri.below (B := w.heap.size) b2 (Nat.le_refl _)).rd (by omega) rfl hnm (by omega) (by simp; try omega) ?_
        intro A5 c5 w5 hown5 hg5 hat5 hb5
        have b5 : Below w.heap.size w w5 := b2.trans hb5
        have e5 : w5.cell? ⟨g, 2 + 4, none⟩ = some (.int .i64 hash) := (b5.cell (p := ⟨g, 2 + 4, none⟩) hgl).trans k6
        have X5 : Blk w5 (w.heap.size + 1) 98 [.int .i64 0, .int .i64 0, .slice none 0 0] := X2.grown hg5 (by simp)
        obtain ⟨u0, u1, u2⟩ := blk3 X5
        have v0 := X5.frozen 0
        have v1 := X5.frozen 1
        have v2 := X5.frozen 2
        have lx := X5.lt
        refine hK.out _ _ (e5) (fun hHeld => ?_)
        clear hK K
        try simp only [List.getElem_toArray, List.getElem_cons_zero, List.getElem_cons_succ, Act.put, List.setIfInBounds_toArray, List.set_cons_zero, List.set_cons_succ]
        refine wpAnyH_take (i := 8) (v := ?_) rfl (by decide +kernel) (by decide +kernel) (by decide +kernel) (fun _ _ _ h => h) (Or.inl ⟨by rfl, ?_⟩) (by assumption) ?_
        rotate_left 1
        · (intro w hSw; (try dsimp only at hSw); go_simp; try (with_reducible rfl))
        try simp only [List.getElem_toArray, List.getElem_cons_zero, List.getElem_cons_succ, Act.put, List.setIfInBounds_toArray, List.set_cons_zero, List.set_cons_succ]
        refine wpAnyH_ready (rs := [10]) (by decide +kernel) (by simp) ?_
        refine AllReadyH.cons rfl (fun K hK => ?_) AllReadyH.nil
        go_simp
        have b7 : Below w.heap.size w (((w5.setCell ⟨w.heap.size + 1, 0, none⟩ (.int .i64 tick)).setCell ⟨w.heap.size + 1, 1, none⟩ (.int .i64 hash)).setCell ⟨w.heap.size + 1, 2, none⟩ (.slice A5 n c5)) := ((b5.setCell (by simp) _).setCell (by simp) _).setCell (by simp) _
        have e7 := (b7.cell (p := ⟨g, 2 + 4, none⟩) hgl).trans k6
        have X7 := ((X5.set_ 0 (.int .i64 tick)).set_ 1 (.int .i64 hash)).set_ 2 (.slice A5 n c5)
        have o7 := ((hown5.setFar X5 (by decide) 0 (.int .i64 tick)).setFar (X5.set_ 0 (.int .i64 tick)) (by decide) 1 (.int .i64 hash)).setFar ((X5.set_ 0 (.int .i64 tick)).set_ 1 (.int .i64 hash)) (by decide) 2 (.slice A5 n c5)
        refine hK.out _ _ (e7) (fun hHeld => ?_)
        clear hK K
        try simp only [List.getElem_toArray, List.getElem_cons_zero, List.getElem_cons_succ, Act.put, List.setIfInBounds_toArray, List.set_cons_zero, List.set_cons_succ]
        refine wpAnyH_done (by decide +kernel) ?_ _
        go_wp2_with fail
        go_meet
        exact ⟨w.heap.size + 1, A5, c5, rfl, X7, ⟨_, o7⟩, b7, by omega⟩
    · go_simp
      have b1 : Below w.heap.size w (w.alloc (.cells #[.int .i64 0, .int .i64 0, .slice none 0 0] 98)).drew := (by (repeat' (first | (with_reducible exact Below.refl _ _) | (with_reducible assumption) | (with_reducible refine Below.drew ?_) | (with_reducible refine below_drewN ?_ _) | (with_reducible refine Below.alloc ?_ ?_ _) | (with_reducible refine Below.setCell ?_ ?_ _) | omega | (simp; done) | (simp; omega))))
      have e1 := (b1.cell (p := ⟨g, 2 + 4, none⟩) hgl).trans k6
      refine hK.out _ _ (e1) (fun hHeld => ?_)
      clear hK K
      try simp only [List.getElem_toArray, List.getElem_cons_zero, List.getElem_cons_succ, Act.put, List.setIfInBounds_toArray, List.set_cons_zero, List.set_cons_succ]
      refine wpAnyH_ready (rs := [5]) (by decide +kernel) (by simp) ?_
      refine AllReadyH.cons rfl (fun K hK => ?_) AllReadyH.nil
      go_simp
      have b2 : Below w.heap.size w ((w.alloc (.cells #[.int .i64 0, .int .i64 0, .slice none 0 0] 98)).alloc (.cells #[] 3)).drew := (by (repeat' (first | (with_reducible exact Below.refl _ _) | (with_reducible assumption) | (with_reducible refine Below.drew ?_) | (with_reducible refine below_drewN ?_ _) | (with_reducible refine Below.alloc ?_ ?_ _) | (with_reducible refine Below.setCell ?_ ?_ _) | omega | (simp; done) | (simp; omega))))
      have e2 := (b2.cell (p := ⟨g, 2 + 4, none⟩) hgl).trans k6
      have X2 : Blk ((w.alloc (.cells #[.int .i64 0, .int .i64 0, .slice none 0 0] 98)).alloc (.cells #[] 3)).drew w.heap.size 98 [.int .i64 0, .int .i64 0, .slice none 0 0] := Blk.drew ((Blk.top _ rfl rfl).alloc _)
      have o2 : Ow iv ((w.alloc (.cells #[.int .i64 0, .int .i64 0, .slice none 0 0] 98)).alloc (.cells #[] 3)).drew w.heap.size 3 (some ⟨w.heap.size + 1, 0, none⟩) 0 0 [] := by
        have := (Ow.new (enc := iv) (w.alloc (.cells #[.int .i64 0, .int .i64 0, .slice none 0 0] 98)) 3 #[] [] rfl (by decide)).rebase (base' := w.heap.size) (by simp)
        exact Ow.drew' (by simpa using this)
      refine hK.out _ _ (e2) (fun hHeld => ?_)
      clear hK K
      try simp only [List.getElem_toArray, List.getElem_cons_zero, List.getElem_cons_succ, Act.put, List.setIfInBounds_toArray, List.set_cons_zero, List.set_cons_succ]
      refine wpAnyH_ready (rs := [7]) (by decide +kernel) (by simp) ?_
      refine AllReadyH.cons rfl (fun K hK => ?_) AllReadyH.nil
      refine step_app (α := Int) (enc := iv) rfl rfl elemInt iv_one (s := .tmp 25) (N := n) (L := cells) rfl o2 rfl (k := cells) (HC.out.ri.below (B := w.heap.size) b2 (Nat.le_refl _)).rd (by omega) rfl hnm (by omega) (by simp; try omega) ?_
      intro A5 c5 w5 hown5 hg5 hat5 hb5
      have b5 : Below w.heap.size w w5 := b2.trans hb5
      have e5 : w5.cell? ⟨g, 2 + 4, none⟩ = some (.int .i64 hash) := (b5.cell (p := ⟨g, 2 + 4, none⟩) hgl).trans k6
      have X5 : Blk w5 (w.heap.size) 98 [.int .i64 0, .int .i64 0, .slice none 0 0] := X2.grown hg5 (by simp)
      obtain ⟨u0, u1, u2⟩ := blk3 X5
      have v0 := X5.frozen 0
      have v1 := X5.frozen 1
      have v2 := X5.frozen 2
      have lx := X5.lt
      refine hK.out _ _ (e5) (fun hHeld => ?_)
      clear hK K
      try simp only [List.getElem_toArray, List.getElem_cons_zero, List.getElem_cons_succ, Act.put, List.setIfInBounds_toArray, List.set_cons_zero, List.set_cons_succ]
      refine wpAnyH_take (i := 8) (v := ?_) rfl (by decide +kernel) (by decide +kernel) (by decide +kernel) (fun _ _ _ h => h) (Or.inl ⟨by rfl, ?_⟩) (by assumption) ?_
      rotate_left 1
      · (intro w hSw; (try dsimp only at hSw); go_simp; try (with_reducible rfl))
      try simp only [List.getElem_toArray, List.getElem_cons_zero, List.getElem_cons_succ, Act.put, List.setIfInBounds_toArray, List.set_cons_zero, List.set_cons_succ]
      refine wpAnyH_ready (rs := [10]) (by decide +kernel) (by simp) ?_
      refine AllReadyH.cons rfl (fun K hK => ?_) AllReadyH.nil
      go_simp
      have b7 : Below w.heap.size w (((w5.setCell ⟨w.heap.size, 0, none⟩ (.int .i64 tick)).setCell ⟨w.heap.size, 1, none⟩ (.int .i64 hash)).setCell ⟨w.heap.size, 2, none⟩ (.slice A5 n c5)) := ((b5.setCell (by simp) _).setCell (by simp) _).setCell (by simp) _
      have e7 := (b7.cell (p := ⟨g, 2 + 4, none⟩) hgl).trans k6
      have X7 := ((X5.set_ 0 (.int .i64 tick)).set_ 1 (.int .i64 hash)).set_ 2 (.slice A5 n c5)
      have o7 := ((hown5.setFar X5 (by decide) 0 (.int .i64 tick)).setFar (X5.set_ 0 (.int .i64 tick)) (by decide) 1 (.int .i64 hash)).setFar ((X5.set_ 0 (.int .i64 tick)).set_ 1 (.int .i64 hash)) (by decide) 2 (.slice A5 n c5)
      refine hK.out _ _ (e7) (fun hHeld => ?_)
      clear hK K
      try simp only [List.getElem_toArray, List.getElem_cons_zero, List.getElem_cons_succ, Act.put, List.setIfInBounds_toArray, List.set_cons_zero, List.set_cons_succ]
      refine wpAnyH_done (by decide +kernel) ?_ _
      go_wp2_with fail
      go_meet
      exact ⟨w.heap.size, A5, c5, rfl, X7, ⟨_, o7⟩, b7, by omega⟩
  case rest =>
    obtain ⟨gx, A5, c5, rfl, hx5, ⟨b5, ho5⟩, hbel, hgx⟩ := hcut
    have X5 := Lib.hid hx5
    have O5 := Lib.hid ho5
    have K5 := Lib.hid (B1.out.below hbel hgl)
    have S5 := Lib.hid (S1.out.below hbel)
    have I5 := Lib.hid (I1.out.below hbel)
    have P5 := Lib.hid (P1.out.below hbel)
    have D5 := Lib.hid (HD.out.below hbel)
    have AL5 := Lib.hid (show AreaAt wc ga q.d fl ml from Blk.below hal hbel (Blk.lt hal))
    have AR5 := Lib.hid (show AreaAt wc gb q.d fr mr from Blk.below har hbel (Blk.lt har))
    have ST5 := Lib.hid (show Step mutK base q w wc from Step.of_below hbel hs)
    have s5 := hbel.size
    have hgc := K5.out.lt
    have hxc := X5.out.lt
    obtain ⟨y0, y1, y2, y3, y4, y5⟩ := (show wc.cell? ⟨g, 0, none⟩ = some (.pointer (some ⟨gs, 0, none⟩)) ∧ wc.cell? ⟨g, 1, none⟩ = some (.slice x.A1 x.n1 x.c1) ∧ wc.cell? ⟨g, 1 + 1, none⟩ = some (.slice x.A2 x.n2 x.c2) ∧ wc.cell? ⟨g, 1 + 2, none⟩ = some (.int .i64 p.regs) ∧ wc.cell? ⟨g, 1 + 3, none⟩ = some (.slice x.A3 x.n3 x.c3) ∧ wc.cell? ⟨g, 1 + 4, none⟩ = some (.slice x.A4 x.n4 x.c4) from ⟨K5.out.cell 0, K5.out.cell 1, K5.out.cell 2, K5.out.cell 3, K5.out.cell 4, K5.out.cell 5⟩)
    obtain ⟨v0, v1, v2⟩ := blk3 X5.out
    clear hx5 ho5 hbel k0 k1 k2 k3 k4 k5 k6 HK B1 S1 I1 P1 HD hal har HC HL
    cases hf : stFits p ⟨tick, hash, cells⟩ with
    | false =>
      have HR2 := Lib.hid (HR.out.trans (if_pos hf))
      have hwr := fun (W : World) (B : Option Addr) (d : Nat) (h : ProgRd W x p) (hl : RI W B n cells) => hwr0 W B d h hl hf
      clear hwr0 hwr1 hf HR
      go_upto_region 4 with fail
      go_region_held3 (fun w' => w'.cell? ⟨g, 1, none⟩ = some (.slice x.A1 x.n1 x.c1) ∧ w'.cell? ⟨g, 1 + 1, none⟩ = some (.slice x.A2 x.n2 x.c2) ∧ w'.cell? ⟨g, 1 + 2, none⟩ = some (.int .i64 p.regs) ∧ w'.cell? ⟨g, 1 + 3, none⟩ = some (.slice x.A3 x.n3 x.c3) ∧ w'.cell? ⟨g, 1 + 4, none⟩ = some (.slice x.A4 x.n4 x.c4) ∧ w'.cell? ⟨gx, 0, none⟩ = some (.int .i64 tick) ∧ w'.cell? ⟨gx, 1, none⟩ = some (.int .i64 hash) ∧ w'.cell? ⟨gx, 2, none⟩ = some (.slice A5 n c5)) (first | go_keep | (refine ⟨?_, ?_, ?_, ?_, ?_, ?_, ?_, ?_⟩ <;> assumption)) (first
        | ((go_at_call 75; (with_reducible refine (hwr wc.drew _ _ P5.out.rd.drew_ (Ow.drew' O5.out).rd.ri).mono ?_); rintro e w6 ⟨rfl, hb6⟩); have hb56 : Below wc.heap.size wc w6 := (Below.drew (Below.refl _ _)).trans hb6; have K6 := Lib.hid (K5.out.below hb56 hgc); have X6 := Lib.hid (X5.out.below hb56 hxc); obtain ⟨p0, p1, p2, p3, p4, p5⟩ := (show w6.cell? ⟨g, 0, none⟩ = some (.pointer (some ⟨gs, 0, none⟩)) ∧ w6.cell? ⟨g, 1, none⟩ = some (.slice x.A1 x.n1 x.c1) ∧ w6.cell? ⟨g, 1 + 1, none⟩ = some (.slice x.A2 x.n2 x.c2) ∧ w6.cell? ⟨g, 1 + 2, none⟩ = some (.int .i64 p.regs) ∧ w6.cell? ⟨g, 1 + 3, none⟩ = some (.slice x.A3 x.n3 x.c3) ∧ w6.cell? ⟨g, 1 + 4, none⟩ = some (.slice x.A4 x.n4 x.c4) from ⟨K6.out.cell 0, K6.out.cell 1, K6.out.cell 2, K6.out.cell 3, K6.out.cell 4, K6.out.cell 5⟩); obtain ⟨q0, q1, q2⟩ := blk3 X6.out)
        | fail "no arm")
      go_wp2_with fail
      go_ret
      rw [HR2.out]
      exact ⟨rfl, D5.out.below hb56, ⟨gs, A1, n1, c1, K6.out, b2, b3, S5.out.below hb56, I5.out.below hb56, b6, b7, P5.out.below hb56⟩, ST5.out.then_below (hb56.mono s5) hs⟩
    | true =>
      have HR2 := Lib.hid (HR.out.trans (if_neg (by rw [hf]; simp)))
      have hwr := fun (W : World) (B : Option Addr) (d : Nat) (h : ProgRd W x p) (hl : RI W B n cells) => hwr1 W B d h hl hf
      clear hwr0 hwr1 hf HR
      go_upto_region 4 with fail
      go_region_held3 (fun w' => w'.cell? ⟨g, 1, none⟩ = some (.slice x.A1 x.n1 x.c1) ∧ w'.cell? ⟨g, 1 + 1, none⟩ = some (.slice x.A2 x.n2 x.c2) ∧ w'.cell? ⟨g, 1 + 2, none⟩ = some (.int .i64 p.regs) ∧ w'.cell? ⟨g, 1 + 3, none⟩ = some (.slice x.A3 x.n3 x.c3) ∧ w'.cell? ⟨g, 1 + 4, none⟩ = some (.slice x.A4 x.n4 x.c4) ∧ w'.cell? ⟨gx, 0, none⟩ = some (.int .i64 tick) ∧ w'.cell? ⟨gx, 1, none⟩ = some (.int .i64 hash) ∧ w'.cell? ⟨gx, 2, none⟩ = some (.slice A5 n c5)) (first | go_keep | (refine ⟨?_, ?_, ?_, ?_, ?_, ?_, ?_, ?_⟩ <;> assumption)) (first
        | ((go_at_call 75; (with_reducible refine (hwr wc.drew _ _ P5.out.rd.drew_ (Ow.drew' O5.out).rd.ri).mono ?_); rintro e w6 ⟨A6, n6, c6, rfl, ob6, hb6⟩); have hb56 : Below wc.heap.size wc w6 := (Below.drew (Below.refl _ _)).trans hb6; have K6 := Lib.hid (K5.out.below hb56 hgc); have X6 := Lib.hid (X5.out.below hb56 hxc); obtain ⟨p0, p1, p2, p3, p4, p5⟩ := (show w6.cell? ⟨g, 0, none⟩ = some (.pointer (some ⟨gs, 0, none⟩)) ∧ w6.cell? ⟨g, 1, none⟩ = some (.slice x.A1 x.n1 x.c1) ∧ w6.cell? ⟨g, 1 + 1, none⟩ = some (.slice x.A2 x.n2 x.c2) ∧ w6.cell? ⟨g, 1 + 2, none⟩ = some (.int .i64 p.regs) ∧ w6.cell? ⟨g, 1 + 3, none⟩ = some (.slice x.A3 x.n3 x.c3) ∧ w6.cell? ⟨g, 1 + 4, none⟩ = some (.slice x.A4 x.n4 x.c4) from ⟨K6.out.cell 0, K6.out.cell 1, K6.out.cell 2, K6.out.cell 3, K6.out.cell 4, K6.out.cell 5⟩); obtain ⟨q0, q1, q2⟩ := blk3 X6.out)
        | fail "no arm")
      have OB6 := Lib.hid ob6
      have cp6 := ob6.cap
      have hbs6 : base ≤ w6.heap.size := by have := hb56.size; omega
      have S6 := Lib.hid (S5.out.below hb56)
      have D6 := Lib.hid (D5.out.below hb56)
      have I6 := Lib.hid (I5.out.below hb56)
      have P6 := Lib.hid (P5.out.below hb56)
      have O6 := Lib.hid (O5.out.below (b := wc.heap.size) hb56 (Nat.le_refl _))
      have AL6 := Lib.hid (show AreaAt w6 ga q.d fl ml from Blk.below AL5.out hb56 (Blk.lt AL5.out))
      have AR6 := Lib.hid (show AreaAt w6 gb q.d fr mr from Blk.below AR5.out hb56 (Blk.lt AR5.out))
      have ST6 := Lib.hid (ST5.out.then_below (hb56.mono s5) hs)
      have hlb : n6 ≤ 512 ∨ 512 < n6 := by omega
      have hfl6 : (stBs ⟨tick, hash, cells⟩).length = n6 := ob6.rd.1
      have hsv := save_any (load := stBs ⟨tick, hash, cells⟩) (A := A6) (n := n6) (c := c6) S6.out D6.out hbs6 b2 AL6.out AR6.out hml hmr hfl hfr (BytesAt.of_ob OB6.out) cp6.1 cp6.2 hnb hw
      generalize saveSV D fl ml fr mr k.s (stBs ⟨tick, hash, cells⟩) = V at *
      obtain ⟨D', s', z⟩ := V
      simp only at hsv HR2
      clear hb6 hb56 ob6 hwr X5 O5 K5 S5 I5 P5 D5 AL5 AR5 ST5 hlb hfl6
      go_upto_region 8 with (first
        | ((go_at_call 13; (with_reducible refine (hsv).mono ?_); rintro e w7 ⟨rfl, d7, sl7, t7⟩); have D7 := Lib.hid d7; have S7 := Lib.hid sl7; have K7 := Lib.hid (D6.out.blk K6.out t7.tch (by decide)); have X7 := Lib.hid (D6.out.blk X6.out t7.tch (by decide)); have I7 := Lib.hid (I6.out.step D6.out t7 (by decide)); have P7 := Lib.hid (P6.out.step D6.out t7 (by decide) (by decide) (by decide)); have O7 := Lib.hid (D6.out.ow O6.out t7.tch (by decide)); have ST7 := Lib.hid (ST6.out.trans t7.toK); have s7 := t7.size; clear d7 sl7 t7)
        | fail "no arm")
      by_cases hz : z = 0
      · subst hz
        have HR3 := Lib.hid (HR2.out.trans (if_neg (by simp)))
        have hgl7 := K7.out.lt
        obtain ⟨p7, p8, p9, p10⟩ := (show w7.cell? ⟨g, 7, none⟩ = some (.int .i64 k.last.tick) ∧ w7.cell? ⟨g, 8, none⟩ = some (.int .i64 k.last.hash) ∧ w7.cell? ⟨g, 9, none⟩ = some (.slice A1 n1 c1) ∧ w7.cell? ⟨g, 10, none⟩ = some (.bool k.has) from ⟨K7.out.cell 7, K7.out.cell 8, K7.out.cell 9, K7.out.cell 10⟩)
        obtain ⟨t0, t1, t2⟩ := blk3 X7.out
        have f7 := K7.out.frozen 7
        have f8 := K7.out.frozen 8
        have f9 := K7.out.frozen 9
        have f10 := K7.out.frozen 10
        have hbs7 : base ≤ w7.heap.size := by omega
        go_wp2_with fail
        go_ret
        rw [HR3.out]
        obtain ⟨t8, b8, d8⟩ := keep_set4 (q := q) (D := D') K7.out b3 hbs7 (.int .i64 tick) (.int .i64 hash) (.slice A5 n c5) (.bool true)
        have cp7 := O7.out.cap
        exact ⟨rfl, d8 D7.out, ⟨gs, A5, n, c5, b8, b2, b3, S7.out.stepM D7.out t8 (by decide) (by decide), (IntsAt.of_ow O7.out).step D7.out t8 (by decide), cp7.1, cp7.2, P7.out.step D7.out t8 (by decide) (by decide) (by decide)⟩, ST7.out.trans (t8.mono (fun t ht => by rw [List.mem_singleton] at ht; rw [ht]; exact List.mem_cons_self ..))⟩
      · have HR3 := Lib.hid (HR2.out.trans (if_pos hz))
        have hzb : (z != 0) = true := by rw [bne_iff_ne]; exact hz
        clear hz
        go_wp2_with fail
        go_ret
        rw [HR3.out]
        exact ⟨rfl, D7.out, ⟨gs, A1, n1, c1, K7.out, b2, b3, S7.out, I7.out, b6, b7, P7.out⟩, ST7.out⟩
end
end Go.Proofs.Ytalmdccgpigppaa
