/- Parts: DiskO. -/
import Derived.Test.YtalmdccgpigppaaPr29
import Derived.Test.YtalmdccgpigppaaPr27
import Derived.Test.YtalmdccgpigppaaPr24
namespace Go.Proofs.Ytalmdccgpigppaa
open Go.RowKit
set_option linter.unusedVariables false
set_option linter.unusedSimpArgs false
theorem DiskAt.ldS {w : World} {base : Nat} {p : DiskP} {A : Option Addr} {c k : Nat} {D : DiskV} (h : DiskAt w base p A c D) :
    w.cell? ⟨p.d, 0, none⟩ = some (.slice (some ⟨p.gk, 0, none⟩) D.many D.many) ∧ w.cell? ⟨p.d, 1, none⟩ = some (.slice (some ⟨p.gn, 0, none⟩) D.many D.many) ∧ w.cell? ⟨p.d, 2, none⟩ = some (.slice (some ⟨p.gi, 0, none⟩) D.many D.many) ∧
      w.cell? ⟨p.d, 3, none⟩ = some (.slice (some ⟨p.gm, 0, none⟩) D.many D.many) ∧ w.rangeAt p.gk (k * 128) ((secOf D.kept (k : Int)).map bv) :=
  ⟨h.cells.1, h.cells.2.1, h.cells.2.2.1, h.cells.2.2.2.1, h.bk.range (n := 128) (by unfold secOf; rw [Int.toNat_natCast, List.map_take, List.map_drop])⟩
theorem DiskAt.setMight' {w : World} {base : Nat} {p : DiskP} {A : Option Addr} {c : Nat} {D : DiskV} (h : DiskAt w base p A c D) (n : Nat) (b : Bool) {L : List Bool} (hL : D.might.set n b = L) : DiskAt (w.setCell ⟨p.gm, n, none⟩ (.bool b)) base p A c { D with might := L } := by subst hL; exact h.setMight n b
theorem DiskAt.setIn' {w : World} {base : Nat} {p : DiskP} {A : Option Addr} {c : Nat} {D : DiskV} (h : DiskAt w base p A c D) (n : Nat) (b : Bool) {L : List Bool} (hL : D.inuse.set n b = L) : DiskAt (w.setCell ⟨p.gi, n, none⟩ (.bool b)) base p A c { D with inuse := L } := by subst hL; exact h.setIn n b
def LdPost (w : World) (D : DiskV) (e : Ending) (w' : World) : Prop := ∃ p, e = .returned (.tuple #[.pointer (some ⟨p.d, 0, none⟩), .int .i64 0]) ∧ DiskS w' w.heap.size p D ∧ Below w.heap.size w w'
set_option maxRecDepth 100000 in
set_option maxHeartbeats 20000000 in
theorem load_ok (B : Option Addr) (n d : Nat) (img : List UInt8) (many : Nat) (room : Int) (w : World) (hr : RB w B n img) (hnd : n ≤ d) (h0 : 1 ≤ many) (h1 : many ≤ 4096) (r0 : 0 ≤ room) (r1 : room ≤ many) (hl : n ≤ many * 128) (hu : (usedN img : Int) ≤ room) :
    Calls Try.prog 45 #[.slice B n d, .int .i64 (many : Int), .int .i64 room] w (LdPost w (loadD many room img (usedN img))) := by
  have hnew := new_ok many room w h0 h1 r0 r1
  rw [← loadD_zero many room img] at hnew
  have hlen := hr.1
  have hus : usedN img = (n + 127) / 128 := by unfold usedN; rw [hlen]
  obtain ⟨N, hN⟩ : ∃ N, N = usedN img := ⟨_, rfl⟩
  rw [← hN] at hu hus ⊢
  have HN := Lib.hid hN
  have hNm : N ≤ many := by omega
  have hq : ((n : Int) + 127) / 128 = (N : Int) := by omega
  clear hN
  go_enter Try.func45, Try.ntmps45
  go_wp2_with (first
    | ((go_at_call 78; (with_reducible refine (hnew).mono ?_); rintro e w1 ⟨p, rfl, hd1, hb1⟩); have H1 := Lib.hid hd1; have s1 := hb1.size; clear hd1)
    | fail "no arm")
  go_loopw [11, 37] (fun _ i wr => ∃ k : Nat, k ≤ N ∧ i = .int .i64 (k : Nat) ∧ DiskAt wr w.heap.size p none 0 (loadD many room img k) ∧ Below w.heap.size w wr) (fun _ i _ => N - (intOf i).toNat)
  case atStart => exact ⟨0, by omega, rfl, H1.out, hb1⟩
  case round =>
    obtain ⟨k, hk, rfl, hX, hbel⟩ := hrel
    by_cases hlt : k < N
    · have hkn : k * 128 < n := by omega
      have hkm : k < many := by omega
      have hkI : (k : Int) < N := by omega
      have hkI2 : (k : Int) < many := by omega
      have hbs := hbel.size
      obtain ⟨X, hXe⟩ : ∃ X, X = (if d = k * 128 then B else B.map (·.add (k * 128))) := ⟨_, rfl⟩
      obtain ⟨C, hC⟩ : ∃ C, C = d - k * 128 := ⟨_, rfl⟩
      have hcut : ∀ W : World, (Instr.slice 26 (.slice B n d) (some (.int .i64 ((k : Int) * 128))) none none).run Try.prog W = .ok (.slice X (n - k * 128) C) W := fun W => by
        have := run_cut_from (P := Try.prog) elemU8 B n d (k * 128) (by omega) W
        rw [Nat.mul_one, ← hXe, ← hC] at this
        rw [← this]; rfl
      have hrX : RB wr X (n - k * 128) (img.drop (k * 128)) := by
        have hrw := hr.below hbel (Nat.le_refl _)
        refine ⟨by rw [List.length_drop, hlen], ?_⟩
        rw [hXe]
        exact (Row.cut hrw.2 (by omega) hnd).congr fun i hi => by
          unfold byteAt
          rw [List.getD_eq_getElem?_getD, List.getD_eq_getElem?_getD, List.getElem?_drop]
      have hfirst := Lib.hid (imgK_succ (many := many) (k := k) (by rw [hlen]; exact hl) (by rw [hlen]; exact hkn))
      have hsec := Lib.hid (imgK_sec (img := img) (many := many) (k := k) (by rw [hlen]; exact hl) hkm)
      have htr := Lib.hid (trueK_succ hkm)
      have hli := Lib.hid (imgK_len (img := img) (many := many) (k := k + 1) (by rw [hlen]; exact hl))
      have e0 := hX.cells.1
      have hcut1 := fun o => run_slice_all (P := Try.prog) Try.underlying128 (by kernel_rfl) p.gk o
      have hwr : Hid (IntKind.i64.wrap ((k : Int) * 128) = (k : Int) * 128) := by show _ = _; go_arith
      have HX := Lib.hid hX
      have HR := Lib.hid hrX
      have Hi := Lib.hid (zero_of_info zero128).2
      change wr.cell? _ = some (.slice (some ⟨p.gk, 0, none⟩) many many) at e0
      clear hX hXe hC hrX hus
      go_wp2
      refine wp_region_held_drew (S := fun w' => w'.cell? ⟨p.d, 0, none⟩ = some (.slice (some ⟨p.gk, 0, none⟩) many many)) (by kernel_rfl) e0 (fun hHeld => ?_)
      refine wpAnyH_take (i := 0) (v := ?_) rfl (by decide +kernel) (by decide +kernel) (by decide +kernel) (fun _ _ _ h => h) (Or.inl ⟨by rfl, ?_⟩) (by assumption) ?_
      rotate_left 1
      · (intro w hSw; (try dsimp only at hSw); go_simp; try (with_reducible rfl))
      try simp only [List.getElem_toArray, List.getElem_cons_zero, List.getElem_cons_succ, Act.put, List.setIfInBounds_toArray, List.set_cons_zero, List.set_cons_succ]
      refine wpAnyH_take (i := 1) (v := ?_) rfl (by decide +kernel) (by decide +kernel) (by decide +kernel) (fun _ _ _ h => h) (Or.inl ⟨by rfl, ?_⟩) (by assumption) ?_
      rotate_left 1
      · (intro w hSw; (try dsimp only at hSw); go_simp; try (with_reducible rfl))
      try simp only [List.getElem_toArray, List.getElem_cons_zero, List.getElem_cons_succ, Act.put, List.setIfInBounds_toArray, List.set_cons_zero, List.set_cons_succ]
      refine wpAnyH_take (i := 2) (v := ?_) rfl (by decide +kernel) (by decide +kernel) (by decide +kernel) (fun _ _ _ h => h) (Or.inl ⟨by rfl, ?_⟩) (by assumption) ?_
      rotate_left 1
      · (intro w hSw; (try dsimp only at hSw); go_simp; try (with_reducible rfl))
      try simp only [List.getElem_toArray, List.getElem_cons_zero, List.getElem_cons_succ, Act.put, List.setIfInBounds_toArray, List.set_cons_zero, List.set_cons_succ]
      refine wpAnyH_take (i := 3) (v := ?_) rfl (by decide +kernel) (by decide +kernel) (by decide +kernel) (fun _ _ _ h => h) (Or.inl ⟨by rfl, ?_⟩) (by assumption) ?_
      rotate_left 1
      · (intro w hSw; (try dsimp only at hSw); go_simp; try (with_reducible rfl))
      try simp only [List.getElem_toArray, List.getElem_cons_zero, List.getElem_cons_succ, Act.put, List.setIfInBounds_toArray, List.set_cons_zero, List.set_cons_succ]
      refine wpAnyH_take (i := 4) (v := ?_) rfl (by decide +kernel) (by decide +kernel) (by decide +kernel) (fun _ _ _ h => h) (Or.inl ⟨by rfl, ?_⟩) (by assumption) ?_
      rotate_left 1
      · (intro w hSw; (try dsimp only at hSw); go_simp; try (with_reducible rfl))
      try simp only [List.getElem_toArray, List.getElem_cons_zero, List.getElem_cons_succ, Act.put, List.setIfInBounds_toArray, List.set_cons_zero, List.set_cons_succ]
      refine wpAnyH_take (i := 5) (v := ?_) rfl (by decide +kernel) (by decide +kernel) (by decide +kernel) (fun _ _ _ h => h) (Or.inl ⟨by rfl, ?_⟩) (by assumption) ?_
      rotate_left 1
      · (intro w hSw; (try dsimp only at hSw); go_simp; try (with_reducible rfl))
      try simp only [List.getElem_toArray, List.getElem_cons_zero, List.getElem_cons_succ, Act.put, List.setIfInBounds_toArray, List.set_cons_zero, List.set_cons_succ]
      refine wpAnyH_take (i := 6) (v := ?_) rfl (by decide +kernel) (by decide +kernel) (by decide +kernel) (fun _ _ _ h => h) (Or.inl ⟨by rfl, ?_⟩) (by assumption) ?_
      rotate_left 1
      · (intro w hSw; (try dsimp only at hSw); go_simp; try (with_reducible rfl))
      try simp only [List.getElem_toArray, List.getElem_cons_zero, List.getElem_cons_succ, Act.put, List.setIfInBounds_toArray, List.set_cons_zero, List.set_cons_succ]
      refine wpAnyH_take (i := 7) (v := ?_) rfl (by decide +kernel) (by decide +kernel) (by decide +kernel) (fun _ _ _ h => h) (Or.inl ⟨by rfl, ?_⟩) (by assumption) ?_
      rotate_left 1
      · (intro w hSw; (try dsimp only at hSw); go_simp; try (with_reducible rfl))
      try simp only [List.getElem_toArray, List.getElem_cons_zero, List.getElem_cons_succ, Act.put, List.setIfInBounds_toArray, List.set_cons_zero, List.set_cons_succ]
      refine wpAnyH_take (i := 8) (v := ?_) rfl (by decide +kernel) (by decide +kernel) (by decide +kernel) (fun _ _ _ h => h) (Or.inl ⟨by rfl, ?_⟩) (by assumption) ?_
      rotate_left 1
      · (intro w hSw; (try dsimp only at hSw); go_simp; try (with_reducible rfl))
      try simp only [List.getElem_toArray, List.getElem_cons_zero, List.getElem_cons_succ, Act.put, List.setIfInBounds_toArray, List.set_cons_zero, List.set_cons_succ]
      refine wpAnyH_take (i := 9) (v := ?_) rfl (by decide +kernel) (by decide +kernel) (by decide +kernel) (fun _ _ _ h => h) (Or.inl ⟨by rfl, ?_⟩) (by assumption) ?_
      rotate_left 1
      · (intro w hSw; (try dsimp only at hSw); go_simp; simp only [hwr.out]; rfl)
      try simp only [List.getElem_toArray, List.getElem_cons_zero, List.getElem_cons_succ, Act.put, List.setIfInBounds_toArray, List.set_cons_zero, List.set_cons_succ]
      refine wpAnyH_take (i := 10) (v := ?_) rfl (by decide +kernel) (by decide +kernel) (by decide +kernel) (fun _ _ _ h => h) (Or.inl ⟨by rfl, ?_⟩) (by assumption) ?_
      rotate_left 1
      · (intro w hSw; (try dsimp only at hSw); go_simp; try (with_reducible rfl))
      try simp only [List.getElem_toArray, List.getElem_cons_zero, List.getElem_cons_succ, Act.put, List.setIfInBounds_toArray, List.set_cons_zero, List.set_cons_succ]
      refine wpAnyH_ready (rs := [11]) (by decide +kernel) (by simp) ?_
      refine AllReadyH.cons rfl (fun K hK => ?_) AllReadyH.nil
      have HXd := Lib.hid (HX.out.drewN 1 : DiskAt wr.drew w.heap.size p none 0 _)
      refine step_copy_rd rfl rfl elemU8 bv_one (dLen := 128) (dCap := 128) (off := k * 128) (l := imgK img many k) (k := img.drop (k * 128)) (L := imgK img many (k + 1)) rfl rfl (fun _ => rfl) HXd.out.bk (Rd.drew' HR.out.rd) (by rw [imgK_len (by rw [hlen]; exact hl)]; omega) hfirst.out ?_
      intro w2 hb2 hg2 hs2
      have h2 := HXd.out.turnKept (w' := w2) (Keep.one hg2) hb2 hli.out
      have b2 : Below w.heap.size w w2 := (Below.drew hbel).trans (HXd.out.belowK ((Keep.one hg2).mono (fun g _ e => .inr (.inl e))) hbs)
      have e02 := h2.cells.1
      change w2.cell? _ = some (.slice (some ⟨p.gk, 0, none⟩) many many) at e02
      have H2 := Lib.hid h2
      clear h2
      refine hK.out _ _ (e02) (fun hHeld => ?_)
      clear hK K
      try simp only [List.getElem_toArray, List.getElem_cons_zero, List.getElem_cons_succ, Act.put, List.setIfInBounds_toArray, List.set_cons_zero, List.set_cons_succ]
      refine wpAnyH_done (by decide +kernel) ?_ _
      have hks2 := w2.heap.size
      obtain ⟨f0, f1, f2, f3, f4⟩ := H2.out.ldS (k := k)
      have hsl : Hid (((secOf (imgK img many (k + 1)) (k : Int)).map bv).length = 128) := by show _ = _; rw [List.length_map, secOf_len (s := many) hli.out (by omega) (by omega)]
      have hsm := Lib.hid (mem_bv (l := secOf (imgK img many (k + 1)) (k : Int)))
      change w2.cell? _ = some (.slice (some ⟨p.gk, 0, none⟩) many many) at f0
      change w2.cell? _ = some (.slice (some ⟨p.gn, 0, none⟩) many many) at f1
      change w2.cell? _ = some (.slice (some ⟨p.gi, 0, none⟩) many many) at f2
      change w2.cell? _ = some (.slice (some ⟨p.gm, 0, none⟩) many many) at f3
      change w2.rangeAt p.gk (k * 128) ((secOf (imgK img many (k + 1)) (k : Int)).map bv) at f4
      obtain ⟨SV, hSV⟩ : ∃ SV, SV = (secOf (imgK img many (k + 1)) (k : Int)).map bv := ⟨_, rfl⟩
      rw [← hSV] at hsl hsm f4
      have HSV := Lib.hid hSV
      clear hSV
      go_wp2
      refine wp_region_held_drew (S := fun w' => w'.cell? ⟨p.d, 0, none⟩ = some (.slice (some ⟨p.gk, 0, none⟩) many many) ∧ w'.cell? ⟨p.d, 1, none⟩ = some (.slice (some ⟨p.gn, 0, none⟩) many many) ∧ w'.cell? ⟨p.d, 2, none⟩ = some (.slice (some ⟨p.gi, 0, none⟩) many many) ∧ w'.cell? ⟨p.d, 3, none⟩ = some (.slice (some ⟨p.gm, 0, none⟩) many many) ∧ w'.rangeAt p.gk (k * 128) SV) (by kernel_rfl) ⟨f0, f1, f2, f3, f4⟩ (fun hHeld => ?_)
      refine wpAnyH_take (i := 0) (v := ?_) rfl (by decide +kernel) (by decide +kernel) (by decide +kernel) (fun _ _ _ h => h) (Or.inl ⟨by rfl, ?_⟩) (by assumption) ?_
      rotate_left 1
      · (intro w hSw; (try dsimp only at hSw); go_simp; try (with_reducible rfl))
      try simp only [List.getElem_toArray, List.getElem_cons_zero, List.getElem_cons_succ, Act.put, List.setIfInBounds_toArray, List.set_cons_zero, List.set_cons_succ]
      refine wpAnyH_take (i := 1) (v := ?_) rfl (by decide +kernel) (by decide +kernel) (by decide +kernel) (fun _ _ _ h => h) (Or.inl ⟨by rfl, ?_⟩) (by assumption) ?_
      rotate_left 1
      · (intro w hSw; (try dsimp only at hSw); go_simp; try (with_reducible rfl))
      try simp only [List.getElem_toArray, List.getElem_cons_zero, List.getElem_cons_succ, Act.put, List.setIfInBounds_toArray, List.set_cons_zero, List.set_cons_succ]
      refine wpAnyH_take (i := 2) (v := ?_) rfl (by decide +kernel) (by decide +kernel) (by decide +kernel) (fun _ _ _ h => h) (Or.inl ⟨by rfl, ?_⟩) (by assumption) ?_
      rotate_left 1
      · (intro w hSw; (try dsimp only at hSw); go_simp; try (with_reducible rfl))
      try simp only [List.getElem_toArray, List.getElem_cons_zero, List.getElem_cons_succ, Act.put, List.setIfInBounds_toArray, List.set_cons_zero, List.set_cons_succ]
      refine wpAnyH_take (i := 3) (v := ?_) rfl (by decide +kernel) (by decide +kernel) (by decide +kernel) (fun _ _ _ h => h) (Or.inl ⟨by rfl, ?_⟩) (by assumption) ?_
      rotate_left 1
      · (intro w hSw; (try dsimp only at hSw); obtain ⟨s0, s1, s2, s3, s4⟩ := hSw; go_simp; rfl)
      try simp only [List.getElem_toArray, List.getElem_cons_zero, List.getElem_cons_succ, Act.put, List.setIfInBounds_toArray, List.set_cons_zero, List.set_cons_succ]
      refine wpAnyH_take (i := 4) (v := ?_) rfl (by decide +kernel) (by decide +kernel) (by decide +kernel) (fun _ _ _ h => h) (Or.inl ⟨by rfl, ?_⟩) (by assumption) ?_
      rotate_left 1
      · (intro w hSw; (try dsimp only at hSw); go_simp; try (with_reducible rfl))
      try simp only [List.getElem_toArray, List.getElem_cons_zero, List.getElem_cons_succ, Act.put, List.setIfInBounds_toArray, List.set_cons_zero, List.set_cons_succ]
      refine wpAnyH_take (i := 5) (v := ?_) rfl (by decide +kernel) (by decide +kernel) (by decide +kernel) (fun _ _ _ h => h) (Or.inl ⟨by rfl, ?_⟩) (by assumption) ?_
      rotate_left 1
      · (intro w hSw; (try dsimp only at hSw); go_simp; try (with_reducible rfl))
      try simp only [List.getElem_toArray, List.getElem_cons_zero, List.getElem_cons_succ, Act.put, List.setIfInBounds_toArray, List.set_cons_zero, List.set_cons_succ]
      refine wpAnyH_take (i := 6) (v := ?_) rfl (by decide +kernel) (by decide +kernel) (by decide +kernel) (fun _ _ _ h => h) (Or.inl ⟨by rfl, ?_⟩) (by assumption) ?_
      rotate_left 1
      · (intro w hSw; (try dsimp only at hSw); go_simp; try (with_reducible rfl))
      try simp only [List.getElem_toArray, List.getElem_cons_zero, List.getElem_cons_succ, Act.put, List.setIfInBounds_toArray, List.set_cons_zero, List.set_cons_succ]
      refine wpAnyH_take (i := 7) (v := ?_) rfl (by decide +kernel) (by decide +kernel) (by decide +kernel) (fun _ _ _ h => h) (Or.inl ⟨by rfl, ?_⟩) (by assumption) ?_
      rotate_left 1
      · (intro w hSw; (try dsimp only at hSw); go_simp; try (with_reducible rfl))
      try simp only [List.getElem_toArray, List.getElem_cons_zero, List.getElem_cons_succ, Act.put, List.setIfInBounds_toArray, List.set_cons_zero, List.set_cons_succ]
      refine wpAnyH_take (i := 8) (v := ?_) rfl (by decide +kernel) (by decide +kernel) (by decide +kernel) (fun _ _ _ h => h) (Or.inl ⟨by rfl, ?_⟩) (by assumption) ?_
      rotate_left 1
      · (intro w hSw; (try dsimp only at hSw); obtain ⟨s0, s1, s2, s3, s4⟩ := hSw; go_simp; rfl)
      try simp only [List.getElem_toArray, List.getElem_cons_zero, List.getElem_cons_succ, Act.put, List.setIfInBounds_toArray, List.set_cons_zero, List.set_cons_succ]
      refine wpAnyH_take (i := 9) (v := ?_) rfl (by decide +kernel) (by decide +kernel) (by decide +kernel) (fun _ _ _ h => h) (Or.inl ⟨by rfl, ?_⟩) (by assumption) ?_
      rotate_left 1
      · (intro w hSw; (try dsimp only at hSw); go_simp; try (with_reducible rfl))
      try simp only [List.getElem_toArray, List.getElem_cons_zero, List.getElem_cons_succ, Act.put, List.setIfInBounds_toArray, List.set_cons_zero, List.set_cons_succ]
      refine wpAnyH_take (i := 10) (v := ?_) rfl (by decide +kernel) (by decide +kernel) (by decide +kernel) (fun _ _ _ h => h) (Or.inl ⟨by rfl, ?_⟩) (by assumption) ?_
      rotate_left 1
      · (intro w hSw; (try dsimp only at hSw); go_simp; try (with_reducible rfl))
      try simp only [List.getElem_toArray, List.getElem_cons_zero, List.getElem_cons_succ, Act.put, List.setIfInBounds_toArray, List.set_cons_zero, List.set_cons_succ]
      refine wpAnyH_take (i := 11) (v := ?_) rfl (by decide +kernel) (by decide +kernel) (by decide +kernel) (fun _ _ _ h => h) (Or.inl ⟨by rfl, ?_⟩) (by assumption) ?_
      rotate_left 1
      · (intro w hSw; (try dsimp only at hSw); go_simp; try (with_reducible rfl))
      try simp only [List.getElem_toArray, List.getElem_cons_zero, List.getElem_cons_succ, Act.put, List.setIfInBounds_toArray, List.set_cons_zero, List.set_cons_succ]
      refine wpAnyH_take (i := 12) (v := ?_) rfl (by decide +kernel) (by decide +kernel) (by decide +kernel) (fun _ _ _ h => h) (Or.inl ⟨by rfl, ?_⟩) (by assumption) ?_
      rotate_left 1
      · (intro w hSw; (try dsimp only at hSw); go_simp; try (with_reducible rfl))
      try simp only [List.getElem_toArray, List.getElem_cons_zero, List.getElem_cons_succ, Act.put, List.setIfInBounds_toArray, List.set_cons_zero, List.set_cons_succ]
      refine wpAnyH_take (i := 13) (v := ?_) rfl (by decide +kernel) (by decide +kernel) (by decide +kernel) (fun _ _ _ h => h) (Or.inl ⟨by rfl, ?_⟩) (by assumption) ?_
      rotate_left 1
      · (intro w hSw; (try dsimp only at hSw); obtain ⟨s0, s1, s2, s3, s4⟩ := hSw; go_simp; rfl)
      try simp only [List.getElem_toArray, List.getElem_cons_zero, List.getElem_cons_succ, Act.put, List.setIfInBounds_toArray, List.set_cons_zero, List.set_cons_succ]
      refine wpAnyH_take (i := 14) (v := ?_) rfl (by decide +kernel) (by decide +kernel) (by decide +kernel) (fun _ _ _ h => h) (Or.inl ⟨by rfl, ?_⟩) (by assumption) ?_
      rotate_left 1
      · (intro w hSw; (try dsimp only at hSw); go_simp; try (with_reducible rfl))
      try simp only [List.getElem_toArray, List.getElem_cons_zero, List.getElem_cons_succ, Act.put, List.setIfInBounds_toArray, List.set_cons_zero, List.set_cons_succ]
      refine wpAnyH_take (i := 15) (v := ?_) rfl (by decide +kernel) (by decide +kernel) (by decide +kernel) (fun _ _ _ h => h) (Or.inl ⟨by rfl, ?_⟩) (by assumption) ?_
      rotate_left 1
      · (intro w hSw; (try dsimp only at hSw); go_simp; try (with_reducible rfl))
      try simp only [List.getElem_toArray, List.getElem_cons_zero, List.getElem_cons_succ, Act.put, List.setIfInBounds_toArray, List.set_cons_zero, List.set_cons_succ]
      refine wpAnyH_take (i := 16) (v := ?_) rfl (by decide +kernel) (by decide +kernel) (by decide +kernel) (fun _ _ _ h => h) (Or.inl ⟨by rfl, ?_⟩) (by assumption) ?_
      rotate_left 1
      · (intro w hSw; (try dsimp only at hSw); go_simp; try (with_reducible rfl))
      try simp only [List.getElem_toArray, List.getElem_cons_zero, List.getElem_cons_succ, Act.put, List.setIfInBounds_toArray, List.set_cons_zero, List.set_cons_succ]
      refine wpAnyH_take (i := 17) (v := ?_) rfl (by decide +kernel) (by decide +kernel) (by decide +kernel) (fun _ _ _ h => h) (Or.inl ⟨by rfl, ?_⟩) (by assumption) ?_
      rotate_left 1
      · (intro w hSw; (try dsimp only at hSw); go_simp; try (with_reducible rfl))
      try simp only [List.getElem_toArray, List.getElem_cons_zero, List.getElem_cons_succ, Act.put, List.setIfInBounds_toArray, List.set_cons_zero, List.set_cons_succ]
      refine wpAnyH_take (i := 18) (v := ?_) rfl (by decide +kernel) (by decide +kernel) (by decide +kernel) (fun _ _ _ h => h) (Or.inl ⟨by rfl, ?_⟩) (by assumption) ?_
      rotate_left 1
      · (intro w hSw; (try dsimp only at hSw); obtain ⟨s0, s1, s2, s3, s4⟩ := hSw; go_simp; rfl)
      try simp only [List.getElem_toArray, List.getElem_cons_zero, List.getElem_cons_succ, Act.put, List.setIfInBounds_toArray, List.set_cons_zero, List.set_cons_succ]
      refine wpAnyH_take (i := 19) (v := ?_) rfl (by decide +kernel) (by decide +kernel) (by decide +kernel) (fun _ _ _ h => h) (Or.inl ⟨by rfl, ?_⟩) (by assumption) ?_
      rotate_left 1
      · (intro w hSw; (try dsimp only at hSw); go_simp; try (with_reducible rfl))
      try simp only [List.getElem_toArray, List.getElem_cons_zero, List.getElem_cons_succ, Act.put, List.setIfInBounds_toArray, List.set_cons_zero, List.set_cons_succ]
      refine wpAnyH_take (i := 20) (v := ?_) rfl (by decide +kernel) (by decide +kernel) (by decide +kernel) (fun _ _ _ h => h) (Or.inl ⟨by rfl, ?_⟩) (by assumption) ?_
      rotate_left 1
      · (intro w hSw; (try dsimp only at hSw); go_simp; try (with_reducible rfl))
      try simp only [List.getElem_toArray, List.getElem_cons_zero, List.getElem_cons_succ, Act.put, List.setIfInBounds_toArray, List.set_cons_zero, List.set_cons_succ]
      refine wpAnyH_take (i := 21) (v := _) rfl (by decide +kernel) (by decide +kernel) (by decide +kernel) (fun _ _ _ h => h) (yieldsIf_load_mid (by rfl) _ _ rfl _ _ rfl SV _ (fun _ h => h.2.2.2.2) Try.underlying128 rfl (by rw [hsl.out]; exact Hi.out)) (by assumption) ?_
      try simp only [List.getElem_toArray, List.getElem_cons_zero, List.getElem_cons_succ, Act.put, List.setIfInBounds_toArray, List.set_cons_zero, List.set_cons_succ]
      refine wpAnyH_take (i := 22) (v := ?_) rfl (by decide +kernel) (by decide +kernel) (by decide +kernel) (fun _ _ _ h => h) (Or.inl ⟨by rfl, ?_⟩) (by assumption) ?_
      rotate_left 1
      · (intro w hSw; (try dsimp only at hSw); go_simp; try (with_reducible rfl))
      try simp only [List.getElem_toArray, List.getElem_cons_zero, List.getElem_cons_succ, Act.put, List.setIfInBounds_toArray, List.set_cons_zero, List.set_cons_succ]
      refine wpAnyH_ready (rs := [23]) (by decide +kernel) (by simp) ?_
      refine AllReadyH.cons rfl (fun K hK => ?_) AllReadyH.nil
      rw [if_pos (by rfl)]
      refine wp_store_mid 128 (.tmp 74) (.tmp 73) rfl p.gn (k * 128) SV.toArray rfl rfl (by rw [List.size_toArray, hsl.out]; exact (H2.out.drewN 1).bn.there (k * 128) 128 (by rw [List.length_map]; show k * 128 + 128 ≤ (imgK img many k).length; rw [imgK_len (by rw [hlen]; exact hl)]; omega)) (by rw [List.size_toArray, hsl.out]; exact Hi.out) (all_oneCell_toArray hsm.out) ?_
      have hD3 : DiskAt w2.drew w.heap.size p none 0 _ := H2.out.drewN 1
      have hbn3 := Blk.setCells SV (k * 128) w2.drew _ hD3.bn (by rw [List.length_map, hsl.out]; show k * 128 + 128 ≤ (imgK img many k).length; rw [imgK_len (by rw [hlen]; exact hl)]; omega)
      have kn3 : Keep (· = p.gn) w2.drew (w2.drew.setCells p.gn (k * 128) SV) := Keep.one (grown_setCells _ _ _ _)
      rw [HSV.out] at hbn3
      have hspl : splice (((imgK img many k)).map bv) (k * 128) ((secOf (imgK img many (k + 1)) (k : Int)).map bv) = (imgK img many (k + 1)).map bv := by rw [splice_map, hsec.out]
      have h3 := DiskAt.turnNow (w' := w2.drew.setCells p.gn (k * 128) SV) (l := imgK img many (k + 1)) hD3 kn3 (by rw [HSV.out]; unfold BlkB; rw [← hspl]; exact hbn3) hli.out
      obtain ⟨f0, f1, f2, f3, f4⟩ := h3.ldS (k := k)
      change (w2.drew.setCells p.gn (k * 128) SV).rangeAt p.gk (k * 128) ((secOf (imgK img many (k + 1)) (k : Int)).map bv) at f4
      rw [← HSV.out] at f4
      have b3 : Below w.heap.size w (w2.drew.setCells p.gn (k * 128) SV) := (Below.drew b2).trans (hD3.belowK (kn3.mono (fun g _ e => .inr (.inr (.inl e)))) (show w.heap.size ≤ w2.heap.size from b2.size))
      have H3 := Lib.hid h3
      have B3 := Lib.hid b3
      simp only [List.toList_toArray]
      clear h3 b3 hbn3 hspl
      generalize w2.drew.setCells p.gn (k * 128) SV = w3 at *
      refine hK.out _ _ (⟨f0, f1, f2, f3, f4⟩) (fun hHeld => ?_)
      clear hK K
      try simp only [List.getElem_toArray, List.getElem_cons_zero, List.getElem_cons_succ, Act.put, List.setIfInBounds_toArray, List.set_cons_zero, List.set_cons_succ]
      refine wpAnyH_take (i := 24) (v := ?_) rfl (by decide +kernel) (by decide +kernel) (by decide +kernel) (fun _ _ _ h => h) (Or.inl ⟨by rfl, ?_⟩) (by assumption) ?_
      rotate_left 1
      · (intro w hSw; (try dsimp only at hSw); go_simp; try (with_reducible rfl))
      try simp only [List.getElem_toArray, List.getElem_cons_zero, List.getElem_cons_succ, Act.put, List.setIfInBounds_toArray, List.set_cons_zero, List.set_cons_succ]
      refine wpAnyH_ready (rs := [25]) (by decide +kernel) (by simp) ?_
      refine AllReadyH.cons rfl (fun K hK => ?_) AllReadyH.nil
      have ei := boolCell H3.out.bi k (show k < (trueK many k).length by rw [trueK_len (by omega)]; omega)
      have fi := H3.out.bi.frozen k
      go_simp
      have h4 := H3.out.setIn' k true (L := trueK many (k + 1)) htr.out
      obtain ⟨f0, f1, f2, f3, f4⟩ := h4.ldS (k := k)
      change (w3.setCell ⟨p.gi, k, none⟩ (.bool true)).rangeAt p.gk (k * 128) ((secOf (imgK img many (k + 1)) (k : Int)).map bv) at f4
      rw [← HSV.out] at f4
      have H4 := Lib.hid h4
      have hg0 := H3.out.bs p.gi (.inr (.inr (.inr (.inl rfl))))
      have B4 := Lib.hid (Below.setCell B3.out (p := ⟨p.gi, k, none⟩) hg0 (.bool true))
      clear h4
      refine hK.out _ _ (⟨f0, f1, f2, f3, f4⟩) (fun hHeld => ?_)
      clear hK K
      try simp only [List.getElem_toArray, List.getElem_cons_zero, List.getElem_cons_succ, Act.put, List.setIfInBounds_toArray, List.set_cons_zero, List.set_cons_succ]
      refine wpAnyH_take (i := 26) (v := ?_) rfl (by decide +kernel) (by decide +kernel) (by decide +kernel) (fun _ _ _ h => h) (Or.inl ⟨by rfl, ?_⟩) (by assumption) ?_
      rotate_left 1
      · (intro w hSw; (try dsimp only at hSw); go_simp; try (with_reducible rfl))
      try simp only [List.getElem_toArray, List.getElem_cons_zero, List.getElem_cons_succ, Act.put, List.setIfInBounds_toArray, List.set_cons_zero, List.set_cons_succ]
      refine wpAnyH_ready (rs := [27]) (by decide +kernel) (by simp) ?_
      refine AllReadyH.cons rfl (fun K hK => ?_) AllReadyH.nil
      have em := boolCell H4.out.bm k (show k < (trueK many k).length by rw [trueK_len (by omega)]; omega)
      have fm := H4.out.bm.frozen k
      go_simp
      have h5 := H4.out.setMight' k true (L := trueK many (k + 1)) htr.out
      obtain ⟨f0, f1, f2, f3, f4⟩ := h5.ldS (k := k)
      change ((w3.setCell ⟨p.gi, k, none⟩ (.bool true)).setCell ⟨p.gm, k, none⟩ (.bool true)).rangeAt p.gk (k * 128) ((secOf (imgK img many (k + 1)) (k : Int)).map bv) at f4
      rw [← HSV.out] at f4
      have h6 : DiskAt ((w3.setCell ⟨p.gi, k, none⟩ (.bool true)).setCell ⟨p.gm, k, none⟩ (.bool true)) w.heap.size p none 0 (loadD many room img (k + 1)) := h5
      have H6 := Lib.hid h6
      have hg1 := H3.out.bs p.gm (.inr (.inr (.inr (.inr (.inl rfl)))))
      have B6 := Lib.hid (Below.setCell B4.out (p := ⟨p.gm, k, none⟩) hg1 (.bool true))
      clear h5 h6
      refine hK.out _ _ (⟨f0, f1, f2, f3, f4⟩) (fun hHeld => ?_)
      clear hK K
      try simp only [List.getElem_toArray, List.getElem_cons_zero, List.getElem_cons_succ, Act.put, List.setIfInBounds_toArray, List.set_cons_zero, List.set_cons_succ]
      refine wpAnyH_done (by decide +kernel) ?_ _
      go_wp2
      go_roundw
      case rel => first
        | exact ⟨k + 1, by omega, by go_num, H6.out, B6.out⟩
        | ((repeat apply Exists.intro); exact ⟨⟨k + 1, by omega, by go_num, H6.out, B6.out⟩, rfl⟩)
      case measure => simp [intOf]; omega
    · have hk9 : k = N := by omega
      subst hk9
      have HX := Lib.hid hX
      clear hX hus
      go_wp2
      go_ret2
      exact ⟨p, rfl, HX.out.s, hbel⟩
end Go.Proofs.Ytalmdccgpigppaa
