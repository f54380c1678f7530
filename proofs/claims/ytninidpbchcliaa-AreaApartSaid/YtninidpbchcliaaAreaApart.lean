/- AreaApart: what is done in an area changes nothing beside it. -/
import Derived.Test.YtninidpbchcliaaPlainArea
import Derived.Test.YtninidpbchcliaaAreaD
import Derived.Test.YtninidpbchcliaaAreaPlanA
import Derived.Test.YtninidpbchcliaaDiskJ
namespace Go.Proofs.Ytninidpbchcliaa.areaApart
open Go.ChangeShapes Go.WideShapes Go.ChangeAt Go.RowKit
set_option linter.unusedVariables false
set_option linter.unusedSimpArgs false

theorem walk_big (f m : Int) (A : Option Addr) (n c : Nat) (l : List Do8V) (w : World) (hl : Dos8Rd w A n l) (hn : n ≤ maxLen) (h : few8B l = false) :
    Calls Try.prog 7 #[.agg #[.int .i64 f, .int .i64 m], .slice A n c] w fun e w' => e = .returned (.bool true) ∧ Below w.heap.size w w' := by
  have hf := fun w h => few8_any A n c l w h hn
  rw [h] at hf
  go_enter Try.func7, Try.ntmps7
  go_wp2_with (first
    | ((go_at_call 37; (with_reducible refine (awake8 _).mono ?_); rintro e w1 ⟨rfl, hb1⟩); replace hb1 := below_then' (a := w) (B := w.heap.size) (by (repeat' (first | (with_reducible exact Below.refl _ _) | (with_reducible assumption) | (with_reducible refine Below.drew ?_) | (with_reducible refine below_drewN ?_ _) | (with_reducible refine Below.alloc ?_ ?_ _) | (with_reducible refine Below.setCell ?_ ?_ _) | omega | (simp; done) | (simp; omega)))) hb1 (by first | omega | (simp; done) | (simp; omega)); have hb1s := hb1.size)
    | ((go_at_call 38; (with_reducible refine (hf _ (hl.below (B0 := w.heap.size) (by (repeat' (first | (with_reducible exact Below.refl _ _) | (with_reducible assumption) | (with_reducible refine Below.drew ?_) | (with_reducible refine below_drewN ?_ _) | (with_reducible refine Below.alloc ?_ ?_ _) | (with_reducible refine Below.setCell ?_ ?_ _) | omega | (simp; done) | (simp; omega)))) (Nat.le_refl _))).mono ?_); rintro e w2 ⟨rfl, hb2⟩); replace hb2 := below_then' (a := w) (B := w.heap.size) (by (repeat' (first | (with_reducible exact Below.refl _ _) | (with_reducible assumption) | (with_reducible refine Below.drew ?_) | (with_reducible refine below_drewN ?_ _) | (with_reducible refine Below.alloc ?_ ?_ _) | (with_reducible refine Below.setCell ?_ ?_ _) | omega | (simp; done) | (simp; omega)))) hb2 (by first | omega | (simp; done) | (simp; omega)); have hb2s := hb2.size)
    | fail "no arm")
  go_ret
  exact ⟨rfl, (by (repeat' (first | (with_reducible exact Below.refl _ _) | (with_reducible assumption) | (with_reducible refine Below.drew ?_) | (with_reducible refine below_drewN ?_ _) | (with_reducible refine Below.alloc ?_ ?_ _) | (with_reducible refine Below.setCell ?_ ?_ _) | omega | (simp; done) | (simp; omega))))⟩
theorem byte_mem {w : World} {g k : Nat} {cs : Array Value} {t : TypeId} {fr : Nat × Nat} (hg : w.heap[g]? = some (.cells cs t fr)) (hk : k < 255) (h : cs.toList = [.int .u8 ((k : Int) + 1)]) : RB w (some ⟨g, 0, none⟩) 1 [UInt8.ofNat (k + 1)] :=
  RB.of_block (l := [UInt8.ofNat (k + 1)]) hg (by rw [h]; show _ = [bv _]; rw [bv_ofNat (by omega)]; rfl)
set_option maxRecDepth 100000 in
set_option maxHeartbeats 8000000 in
theorem walk_main (f m : Int) (A0 : Option Addr) (n c0 : Nat) (l : List Do8V) (w : World) (hl : Dos8Rd w A0 n l) (hn : n ≤ maxLen) (hfew : few8B l = true) (hf : i64ok f) (hm : i64ok m) :
    Calls Try.prog 7 #[.agg #[.int .i64 f, .int .i64 m], .slice A0 n c0] w fun e w' => e = .returned (.bool true) ∧ Below w.heap.size w w' := by
  have hfw := fun w h => few8_any A0 n c0 l w h hn
  rw [hfew] at hfw
  have hn40 := (few8B_true hfew).1
  rw [hl.1] at hn40
  have hnew : ∀ w, Calls Try.prog 17 #[.int .i64 12, .int .i64 12] w (NwPost w (layK 0)) := fun w => new_ok 12 12 w (by omega) (by omega) (by omega) (by omega)
  clear hfew hn
  unfold i64ok at hf hm
  go_enter Try.func7, Try.ntmps7
  go_wp2_with (first
    | ((go_at_call 37; (with_reducible refine (awake8 _).mono ?_); rintro e w1 ⟨rfl, hb1⟩); have hx1 := Blk.below (w' := w1) (g := w.heap.size) (t := 69) (cs := [.int .i64 f, .int .i64 m]) (by (repeat' (first | (with_reducible assumption) | (with_reducible refine Blk.top _ (by first | rfl | omega | (simp; done) | (simp; omega)) rfl) | (with_reducible refine Blk.alloc ?_ _) | (with_reducible refine Blk.drew ?_) | (with_reducible refine Blk.drewN ?_ _) | (with_reducible refine Blk.far ?_ (by first | omega | (simp; done) | (simp; omega)) _)))) hb1 (by first | omega | (simp; done) | (simp; omega)); have sz1 := hx1.lt; replace hb1 := below_then' (a := w) (B := w.heap.size) (by (repeat' (first | (with_reducible exact Below.refl _ _) | (with_reducible assumption) | (with_reducible refine Below.drew ?_) | (with_reducible refine below_drewN ?_ _) | (with_reducible refine Below.alloc ?_ ?_ _) | (with_reducible refine Below.setCell ?_ ?_ _) | omega | (simp; done) | (simp; omega)))) hb1 (by first | omega | (simp; done) | (simp; omega)); have hb1s := hb1.size)
    | ((go_at_call 38; (with_reducible refine (hfw _ (hl.below (B0 := w.heap.size) (by (repeat' (first | (with_reducible exact Below.refl _ _) | (with_reducible assumption) | (with_reducible refine Below.drew ?_) | (with_reducible refine below_drewN ?_ _) | (with_reducible refine Below.alloc ?_ ?_ _) | (with_reducible refine Below.setCell ?_ ?_ _) | omega | (simp; done) | (simp; omega)))) (Nat.le_refl _))).mono ?_); rintro e w2 ⟨rfl, hb2⟩); have hx2 := hx1.below hb2 (by first | omega | (simp; done) | (simp; omega)); have sz2 := hx2.lt; replace hb2 := below_then' (a := w) (B := w.heap.size) (by (repeat' (first | (with_reducible exact Below.refl _ _) | (with_reducible assumption) | (with_reducible refine Below.drew ?_) | (with_reducible refine below_drewN ?_ _) | (with_reducible refine Below.alloc ?_ ?_ _) | (with_reducible refine Below.setCell ?_ ?_ _) | omega | (simp; done) | (simp; omega)))) hb2 (by first | omega | (simp; done) | (simp; omega)); have hb2s := hb2.size)
    | ((go_at_call 17; (with_reducible refine (hnew _).mono ?_); rintro e w4 ⟨p, rfl, hd4, hb4⟩); have hx4 := hx2.below hb4 (by first | omega | (simp; done) | (simp; omega)); have H4 := Lib.hid (hd4.rebase (base' := w.heap.size) (by first | omega | (simp; done) | (simp; omega))); clear hd4; replace hb4 := below_then' (a := w) (B := w.heap.size) (by (repeat' (first | (with_reducible exact Below.refl _ _) | (with_reducible assumption) | (with_reducible refine Below.drew ?_) | (with_reducible refine below_drewN ?_ _) | (with_reducible refine Below.alloc ?_ ?_ _) | (with_reducible refine Below.setCell ?_ ?_ _) | omega | (simp; done) | (simp; omega)))) hb4 (by first | omega | (simp; done) | (simp; omega)); have hb4s := hb4.size)
    | fail "no arm")
  have S4 := Lib.hid (St.mk (w0 := w) (base := w.heap.size) (R := fun w' => Blk w' w.heap.size 69 [.int .i64 f, .int .i64 m]) hb4 (Nat.le_refl _) H4.out.s hx4)
  have hR : Sp (fun w' => Blk w' w.heap.size 69 [.int .i64 f, .int .i64 m]) := Sp.blk _ _ _ (by decide) (by decide) (by decide) (by decide) (by decide)
  clear hfw hnew H4 hx1 hx2 hx4
  go_loopw [7, 27] (fun _ i wr => ∃ k : Nat, k ≤ 12 ∧ i = .int .i64 (k : Nat) ∧ St w w.heap.size p (fun w' => Blk w' w.heap.size 69 [.int .i64 f, .int .i64 m]) (layK k) wr) (fun _ i _ => 12 - (intOf i).toNat)
  case atStart => exact ⟨0, by omega, rfl, S4.out⟩
  case round =>
    obtain ⟨k, hk, rfl, hS⟩ := hrel
    by_cases hlt : k < 12
    · obtain ⟨q1, q2, q3, q4⟩ := layK_calm k hk
      have hok := layK_ok hlt
      have hnx : Hid (layK (k + 1) = (writeV (layK k) (k : Int) (fullL [UInt8.ofNat (k + 1)])).1) := rfl
      obtain ⟨A, c, hd⟩ := hS.dk
      have hfull := fun (W : World) (g : Nat) (hr : RB W (some ⟨g, 0, none⟩) 1 [UInt8.ofNat (k + 1)]) => full_any (some ⟨g, 0, none⟩) 1 1 [UInt8.ofNat (k + 1)] W hr (by unfold maxLen; omega)
      have hwr := fun (W : World) (hD : DiskAt W w.heap.size p A c (layK k)) (hb : w.heap.size ≤ W.heap.size) => write_any hD (k : Int) (fullL [UInt8.ofNat (k + 1)]) (fullL_len _) (by omega) hb
      rw [hok, ← hnx.out] at hwr
      have HD := Lib.hid hd
      have HS := Lib.hid hS
      have hsz := hS.size
      have hkI : (k : Int) < 12 := by omega
      generalize fullL [UInt8.ofNat (k + 1)] = F at *
      clear hS hd hok q4
      go_wp2_with (first
        | ((go_at_call 19; (with_reducible refine (hfull _ _ (byte_mem (heap_top _ _ rfl) (by omega) rfl)).mono ?_); rintro e w5 ⟨rfl, hb5⟩); have b5 : Below wr.heap.size wr w5 := below_then' (by (repeat' (first | (with_reducible exact Below.refl _ _) | (with_reducible assumption) | (with_reducible refine Below.drew ?_) | (with_reducible refine below_drewN ?_ _) | (with_reducible refine Below.alloc ?_ ?_ _) | (with_reducible refine Below.setCell ?_ ?_ _) | omega | (simp; done) | (simp; omega)))) hb5 (by first | omega | (simp; done) | (simp; omega)); have S5 := Lib.hid (HS.out.below hR b5); have D5 := Lib.hid (HD.out.below b5); have s5 := S5.out.size)
        | ((go_at_call 18; (with_reducible refine (hwr _ D5.out s5).mono ?_); rintro e w6 ⟨rfl, hN6⟩); have S6 := S5.out.next hR D5.out hN6)
        | fail "no arm")
      go_roundw
      case rel => first
        | exact ⟨k + 1, by omega, by go_num, S6⟩
        | ((repeat apply Exists.intro); exact ⟨⟨k + 1, by omega, by go_num, S6⟩, rfl⟩)
      case measure => simp [intOf]; omega
    · have hk9 : k = 12 := by omega
      subst hk9
      have hcalm12 := (layK_calm 12 (Nat.le_refl _))
      have hbst := fun f m h => beside_start (f := f) (m := m) h
      generalize layK 12 = DL at *
      have hS12 := Lib.hid hS
      obtain ⟨A, c, hd⟩ := hS.dk
      have hfl := flush_any hd
      by_cases hok : 0 ≤ f ∧ f ≤ 11 ∧ 1 ≤ m ∧ m ≤ 12 - f
      · obtain ⟨fN, rfl⟩ : ∃ k : Nat, f = (k : Int) := ⟨f.toNat, by omega⟩
        obtain ⟨mN, rfl⟩ : ∃ k : Nat, m = (k : Int) := ⟨m.toNat, by omega⟩
        have hfm : fN + mN ≤ 12 := by omega
        have hm1 : 1 ≤ mN := by omega
        obtain ⟨hB, hw0, he0⟩ := hbst fN mN hfm
        clear hcalm12 hbst
        rw [he0] at hfl
        generalize (flushV DL).1 = D0 at *
        have hnewA := fun W (hD : DiskAt W w.heap.size p A c D0) => anew_ok hD fN mN hm1 (by rw [hB.many]; exact hfm)
        have HB := Lib.hid hB
        have HD := Lib.hid hd
        have hw00 : D0.waits.length = 0 := by rw [hw0]; rfl
        have HW0 := Lib.hid hw00
        clear hd hB hw0 he0 hS hw00 hok
        go_wp2_with (first
          | ((go_at_call 20; (with_reducible refine (hfl).mono ?_); rintro e w5 ⟨rfl, hN5⟩); have S5 := Lib.hid (hS12.out.next hR HD.out hN5); obtain ⟨A5, c5, hd5⟩ := S5.out.dk; have D5 := Lib.hid hd5; have z0 : w5.cell? ⟨w.heap.size, 0, none⟩ = some (.int .i64 (fN : Int)) := S5.out.r.cell 0; have z1 : w5.cell? ⟨w.heap.size, 1, none⟩ = some (.int .i64 (mN : Int)) := S5.out.r.cell 1; clear hd5)
          | ((go_at_call 39; (with_reducible refine (anew_ok D5.out fN mN hm1 (by rw [HB.out.many]; exact hfm)).mono ?_); rintro e w6 ⟨ga, rfl, ha6, hga, hb6⟩); have S6 := Lib.hid ((S5.out.below hR hb6).with_ (S := fun w' => AreaAt w' ga p.d fN mN) ha6); clear ha6)
          | fail "no arm")
        have hR2 : Sp (fun w' => Blk w' w.heap.size 69 [.int .i64 (fN : Int), .int .i64 (mN : Int)] ∧ AreaAt w' ga p.d fN mN) := hR.and (Sp.area _ _ _ _)
        clear z0 z1 hfl hnewA
        go_loopw [11, 74] (fun _ i wr => ∃ (j : Nat) (D : DiskV), j ≤ n ∧ i = .int .i64 (j : Nat) ∧ Beside D fN mN ∧ D.waits.length ≤ 3 * j ∧ St w w.heap.size p (fun w' => Blk w' w.heap.size 69 [.int .i64 (fN : Int), .int .i64 (mN : Int)] ∧ AreaAt w' ga p.d fN mN) D wr) (fun _ i _ => n - (intOf i).toNat)
        case atStart => exact ⟨0, D0, by omega, rfl, HB.out, by rw [HW0.out]; omega, S6.out⟩
        case round =>
          obtain ⟨j, D, hj, rfl, hB, hwl, hS⟩ := hrel
          by_cases hlt : j < n
          · obtain ⟨x, hx⟩ : ∃ x, l[j]? = some x := ⟨_, List.getElem?_eq_getElem (by rw [hl.1]; exact hlt)⟩
            obtain ⟨b, o, B, mm, d, rfl, hr0, hmd, hdm, x1, x2, x3, hget⟩ := hl.get hx
            obtain ⟨hb, e0, e1, e2, e3, e4⟩ := hget wr _ hS.bel (Nat.le_refl _)
            have hmm : mm ≤ maxLen := by omega
            obtain ⟨B1, W1⟩ := hB.write x.n (fullL_len x.b) (by omega)
            obtain ⟨B2, W2⟩ := B1.write x.m zerosL_len (by omega)
            obtain ⟨B3, W3⟩ := B2.put x.k 3 x.n x.b (by omega)
            obtain ⟨B4, W4, E4⟩ := B3.flush
            have H1 : Hid (aWriteV D fN mN x.n (fullL x.b) = aWriteV D fN mN x.n (fullL x.b)) := rfl
            obtain ⟨A, c, hd⟩ := hS.dk
            have hsz := hS.size
            have hmany := hB.many
            have c1 := fun (W : World) (A : Option Addr) (c : Nat) (hD : DiskAt W w.heap.size p A c D) (hA : AreaAt W ga p.d fN mN) (hb : w.heap.size ≤ W.heap.size) => awrite_any hD hA (by rw [hmany]; exact hfm) x.n (fullL x.b) (fullL_len _) (by omega) hb
            have c2 := fun (W : World) (A : Option Addr) (c : Nat) (hD : DiskAt W w.heap.size p A c (aWriteV D fN mN x.n (fullL x.b)).1) (hA : AreaAt W ga p.d fN mN) (hb : w.heap.size ≤ W.heap.size) => awipe_any hD hA (by rw [B1.many]; exact hfm) x.m (by omega) hb
            have c3 := fun (W : World) (A : Option Addr) (c : Nat) (hD : DiskAt W w.heap.size p A c (aWriteV (aWriteV D fN mN x.n (fullL x.b)).1 fN mN x.m zerosL).1) (hA : AreaAt W ga p.d fN mN) (hb : w.heap.size ≤ W.heap.size) (hr : RB W B mm x.b) => aput_any (d := d) hD hA (by rw [B2.many]; exact hfm) x.k 3 x.n B mm x.b hr hmm x1.2 (by omega) hb
            generalize aWriteV D fN mN x.n (fullL x.b) = P1 at *
            generalize aWriteV P1.1 fN mN x.m zerosL = P2 at *
            generalize aPutV P2.1 fN mN x.k 3 x.n x.b = P3 at *
            obtain ⟨P1, z1⟩ := P1
            obtain ⟨P2, z2⟩ := P2
            obtain ⟨P3, z3⟩ := P3
            simp only at B1 B2 B3 B4 W1 W2 W3 W4 c1 c2 c3
            have HS := Lib.hid hS
            have HD := Lib.hid hd
            clear hS hd hx hget H1 E4
            have hRx : Sp (fun w' => (Blk w' w.heap.size 69 [.int .i64 (fN : Int), .int .i64 (mN : Int)] ∧ AreaAt w' ga p.d fN mN) ∧ Blk w' wr.heap.size 76 [.int .i64 x.kind, .int .i64 x.n, .int .i64 x.k, .int .i64 x.m, .slice B mm d]) := hR2.and (Sp.blk _ _ _ (by decide) (by decide) (by decide) (by decide) (by decide))
            go_wp2
            go_region_held3 (fun w' => w'.cell? ⟨wr.heap.size, 1, none⟩ = some (.int .i64 x.n) ∧ w'.cell? ⟨wr.heap.size, 4, none⟩ = some (.slice B mm d)) (first | go_keep | (refine ⟨?_, ?_⟩ <;> assumption)) (first
              | ((go_at_call 19; (with_reducible refine (full_any B mm d x.b _ ((hr0.below HS.out.bel (Nat.le_refl _)).below (B := wr.heap.size) (by (repeat' (first | (with_reducible exact Below.refl _ _) | (with_reducible assumption) | (with_reducible refine Below.drew ?_) | (with_reducible refine below_drewN ?_ _) | (with_reducible refine Below.alloc ?_ ?_ _) | (with_reducible refine Below.setCell ?_ ?_ _) | omega | (simp; done) | (simp; omega)))) (Nat.le_refl _)) hmm).mono ?_); rintro e w5 ⟨rfl, hb5⟩); have hx5 := Blk.below (w' := w5) (g := wr.heap.size) (t := 76) (cs := [.int .i64 x.kind, .int .i64 x.n, .int .i64 x.k, .int .i64 x.m, .slice B mm d]) (by (repeat' (first | (with_reducible assumption) | (with_reducible refine Blk.top _ (by first | rfl | omega | (simp; done) | (simp; omega)) rfl) | (with_reducible refine Blk.alloc ?_ _) | (with_reducible refine Blk.drew ?_) | (with_reducible refine Blk.drewN ?_ _) | (with_reducible refine Blk.far ?_ (by first | omega | (simp; done) | (simp; omega)) _)))) hb5 (by first | omega | (simp; done) | (simp; omega)); have b5 : Below wr.heap.size wr w5 := below_then' (by (repeat' (first | (with_reducible exact Below.refl _ _) | (with_reducible assumption) | (with_reducible refine Below.drew ?_) | (with_reducible refine below_drewN ?_ _) | (with_reducible refine Below.alloc ?_ ?_ _) | (with_reducible refine Below.setCell ?_ ?_ _) | omega | (simp; done) | (simp; omega)))) hb5 (by first | omega | (simp; done) | (simp; omega)); have y1 : w5.cell? ⟨wr.heap.size, 1, none⟩ = some (.int .i64 x.n) := hx5.cell 1; have y4 : w5.cell? ⟨wr.heap.size, 4, none⟩ = some (.slice B mm d) := hx5.cell 4; have S5 := Lib.hid ((HS.out.below hR2 b5).with_ (S := fun w' => Blk w' wr.heap.size 76 [.int .i64 x.kind, .int .i64 x.n, .int .i64 x.k, .int .i64 x.m, .slice B mm d]) hx5); have D5 := Lib.hid (HD.out.below b5); have s5 := S5.out.size; clear hx5)
              | ((go_at_call 40; (with_reducible refine (c1 _ _ _ D5.out S5.out.r.1.2 s5).mono ?_); rintro e w7 ⟨rfl, hN7⟩); have S7 := Lib.hid (S5.out.next hRx D5.out hN7); obtain ⟨A7, c7, hd7⟩ := S7.out.dk; have D7 := Lib.hid hd7; have s7 := S7.out.size; have v1 : w7.cell? ⟨wr.heap.size, 1, none⟩ = some (.int .i64 x.n) := S7.out.r.2.cell 1; have v3 : w7.cell? ⟨wr.heap.size, 3, none⟩ = some (.int .i64 x.m) := S7.out.r.2.cell 3; have v4 : w7.cell? ⟨wr.heap.size, 4, none⟩ = some (.slice B mm d) := S7.out.r.2.cell 4; clear hd7)
              | fail "no arm")
            by_cases hkind : x.kind = 2
            · have hkB : (x.kind == 2) = true := by rw [hkind]; rfl
              clear hkind
              go_wp2_with (first
                | ((go_at_call 41; (with_reducible refine (c2 _ _ _ D7.out S7.out.r.1.2 s7).mono ?_); rintro e w8 ⟨rfl, hN8⟩); have S8 := Lib.hid (S7.out.next hRx D7.out hN8); obtain ⟨A8, c8, hd8⟩ := S8.out.dk; have D8 := Lib.hid hd8; have s8 := S8.out.size; have u1 : w8.cell? ⟨wr.heap.size, 1, none⟩ = some (.int .i64 x.n) := S8.out.r.2.cell 1; have u2 : w8.cell? ⟨wr.heap.size, 2, none⟩ = some (.int .i64 x.k) := S8.out.r.2.cell 2; have u4 : w8.cell? ⟨wr.heap.size, 4, none⟩ = some (.slice B mm d) := S8.out.r.2.cell 4; clear hd8)
                | ((go_at_call 42; (with_reducible refine (c3 _ _ _ D8.out S8.out.r.1.2 s8 (hr0.below S8.out.bel (Nat.le_refl _))).mono ?_); rintro e w9 ⟨rfl, hN9⟩); have S9 := Lib.hid (S8.out.next hRx D8.out hN9); obtain ⟨A9, c9, hd9⟩ := S9.out.dk; have D9 := Lib.hid hd9; have s9 := S9.out.size; have t0 : w9.cell? ⟨wr.heap.size, 0, none⟩ = some (.int .i64 x.kind) := S9.out.r.2.cell 0; clear hd9)
                | ((go_at_call 43; (with_reducible refine (aflush_any D9.out S9.out.r.1.2).mono ?_); rintro e w10 ⟨rfl, hN10⟩); have S10 := Lib.hid (S9.out.next hRx D9.out hN10))
                | fail "no arm")
              go_roundw
              case rel =>
                have hwf : (flushV P3).1.waits.length ≤ 3 * (j + 1) := by rw [W4]; simp
                first
                  | exact ⟨j + 1, (flushV P3).1, by omega, by go_num, B4, hwf, S10.out.drop⟩
                  | ((repeat apply Exists.intro); exact ⟨⟨j + 1, (flushV P3).1, by omega, by go_num, B4, hwf, S10.out.drop⟩, rfl⟩)
              case measure => simp [intOf]; omega
            · have hkB : (x.kind == 2) = false := by rw [beq_eq_false_iff_ne]; exact hkind
              clear hkind
              go_wp2_with (first
                | ((go_at_call 41; (with_reducible refine (c2 _ _ _ D7.out S7.out.r.1.2 s7).mono ?_); rintro e w8 ⟨rfl, hN8⟩); have S8 := Lib.hid (S7.out.next hRx D7.out hN8); obtain ⟨A8, c8, hd8⟩ := S8.out.dk; have D8 := Lib.hid hd8; have s8 := S8.out.size; have u1 : w8.cell? ⟨wr.heap.size, 1, none⟩ = some (.int .i64 x.n) := S8.out.r.2.cell 1; have u2 : w8.cell? ⟨wr.heap.size, 2, none⟩ = some (.int .i64 x.k) := S8.out.r.2.cell 2; have u4 : w8.cell? ⟨wr.heap.size, 4, none⟩ = some (.slice B mm d) := S8.out.r.2.cell 4; clear hd8)
                | ((go_at_call 42; (with_reducible refine (c3 _ _ _ D8.out S8.out.r.1.2 s8 (hr0.below S8.out.bel (Nat.le_refl _))).mono ?_); rintro e w9 ⟨rfl, hN9⟩); have S9 := Lib.hid (S8.out.next hRx D8.out hN9); have t0 : w9.cell? ⟨wr.heap.size, 0, none⟩ = some (.int .i64 x.kind) := S9.out.r.2.cell 0)
                | fail "no arm")
              go_roundw
              case rel =>
                have hwf : P3.waits.length ≤ 3 * (j + 1) := by omega
                first
                  | exact ⟨j + 1, P3, by omega, by go_num, B3, hwf, S9.out.drop⟩
                  | ((repeat apply Exists.intro); exact ⟨⟨j + 1, P3, by omega, by go_num, B3, hwf, S9.out.drop⟩, rfl⟩)
              case measure => simp [intOf]; omega
          · have hj9 : j = n := by omega
            subst hj9
            have HS := Lib.hid hS
            have HB := Lib.hid hB
            clear hS hB hwl
            have hz := (zero_of_info zero128).1
            have Hi := Lib.hid (zero_of_info zero128).2
            have hlz : Hid ((zerosL.map bv).length = 128) := by show _ = _; simp [zerosL_len]
            unfold aggB at hz
            generalize zerosL.map bv = Z at *
            go_wp2
            go_loopw [12, 13, 14, 15, 103] (fun _ _ _ _ i wr => ∃ (k : Nat) (D : DiskV), k ≤ 12 ∧ i = .int .i64 (k : Nat) ∧ Beside D fN mN ∧ St w w.heap.size p (fun w' => Blk w' w.heap.size 69 [.int .i64 (fN : Int), .int .i64 (mN : Int)] ∧ AreaAt w' ga p.d fN mN) D wr) (fun _ _ _ _ i _ => 12 - (intOf i).toNat)
            case atStart => exact ⟨0, D, by omega, rfl, HB.out, HS.out⟩
            case round =>
              obtain ⟨k, E, hk, rfl, hB, hS⟩ := hrel
              by_cases hlt : k < 12
              · obtain ⟨A, c, hd⟩ := hS.dk
                have hrd := dread_any hd (k : Int)
                obtain ⟨r1, r2⟩ := hB.read hlt
                rw [r1] at hrd
                simp only at hrd
                have hout := hB.out k hlt
                have hsl0 : (secOf E.now (k : Int)).length = 128 := secOf_len hB.calm.ok.now (by omega) (by rw [hB.many]; omega)
                have hsl : Hid (((secOf E.now (k : Int)).map bv).length = 128) := by show _ = _; rw [List.length_map, hsl0]
                have hsm := Lib.hid (mem_bv (l := secOf E.now (k : Int)))
                have hkI : (k : Int) < 12 := by omega
                have HS := Lib.hid hS
                have HD := Lib.hid hd
                have HR := Lib.hid r2
                have HO := Lib.hid hout
                have hsz := hS.size
                generalize hSB : secOf E.now (k : Int) = SB at *
                unfold aggB at hrd
                generalize hSV : SB.map bv = SV at *
                have HSV := Lib.hid hSV
                generalize readV' E = E' at *
                clear hS hd r1 r2 hout hSB hSV
                by_cases hin : fN ≤ k ∧ k < fN + mN
                · have i1 : ((fN : Int) ≤ (k : Int)) := by omega
                  have i2 : ((k : Int) - fN < mN) := by omega
                  go_wp2_with (first
                    | ((go_at_call 21; (with_reducible refine (hrd).mono ?_); rintro e w6 ⟨rfl, h6, k6⟩); have S6 := Lib.hid (HS.out.kept hR2 HD.out h6 k6); clear h6; have z0 : w6.cell? ⟨w.heap.size, 0, none⟩ = some (.int .i64 (fN : Int)) := S6.out.r.1.cell 0; have z1 : w6.cell? ⟨w.heap.size, 1, none⟩ = some (.int .i64 (mN : Int)) := S6.out.r.1.cell 1; have s6 := S6.out.size)
                    | (refine wpList_store_arr rfl (x := .tmp 13) (y := .tmp 110) rfl rfl rfl (t := 33) (cs := Z) (xs := SV) (Blk.top _ rfl rfl) Hi.out hsl.out (by rw [hlz.out]; omega) hsm.out ?_; intro w7 hb7 hg7 hs7; rw [splice_all _ _ (hlz.out.trans hsl.out.symm)] at hb7; have b7 : Below w6.heap.size w6 w7 := below_of_only ((Below.refl w6.heap.size w6).alloc (Nat.le_refl _) _) hg7 (by first | omega | (simp; done) | (simp; omega)) (by first | omega | (simp; done) | (simp; omega)); have S7 := Lib.hid (S6.out.below hR2 b7); have v0 : w7.cell? ⟨w.heap.size, 0, none⟩ = some (.int .i64 (fN : Int)) := S7.out.r.1.cell 0; have v1 : w7.cell? ⟨w.heap.size, 1, none⟩ = some (.int .i64 (mN : Int)) := S7.out.r.1.cell 1)
                    | fail "no arm")
                  go_big_quiet (fail)
                  go_wp2
                  go_roundw
                  case rel =>
                    have hfin := S7.out.below hR2 (below_drewN (Below.refl _ _) nq)
                    first
                      | exact ⟨k + 1, E', by omega, by go_num, HR.out, hfin⟩
                      | ((repeat apply Exists.intro); exact ⟨⟨k + 1, E', by omega, by go_num, HR.out, hfin⟩, rfl⟩)
                  case measure => simp [intOf]; omega
                · have hc : (k : Int) < fN ∨ ((fN : Int) ≤ k ∧ (mN : Int) ≤ k - fN) := by omega
                  rcases hc with i1 | ⟨i1, i2⟩
                  · have hb1 : decide ((fN : Int) ≤ (k : Int)) = false := decide_eq_false (by omega)
                    have HSO := HO.out (fun q => hin q)
                    have heq : ∀ W : World, (Op.equalIn 10000 33 (.agg SV.toArray) (.agg SV.toArray)).run Try.prog W = .ok true W := fun W => by
                      have := eq128 SB SB (by have := hsl.out; rw [← HSV.out, List.length_map] at this; exact this) (by have := hsl.out; rw [← HSV.out, List.length_map] at this; exact this) W
                      rw [HSV.out] at this
                      rw [this]; simp
                    have hfull := fun (W : World) (g : Nat) (hr : RB W (some ⟨g, 0, none⟩) 1 [UInt8.ofNat (k + 1)]) => full_any (some ⟨g, 0, none⟩) 1 1 [UInt8.ofNat (k + 1)] W hr (by unfold maxLen; omega)
                    rw [← HSO] at hfull
                    unfold aggB at hfull
                    rw [HSV.out] at hfull
                    have HEQ := Lib.hid heq
                    clear heq HSO
                    go_wp2_with (first
                      | ((go_at_call 21; (with_reducible refine (hrd).mono ?_); rintro e w6 ⟨rfl, h6, k6⟩); have S6 := Lib.hid (HS.out.kept hR2 HD.out h6 k6); clear h6; have z0 : w6.cell? ⟨w.heap.size, 0, none⟩ = some (.int .i64 (fN : Int)) := S6.out.r.1.cell 0; have z1 : w6.cell? ⟨w.heap.size, 1, none⟩ = some (.int .i64 (mN : Int)) := S6.out.r.1.cell 1; have s6 := S6.out.size)
                      | (refine wpList_store_arr rfl (x := .tmp 13) (y := .tmp 110) rfl rfl rfl (t := 33) (cs := Z) (xs := SV) (Blk.top _ rfl rfl) Hi.out hsl.out (by rw [hlz.out]; omega) hsm.out ?_; intro w7 hb7 hg7 hs7; rw [splice_all _ _ (hlz.out.trans hsl.out.symm)] at hb7; have b7 : Below w6.heap.size w6 w7 := below_of_only ((Below.refl w6.heap.size w6).alloc (Nat.le_refl _) _) hg7 (by first | omega | (simp; done) | (simp; omega)) (by first | omega | (simp; done) | (simp; omega)); have S7 := Lib.hid (S6.out.below hR2 b7); have v0 : w7.cell? ⟨w.heap.size, 0, none⟩ = some (.int .i64 (fN : Int)) := S7.out.r.1.cell 0; have v1 : w7.cell? ⟨w.heap.size, 1, none⟩ = some (.int .i64 (mN : Int)) := S7.out.r.1.cell 1)
                      | fail "no arm")
                    have r7 := Blk.range (o := 0) (n := 128) (xs := SV) hb7 (by rw [List.drop_zero, List.take_of_length_le (by rw [hsl.out]; omega)])
                    refine wp_region_held_drew (S := fun w' => w'.rangeAt w6.heap.size 0 SV) (by kernel_rfl) r7 (fun hHeld => ?_)
                    refine wpAnyH_take (i := 0) (v := ?_) rfl (by decide +kernel) (by decide +kernel) (by decide +kernel) (fun _ _ _ h => h) (Or.inl ⟨by rfl, ?_⟩) (by assumption) ?_
                    rotate_left 1
                    · (intro w hSw; (try dsimp only at hSw); go_simp; try (with_reducible rfl))
                    try simp only [List.getElem_toArray, List.getElem_cons_zero, List.getElem_cons_succ, Act.put, List.setIfInBounds_toArray, List.set_cons_zero, List.set_cons_succ]
                    refine wpAnyH_take (i := 1) (v := ?_) rfl (by decide +kernel) (by decide +kernel) (by decide +kernel) (fun _ _ _ h => h) (Or.inl ⟨by rfl, ?_⟩) (by assumption) ?_
                    rotate_left 1
                    · (intro w hSw; (try dsimp only at hSw); go_simp; try (with_reducible rfl))
                    try simp only [List.getElem_toArray, List.getElem_cons_zero, List.getElem_cons_succ, Act.put, List.setIfInBounds_toArray, List.set_cons_zero, List.set_cons_succ]
                    refine wpAnyH_take (i := 2) (v := ?_) rfl (by decide +kernel) (by decide +kernel) (by decide +kernel) (fun _ _ _ h => h) (Or.inl ⟨by rfl, ?_⟩) (by assumption) ?_
                    rotate_left 1
                    · (intro w hSw; (try dsimp only at hSw); go_simp; try (with_reducible rfl))
                    try simp only [List.getElem_toArray, List.getElem_cons_zero, List.getElem_cons_succ, Act.put, List.setIfInBounds_toArray, List.set_cons_zero, List.set_cons_succ]
                    refine wpAnyH_take (i := 3) (v := ?_) rfl (by decide +kernel) (by decide +kernel) (by decide +kernel) (fun _ _ _ h => h) (Or.inl ⟨by rfl, ?_⟩) (by assumption) ?_
                    rotate_left 1
                    · (intro w hSw; (try dsimp only at hSw); go_simp; try (with_reducible rfl))
                    try simp only [List.getElem_toArray, List.getElem_cons_zero, List.getElem_cons_succ, Act.put, List.setIfInBounds_toArray, List.set_cons_zero, List.set_cons_succ]
                    refine wpAnyH_take (i := 4) (v := ?_) rfl (by decide +kernel) (by decide +kernel) (by decide +kernel) (fun _ _ _ h => h) (Or.inl ⟨by rfl, ?_⟩) (by assumption) ?_
                    rotate_left 1
                    · (intro w hSw; (try dsimp only at hSw); go_simp; try (with_reducible rfl))
                    try simp only [List.getElem_toArray, List.getElem_cons_zero, List.getElem_cons_succ, Act.put, List.setIfInBounds_toArray, List.set_cons_zero, List.set_cons_succ]
                    refine wpAnyH_take (i := 5) (v := ?_) rfl (by decide +kernel) (by decide +kernel) (by decide +kernel) (fun _ _ _ h => h) (Or.inl ⟨by rfl, ?_⟩) (by assumption) ?_
                    rotate_left 1
                    · (intro w hSw; (try dsimp only at hSw); go_simp; try (with_reducible rfl))
                    try simp only [List.getElem_toArray, List.getElem_cons_zero, List.getElem_cons_succ, Act.put, List.setIfInBounds_toArray, List.set_cons_zero, List.set_cons_succ]
                    refine wpAnyH_take (i := 6) (v := _) rfl (by decide +kernel) (by decide +kernel) (by decide +kernel) (fun _ _ _ h => h) (yieldsIf_load_mid (by rfl) _ _ rfl _ _ rfl SV _ (fun _ h => h) Try.underlying33 rfl (by rw [hsl.out]; exact Hi.out)) (by assumption) ?_
                    try simp only [List.getElem_toArray, List.getElem_cons_zero, List.getElem_cons_succ, Act.put, List.setIfInBounds_toArray, List.set_cons_zero, List.set_cons_succ]
                    refine wpAnyH_take (i := 7) (v := ?_) rfl (by decide +kernel) (by decide +kernel) (by decide +kernel) (fun _ _ _ h => h) (Or.inl ⟨by rfl, ?_⟩) (by assumption) ?_
                    rotate_left 1
                    · (intro w hSw; (try dsimp only at hSw); go_simp; try (with_reducible rfl))
                    try simp only [List.getElem_toArray, List.getElem_cons_zero, List.getElem_cons_succ, Act.put, List.setIfInBounds_toArray, List.set_cons_zero, List.set_cons_succ]
                    refine wpAnyH_take (i := 8) (v := ?_) rfl (by decide +kernel) (by decide +kernel) (by decide +kernel) (fun _ _ _ h => h) (Or.inl ⟨by rfl, ?_⟩) (by assumption) ?_
                    rotate_left 1
                    · (intro w hSw; (try dsimp only at hSw); go_simp; try (with_reducible rfl))
                    try simp only [List.getElem_toArray, List.getElem_cons_zero, List.getElem_cons_succ, Act.put, List.setIfInBounds_toArray, List.set_cons_zero, List.set_cons_succ]
                    refine wpAnyH_take (i := 9) (v := ?_) rfl (by decide +kernel) (by decide +kernel) (by decide +kernel) (fun _ _ _ h => h) (Or.inl ⟨by rfl, ?_⟩) (by assumption) ?_
                    rotate_left 1
                    · (intro w hSw; (try dsimp only at hSw); go_simp; try (with_reducible rfl))
                    try simp only [List.getElem_toArray, List.getElem_cons_zero, List.getElem_cons_succ, Act.put, List.setIfInBounds_toArray, List.set_cons_zero, List.set_cons_succ]
                    refine wpAnyH_ready (rs := [10]) (by decide +kernel) (by simp) ?_
                    refine AllReadyH.cons rfl (fun K hK => ?_) AllReadyH.nil
                    go_simp
                    have hwv : Value.int .u8 (IntKind.u8.wrap (IntKind.i64.wrap ((k : Int) + 1))) = .int .u8 ((k : Int) + 1) := congrArg _ (by go_arith)
                    rw [hwv]
                    clear hwv
                    have HB7 := Lib.hid hb7
                    have hA := Blk.range (w := (w7.alloc (.cells #[.int .u8 ((k : Int) + 1)] 5)).drew) (o := 0) (n := 128) (xs := SV) (Blk.drew (HB7.out.alloc _)) (by rw [List.drop_zero, List.take_of_length_le (by rw [hsl.out]; omega)])
                    have hM : RB (w7.alloc (.cells #[.int .u8 ((k : Int) + 1)] 5)).drew (some ⟨w6.heap.size + 1, 0, none⟩) 1 [UInt8.ofNat (k + 1)] := byte_mem (w := w7.alloc (.cells #[.int .u8 ((k : Int) + 1)] 5)) (heap_top _ _ (by rw [hs7]; simp)) (by omega) rfl
                    have HM := Lib.hid hM
                    clear hM
                    refine hK.out _ _ (hA) (fun hHeld => ?_)
                    clear hK K
                    try simp only [List.getElem_toArray, List.getElem_cons_zero, List.getElem_cons_succ, Act.put, List.setIfInBounds_toArray, List.set_cons_zero, List.set_cons_succ]
                    refine wpAnyH_ready (rs := [11]) (by decide +kernel) (by simp) ?_
                    refine AllReadyH.cons rfl (fun K hK => ?_) AllReadyH.nil
                    go_simp
                    (go_at_call 19; (with_reducible refine (hfull _ _ HM.out).mono ?_); rintro e w8 ⟨rfl, hb8⟩)
                    have b8 : Below w7.heap.size w7 w8 := below_then' (by (repeat' (first | (with_reducible exact Below.refl _ _) | (with_reducible assumption) | (with_reducible refine Below.drew ?_) | (with_reducible refine below_drewN ?_ _) | (with_reducible refine Below.alloc ?_ ?_ _) | (with_reducible refine Below.setCell ?_ ?_ _) | omega | (simp; done) | (simp; omega)))) hb8 (by first | omega | (simp; done) | (simp; omega))
                    have hb78 := HB7.out.below b8 HB7.out.lt
                    have S8 := Lib.hid (S7.out.below hR2 b8)
                    refine hK.out _ _ (Blk.range (o := 0) (n := 128) (xs := SV) hb78 (by rw [List.drop_zero, List.take_of_length_le (by rw [hsl.out]; omega)])) (fun hHeld => ?_)
                    clear hK K
                    try simp only [List.getElem_toArray, List.getElem_cons_zero, List.getElem_cons_succ, Act.put, List.setIfInBounds_toArray, List.set_cons_zero, List.set_cons_succ]
                    refine wpAnyH_take (i := 12) (v := ?_) rfl (by decide +kernel) (by decide +kernel) (by decide +kernel) (fun _ _ _ h => h) (Or.inl ⟨by rfl, ?_⟩) (by assumption) ?_
                    rotate_left 1
                    · (intro w hSw; (try dsimp only at hSw); go_simp; simp only [HEQ.out, Result.andThen_ok, Bool.not_true]; rfl)
                    try simp only [List.getElem_toArray, List.getElem_cons_zero, List.getElem_cons_succ, Act.put, List.setIfInBounds_toArray, List.set_cons_zero, List.set_cons_succ]
                    refine wpAnyH_take (i := 13) (v := ?_) rfl (by decide +kernel) (by decide +kernel) (by decide +kernel) (fun _ _ _ h => h) (Or.inl ⟨by rfl, ?_⟩) (by assumption) ?_
                    rotate_left 1
                    · (intro w hSw; (try dsimp only at hSw); go_simp; try (with_reducible rfl))
                    try simp only [List.getElem_toArray, List.getElem_cons_zero, List.getElem_cons_succ, Act.put, List.setIfInBounds_toArray, List.set_cons_zero, List.set_cons_succ]
                    refine wpAnyH_take (i := 14) (v := ?_) rfl (by decide +kernel) (by decide +kernel) (by decide +kernel) (fun _ _ _ h => h) (Or.inl ⟨by rfl, ?_⟩) (by assumption) ?_
                    rotate_left 1
                    · (intro w hSw; (try dsimp only at hSw); go_simp; try (with_reducible rfl))
                    try simp only [List.getElem_toArray, List.getElem_cons_zero, List.getElem_cons_succ, Act.put, List.setIfInBounds_toArray, List.set_cons_zero, List.set_cons_succ]
                    refine wpAnyH_done (by decide +kernel) ?_ _
                    go_wp2
                    go_roundw
                    case rel => first
                      | exact ⟨k + 1, E', by omega, by go_num, HR.out, S8.out⟩
                      | ((repeat apply Exists.intro); exact ⟨⟨k + 1, E', by omega, by go_num, HR.out, S8.out⟩, rfl⟩)
                    case measure => simp [intOf]; omega
                  · have hb1 : decide ((k : Int) - fN < mN) = false := decide_eq_false (by omega)
                    have HSO := HO.out (fun q => hin q)
                    have heq : ∀ W : World, (Op.equalIn 10000 33 (.agg SV.toArray) (.agg SV.toArray)).run Try.prog W = .ok true W := fun W => by
                      have := eq128 SB SB (by have := hsl.out; rw [← HSV.out, List.length_map] at this; exact this) (by have := hsl.out; rw [← HSV.out, List.length_map] at this; exact this) W
                      rw [HSV.out] at this
                      rw [this]; simp
                    have hfull := fun (W : World) (g : Nat) (hr : RB W (some ⟨g, 0, none⟩) 1 [UInt8.ofNat (k + 1)]) => full_any (some ⟨g, 0, none⟩) 1 1 [UInt8.ofNat (k + 1)] W hr (by unfold maxLen; omega)
                    rw [← HSO] at hfull
                    unfold aggB at hfull
                    rw [HSV.out] at hfull
                    have HEQ := Lib.hid heq
                    clear heq HSO
                    go_wp2_with (first
                      | ((go_at_call 21; (with_reducible refine (hrd).mono ?_); rintro e w6 ⟨rfl, h6, k6⟩); have S6 := Lib.hid (HS.out.kept hR2 HD.out h6 k6); clear h6; have z0 : w6.cell? ⟨w.heap.size, 0, none⟩ = some (.int .i64 (fN : Int)) := S6.out.r.1.cell 0; have z1 : w6.cell? ⟨w.heap.size, 1, none⟩ = some (.int .i64 (mN : Int)) := S6.out.r.1.cell 1; have s6 := S6.out.size)
                      | (refine wpList_store_arr rfl (x := .tmp 13) (y := .tmp 110) rfl rfl rfl (t := 33) (cs := Z) (xs := SV) (Blk.top _ rfl rfl) Hi.out hsl.out (by rw [hlz.out]; omega) hsm.out ?_; intro w7 hb7 hg7 hs7; rw [splice_all _ _ (hlz.out.trans hsl.out.symm)] at hb7; have b7 : Below w6.heap.size w6 w7 := below_of_only ((Below.refl w6.heap.size w6).alloc (Nat.le_refl _) _) hg7 (by first | omega | (simp; done) | (simp; omega)) (by first | omega | (simp; done) | (simp; omega)); have S7 := Lib.hid (S6.out.below hR2 b7); have v0 : w7.cell? ⟨w.heap.size, 0, none⟩ = some (.int .i64 (fN : Int)) := S7.out.r.1.cell 0; have v1 : w7.cell? ⟨w.heap.size, 1, none⟩ = some (.int .i64 (mN : Int)) := S7.out.r.1.cell 1)
                      | fail "no arm")
                    have r7 := Blk.range (o := 0) (n := 128) (xs := SV) hb7 (by rw [List.drop_zero, List.take_of_length_le (by rw [hsl.out]; omega)])
                    refine wp_region_held_drew (S := fun w' => w'.rangeAt w6.heap.size 0 SV) (by kernel_rfl) r7 (fun hHeld => ?_)
                    refine wpAnyH_take (i := 0) (v := ?_) rfl (by decide +kernel) (by decide +kernel) (by decide +kernel) (fun _ _ _ h => h) (Or.inl ⟨by rfl, ?_⟩) (by assumption) ?_
                    rotate_left 1
                    · (intro w hSw; (try dsimp only at hSw); go_simp; try (with_reducible rfl))
                    try simp only [List.getElem_toArray, List.getElem_cons_zero, List.getElem_cons_succ, Act.put, List.setIfInBounds_toArray, List.set_cons_zero, List.set_cons_succ]
                    refine wpAnyH_take (i := 1) (v := ?_) rfl (by decide +kernel) (by decide +kernel) (by decide +kernel) (fun _ _ _ h => h) (Or.inl ⟨by rfl, ?_⟩) (by assumption) ?_
                    rotate_left 1
                    · (intro w hSw; (try dsimp only at hSw); go_simp; try (with_reducible rfl))
                    try simp only [List.getElem_toArray, List.getElem_cons_zero, List.getElem_cons_succ, Act.put, List.setIfInBounds_toArray, List.set_cons_zero, List.set_cons_succ]
                    refine wpAnyH_take (i := 2) (v := ?_) rfl (by decide +kernel) (by decide +kernel) (by decide +kernel) (fun _ _ _ h => h) (Or.inl ⟨by rfl, ?_⟩) (by assumption) ?_
                    rotate_left 1
                    · (intro w hSw; (try dsimp only at hSw); go_simp; try (with_reducible rfl))
                    try simp only [List.getElem_toArray, List.getElem_cons_zero, List.getElem_cons_succ, Act.put, List.setIfInBounds_toArray, List.set_cons_zero, List.set_cons_succ]
                    refine wpAnyH_take (i := 3) (v := ?_) rfl (by decide +kernel) (by decide +kernel) (by decide +kernel) (fun _ _ _ h => h) (Or.inl ⟨by rfl, ?_⟩) (by assumption) ?_
                    rotate_left 1
                    · (intro w hSw; (try dsimp only at hSw); go_simp; try (with_reducible rfl))
                    try simp only [List.getElem_toArray, List.getElem_cons_zero, List.getElem_cons_succ, Act.put, List.setIfInBounds_toArray, List.set_cons_zero, List.set_cons_succ]
                    refine wpAnyH_take (i := 4) (v := ?_) rfl (by decide +kernel) (by decide +kernel) (by decide +kernel) (fun _ _ _ h => h) (Or.inl ⟨by rfl, ?_⟩) (by assumption) ?_
                    rotate_left 1
                    · (intro w hSw; (try dsimp only at hSw); go_simp; try (with_reducible rfl))
                    try simp only [List.getElem_toArray, List.getElem_cons_zero, List.getElem_cons_succ, Act.put, List.setIfInBounds_toArray, List.set_cons_zero, List.set_cons_succ]
                    refine wpAnyH_take (i := 5) (v := ?_) rfl (by decide +kernel) (by decide +kernel) (by decide +kernel) (fun _ _ _ h => h) (Or.inl ⟨by rfl, ?_⟩) (by assumption) ?_
                    rotate_left 1
                    · (intro w hSw; (try dsimp only at hSw); go_simp; try (with_reducible rfl))
                    try simp only [List.getElem_toArray, List.getElem_cons_zero, List.getElem_cons_succ, Act.put, List.setIfInBounds_toArray, List.set_cons_zero, List.set_cons_succ]
                    refine wpAnyH_take (i := 6) (v := _) rfl (by decide +kernel) (by decide +kernel) (by decide +kernel) (fun _ _ _ h => h) (yieldsIf_load_mid (by rfl) _ _ rfl _ _ rfl SV _ (fun _ h => h) Try.underlying33 rfl (by rw [hsl.out]; exact Hi.out)) (by assumption) ?_
                    try simp only [List.getElem_toArray, List.getElem_cons_zero, List.getElem_cons_succ, Act.put, List.setIfInBounds_toArray, List.set_cons_zero, List.set_cons_succ]
                    refine wpAnyH_take (i := 7) (v := ?_) rfl (by decide +kernel) (by decide +kernel) (by decide +kernel) (fun _ _ _ h => h) (Or.inl ⟨by rfl, ?_⟩) (by assumption) ?_
                    rotate_left 1
                    · (intro w hSw; (try dsimp only at hSw); go_simp; try (with_reducible rfl))
                    try simp only [List.getElem_toArray, List.getElem_cons_zero, List.getElem_cons_succ, Act.put, List.setIfInBounds_toArray, List.set_cons_zero, List.set_cons_succ]
                    refine wpAnyH_take (i := 8) (v := ?_) rfl (by decide +kernel) (by decide +kernel) (by decide +kernel) (fun _ _ _ h => h) (Or.inl ⟨by rfl, ?_⟩) (by assumption) ?_
                    rotate_left 1
                    · (intro w hSw; (try dsimp only at hSw); go_simp; try (with_reducible rfl))
                    try simp only [List.getElem_toArray, List.getElem_cons_zero, List.getElem_cons_succ, Act.put, List.setIfInBounds_toArray, List.set_cons_zero, List.set_cons_succ]
                    refine wpAnyH_take (i := 9) (v := ?_) rfl (by decide +kernel) (by decide +kernel) (by decide +kernel) (fun _ _ _ h => h) (Or.inl ⟨by rfl, ?_⟩) (by assumption) ?_
                    rotate_left 1
                    · (intro w hSw; (try dsimp only at hSw); go_simp; try (with_reducible rfl))
                    try simp only [List.getElem_toArray, List.getElem_cons_zero, List.getElem_cons_succ, Act.put, List.setIfInBounds_toArray, List.set_cons_zero, List.set_cons_succ]
                    refine wpAnyH_ready (rs := [10]) (by decide +kernel) (by simp) ?_
                    refine AllReadyH.cons rfl (fun K hK => ?_) AllReadyH.nil
                    go_simp
                    have hwv : Value.int .u8 (IntKind.u8.wrap (IntKind.i64.wrap ((k : Int) + 1))) = .int .u8 ((k : Int) + 1) := congrArg _ (by go_arith)
                    rw [hwv]
                    clear hwv
                    have HB7 := Lib.hid hb7
                    have hA := Blk.range (w := (w7.alloc (.cells #[.int .u8 ((k : Int) + 1)] 5)).drew) (o := 0) (n := 128) (xs := SV) (Blk.drew (HB7.out.alloc _)) (by rw [List.drop_zero, List.take_of_length_le (by rw [hsl.out]; omega)])
                    have hM : RB (w7.alloc (.cells #[.int .u8 ((k : Int) + 1)] 5)).drew (some ⟨w6.heap.size + 1, 0, none⟩) 1 [UInt8.ofNat (k + 1)] := byte_mem (w := w7.alloc (.cells #[.int .u8 ((k : Int) + 1)] 5)) (heap_top _ _ (by rw [hs7]; simp)) (by omega) rfl
                    have HM := Lib.hid hM
                    clear hM
                    refine hK.out _ _ (hA) (fun hHeld => ?_)
                    clear hK K
                    try simp only [List.getElem_toArray, List.getElem_cons_zero, List.getElem_cons_succ, Act.put, List.setIfInBounds_toArray, List.set_cons_zero, List.set_cons_succ]
                    refine wpAnyH_ready (rs := [11]) (by decide +kernel) (by simp) ?_
                    refine AllReadyH.cons rfl (fun K hK => ?_) AllReadyH.nil
                    go_simp
                    (go_at_call 19; (with_reducible refine (hfull _ _ HM.out).mono ?_); rintro e w8 ⟨rfl, hb8⟩)
                    have b8 : Below w7.heap.size w7 w8 := below_then' (by (repeat' (first | (with_reducible exact Below.refl _ _) | (with_reducible assumption) | (with_reducible refine Below.drew ?_) | (with_reducible refine below_drewN ?_ _) | (with_reducible refine Below.alloc ?_ ?_ _) | (with_reducible refine Below.setCell ?_ ?_ _) | omega | (simp; done) | (simp; omega)))) hb8 (by first | omega | (simp; done) | (simp; omega))
                    have hb78 := HB7.out.below b8 HB7.out.lt
                    have S8 := Lib.hid (S7.out.below hR2 b8)
                    refine hK.out _ _ (Blk.range (o := 0) (n := 128) (xs := SV) hb78 (by rw [List.drop_zero, List.take_of_length_le (by rw [hsl.out]; omega)])) (fun hHeld => ?_)
                    clear hK K
                    try simp only [List.getElem_toArray, List.getElem_cons_zero, List.getElem_cons_succ, Act.put, List.setIfInBounds_toArray, List.set_cons_zero, List.set_cons_succ]
                    refine wpAnyH_take (i := 12) (v := ?_) rfl (by decide +kernel) (by decide +kernel) (by decide +kernel) (fun _ _ _ h => h) (Or.inl ⟨by rfl, ?_⟩) (by assumption) ?_
                    rotate_left 1
                    · (intro w hSw; (try dsimp only at hSw); go_simp; simp only [HEQ.out, Result.andThen_ok, Bool.not_true]; rfl)
                    try simp only [List.getElem_toArray, List.getElem_cons_zero, List.getElem_cons_succ, Act.put, List.setIfInBounds_toArray, List.set_cons_zero, List.set_cons_succ]
                    refine wpAnyH_take (i := 13) (v := ?_) rfl (by decide +kernel) (by decide +kernel) (by decide +kernel) (fun _ _ _ h => h) (Or.inl ⟨by rfl, ?_⟩) (by assumption) ?_
                    rotate_left 1
                    · (intro w hSw; (try dsimp only at hSw); go_simp; try (with_reducible rfl))
                    try simp only [List.getElem_toArray, List.getElem_cons_zero, List.getElem_cons_succ, Act.put, List.setIfInBounds_toArray, List.set_cons_zero, List.set_cons_succ]
                    refine wpAnyH_take (i := 14) (v := ?_) rfl (by decide +kernel) (by decide +kernel) (by decide +kernel) (fun _ _ _ h => h) (Or.inl ⟨by rfl, ?_⟩) (by assumption) ?_
                    rotate_left 1
                    · (intro w hSw; (try dsimp only at hSw); go_simp; try (with_reducible rfl))
                    try simp only [List.getElem_toArray, List.getElem_cons_zero, List.getElem_cons_succ, Act.put, List.setIfInBounds_toArray, List.set_cons_zero, List.set_cons_succ]
                    refine wpAnyH_done (by decide +kernel) ?_ _
                    go_wp2
                    go_roundw
                    case rel => first
                      | exact ⟨k + 1, E', by omega, by go_num, HR.out, S8.out⟩
                      | ((repeat apply Exists.intro); exact ⟨⟨k + 1, E', by omega, by go_num, HR.out, S8.out⟩, rfl⟩)
                    case measure => simp [intOf]; omega
              · have hk9 : k = 12 := by omega
                subst hk9
                have hbel := hS.bel
                clear hS hB
                go_wp2
                go_ret
                exact ⟨rfl, hbel⟩
      · clear hbst
        obtain ⟨fl, c12⟩ := hcalm12.1.flush
        have hm12 : (flushD (goesV DL 3)).many = 12 := hcalm12.2.1
        rw [fl] at hfl
        simp only at hfl
        generalize flushD (goesV DL 3) = D0 at *
        have HD := Lib.hid hd
        have HM := Lib.hid hm12
        have hcase : f < 0 ∨ (0 ≤ f ∧ 11 < f) ∨ (0 ≤ f ∧ f ≤ 11 ∧ m < 1) ∨ (0 ≤ f ∧ f ≤ 11 ∧ 1 ≤ m ∧ 12 - f < m) := by omega
        have hno : f < 0 ∨ ((12 : Nat) : Int) ≤ f ∨ m < 1 ∨ ((12 : Nat) : Int) - f < m := by omega
        have hnoA := fun (W : World) (A : Option Addr) (c : Nat) (hD : DiskAt W w.heap.size p A c D0) => anew_no hD f m (by rw [HM.out]; exact hno) (by omega)
        have HNO := Lib.hid hno
        clear hd hcalm12 fl c12 hm12 hok hno hS
        rcases hcase with i1 | ⟨i1, i2⟩ | ⟨i1, i2, i3⟩ | ⟨i1, i2, i3, i4⟩
        all_goals
          go_wp2_with (first
            | ((go_at_call 20; (with_reducible refine (hfl).mono ?_); rintro e w5 ⟨rfl, hN5⟩); have S5 := Lib.hid (hS12.out.next hR HD.out hN5); obtain ⟨A5, c5, hd5⟩ := S5.out.dk; have D5 := Lib.hid hd5; have z0 : w5.cell? ⟨w.heap.size, 0, none⟩ = some (.int .i64 f) := S5.out.r.cell 0; have z1 : w5.cell? ⟨w.heap.size, 1, none⟩ = some (.int .i64 m) := S5.out.r.cell 1; clear hd5)
            | ((go_at_call 39; (with_reducible refine (hnoA _ _ _ D5.out).mono ?_); rintro e w6 ⟨rfl, hb6⟩); have S6 := Lib.hid (S5.out.below hR hb6); have u0 : w6.cell? ⟨w.heap.size, 0, none⟩ = some (.int .i64 f) := S6.out.r.cell 0; have u1 : w6.cell? ⟨w.heap.size, 1, none⟩ = some (.int .i64 m) := S6.out.r.cell 1)
            | fail "no arm")
          go_ret
          exact ⟨by first | rfl | (simp; done) | (simp; omega), S6.out.bel⟩
theorem walk (w : World) (v0 : Value) (h0 : ∃ f m, v0 = .agg #[.int .i64 f, .int .i64 m] ∧ i64ok f ∧ i64ok m) (v1 : Value) (h1 : ∃ A n c l, v1 = .slice A n c ∧ Dos8Rd w A n l ∧ n ≤ c ∧ c ≤ maxLen) :
    Calls Try.prog 7 #[v0, v1] w fun e w' => e = .returned (.bool true) ∧ Below w.heap.size w w' := by
  obtain ⟨f, m, rfl, hf, hm⟩ := h0
  obtain ⟨A, n, c, l, rfl, r1, nc1, cm1⟩ := h1
  cases h : few8B l with
  | true => exact walk_main f m A n c l w r1 (by omega) h hf hm
  | false => exact walk_big f m A n c l w r1 (by omega) h

--FRAME tompionlaw08 AreaApart areaApart walk raw:tompion/api.Span:args_span:.agg‹_›#[.int‹_›.i64‹_›0,‹_›.int‹_›.i64‹_›0] raw:[]tompionlaw08.Do:args_dos8:.slice‹_›none‹_›0‹_›0
theorem own : ownKnob Try.prog.godebug = none := by kernel_rfl
theorem laidOut : laidOutB Try.prog = true := by kernel_rfl

set_option maxRecDepth 100000 in
theorem lifted (os : Os) (started : os.Started) (H : Type) (enc : TypeId × Value → H) :
    ReturnsInHanded {} Try.checked os 7 .any (Rows.areaApartSpec.pre6 enc Try.prog Try.f7 Rows.areaApartRow.domain false) (Rows.areaApartSpec.post enc Try.prog Try.f7 false true false false) := by
  refine returnsInHanded_of_change (C := Try.checked) own started (by kernel_rfl) Try.func7
    (ChangeSpec.witness6 (enc := enc) (C := Try.checked) false ⟨#[], #[.agg #[.int .i64 0, .int .i64 0], .slice none 0 0], []⟩ 8 (by kernel_rfl) (by kernel_rfl) (by kernel_rfl) (by kernel_rfl)) ?_
  intro W base args ds gs before hval0 hW hcnd _
  have hval : ∀ (j : Nat) t v, Try.f7.params[j]? = some t → args[j]? = some v → Value.okWide Try.prog W .any base t v := hval0
  have hW' := hW
  obtain ⟨p, q, hA0, hV, rfl, hfz, hnd⟩ := hW
  have hA : DataW.TrodAll enc Try.prog W 0 (fun _ => true) true Try.f7.params.toList args.toList ds p := hA0
  rw [Try.params7] at hA hval
  obtain ⟨v0, vs0, d0, ds0, p0, q0, hargs, rfl, rfl, h0, rr0⟩ := trodAll_cons hA
  obtain ⟨v1, vs1, d1, ds1, p1, q1, rfl, rfl, rfl, h1, rr1⟩ := trodAll_cons rr0
  obtain ⟨rfl, rfl, rfl⟩ := trodAll_nil rr1
  obtain rfl : args = #[v0, v1] := by cases args; simp_all
  obtain ⟨rfl, rfl⟩ := trodVars_none hV
  have k0 := h0
  have lt0 : ∀ x ∈ p0, x.block < W.heap.size := by obtain ⟨m, hm⟩ := k0; exact DataW.trod_lt m _ _ _ hm
  have x0 := args_span (hval 0 69 v0 rfl rfl) h0
  have k1 := h1
  have lt1 : ∀ x ∈ p1, x.block < W.heap.size := by obtain ⟨m, hm⟩ := k1; exact DataW.trod_lt m _ _ _ hm
  have x1 := args_dos8 (hval 1 70 v1 rfl rfl) h1
  clear hA0 hval0
  refine (walk W v0 x0 v1 x1).mono fun e W' ⟨he, bel⟩ => ?_
  subst he
  exact ⟨_, rfl, _, _, _, [], _, [], hW', trodAll_mk1 (shut_bool Try.underlying4 _), (trodAll_cons_mk (Below.trod laidOut (by kernel_rfl) (of_decide_eq_true (by kernel_rfl)) k0 bel lt0) (trodAll_cons_mk (Below.trod laidOut (by kernel_rfl) (of_decide_eq_true (by kernel_rfl)) k1 bel lt1) trodAll_mk0)), rfl, bel.frame _, fun h => by cases h⟩

theorem over : Rows.areaApartRow.holds Try.pinned (OpenSpec.ofChange Rows.areaApartSpec) :=
  OpenClaim.holds_of_wide 7 Try.f7 rfl rfl rfl rfl rfl rfl rfl ⟨rfl, rfl, rfl, rfl, rfl⟩ rfl rfl rfl rfl rfl (by kernel_rfl) Try.func7 (by kernel_rfl)
    (of_decide_eq_true (by kernel_rfl)) (by unfold Func.isWrapper; first | (rw [if_pos (by decide +kernel)]; kernel_rfl) | (rw [if_neg (by decide +kernel)]; exact ⟨rfl, rfl⟩))
    (fun os started H enc _ => lifted os started H enc)

theorem proved : Rows.AreaApartSaid := over
--ENDFRAME
end Go.Proofs.Ytninidpbchcliaa.areaApart
