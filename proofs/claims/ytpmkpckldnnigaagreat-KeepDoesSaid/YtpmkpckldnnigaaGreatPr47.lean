/- Parts: CodeJ. -/
import Derived.Test.YtpmkpckldnnigaaGreatPr02
import Derived.Test.YtpmkpckldnnigaaGreatPr38
import Derived.Test.YtpmkpckldnnigaaGreatPr08
set_option linter.unusedVariables false
set_option linter.unusedSimpArgs false
set_option maxRecDepth 100000
set_option maxHeartbeats 40000000
namespace Go.Proofs.YtpmkpckldnnigaaGreat
open Go.RowKit
theorem vb1 (A : Option Addr) (n c : Nat) (l : List Int) (w : World) (hl : RI w A n l) (hr : qk0 l = true) :
    Calls Tryz.prog 148 #[.slice A n c] w fun e w' => ∃ A N c, e = .returned (.slice A N c) ∧ OB w' w.heap.size 5 A N c (qi9 l) ∧ Below w.heap.size w w' := by
  obtain ⟨r1, r2, r3⟩ := qi1.1 hr; have hlen := hl.1; rw [hlen] at r1 r2 r3; have hdn : digL 9 n = [UInt8.ofNat n] := vk7 omg; have hT : ∀ k, k < n → Hid ([UInt8.ofNat n] ++ (l.take k).map (fun t => UInt8.ofNat t.toNat) ++ [UInt8.ofNat (qd5 l k).toNat] = [UInt8.ofNat n] ++ (l.take (k + 1)).map (fun t => UInt8.ofNat t.toNat)) := fun k hk => by
    show _ = _
    rw [List.take_succ_eq_append_getElem (show k < l.length by omega), List.map_append, List.append_assoc]; unfold qd5; rw [List.getD_eq_getElem?_getD, List.getElem?_eq_getElem (show k < l.length by omega)]
    rfl
  have hfin : Hid (qi9 l = [UInt8.ofNat n] ++ (l.take n).map (fun t => UInt8.ofNat t.toNat)) := by
    show _ = _
    unfold qi9; rw [hlen, hdn, List.take_of_length_le omg]
  have hbn : Hid ((#[Value.int .u8 (n : Nat)] : Array Value).toList = [UInt8.ofNat n].map bv) := by
    show [Value.int .u8 (n : Nat)] = [bv (UInt8.ofNat n)]
    unfold bv; rw [UInt8.toNat_ofNat_of_lt' (by simp [UInt8.size]; omega)]
  have hwn : IntKind.u8.wrap (n : Int) = (n : Int) := by simp [IntKind.wrap, IntKind.bits, IntKind.signed]; omega
  generalize qi9 l = B at *; clear hlen hr hdn; have hL0 : Hid ([UInt8.ofNat n] ++ (l.take 0).map (fun t => UInt8.ofNat t.toNat) = [UInt8.ofNat n]) := by show _ = _; simp
  generalize hK : (fun k : Nat => [UInt8.ofNat n] ++ (l.take k).map (fun t => UInt8.ofNat t.toNat)) = K; have HK : ∀ k, Hid ([UInt8.ofNat n] ++ (l.take k).map (fun t => UInt8.ofNat t.toNat) = K k) := fun k => by rw [← hK]; rfl
  clear hK; have hnew : Ow bv (w.alloc (.cells #[.int .u8 (n : Nat)] 5)) w.heap.size 5 (some ⟨w.heap.size, 0, none⟩) 1 1 [UInt8.ofNat n] := Ow.new w 5 #[.int .u8 (n : Nat)] [UInt8.ofNat n] hbn.out (by simp [maxLen]); go_enter Tryz.func148, Tryz.ntmps148; go_wp2; go_loopw [3, 4] (fun v i wr => ∃ k A2 c2, k ≤ n ∧ i = .int .i64 (k : Nat) ∧ v = .slice A2 (1 + k) c2 ∧ Ow bv wr w.heap.size 5 A2 (1 + k) c2 (K k) ∧ Below w.heap.size w wr) (fun _ i _ => n - (intOf i).toNat)
  case atStart => exact ⟨0, _, 1, omg, rfl, rfl, by rw [← (HK 0).out, hL0.out]; exact hnew, gwn⟩
  case round =>
    clear hnew; obtain ⟨k, A2, c2, hk, rfl, rfl, hown2, hbel⟩ := hrel; have hbs2 := hbel.size
    by_cases hlt : k < n
    · obtain ⟨b, o, rfl, _, hc⟩ := (hl.below hbel nlr).at_ hlt; have h12 := r1 k hlt; have hkT := hT k hlt; have hkL : Hid (K k ++ [UInt8.ofNat (qd5 l k).toNat] = K (k + 1)) := by show _ = _; rw [← (HK k).out, ← (HK (k + 1)).out]; exact hkT.out
      clear r1 hT hkT HK hL0; rcases h12 with h | h
      all_goals
        rw [h] at hc hkL; clear h
      · go_wp2_with (at_builtin; refine qa6 rfl rfl qb4 qc2 (s := .tmp 15) (N := 1 + (k + 1)) (L := K (k + 1)) rfl (hown2.below (b := wr.heap.size) gwn szz) rfl (k := [(1 : UInt8)]) (Rd.of_block (l := [(1 : UInt8)]) (qb7 _ _ smp) rfl) rfl (hkL.out) uml omg szz ?_; intro A5 c5 w5 hown5 hg5 hat5 hb5); replace hb5 := qa0 (a := w) (B := w.heap.size) gwn hb5 szz; have hb5s := hb5.size; go_roundw
        case rel => exact ⟨k + 1, A5, c5, omg, by go_num, rfl, hown5, hb5⟩
        case measure => simp [intOf]; omega
      · go_wp2_with (at_builtin; refine qa6 rfl rfl qb4 qc2 (s := .tmp 15) (N := 1 + (k + 1)) (L := K (k + 1)) rfl (hown2.below (b := wr.heap.size) gwn szz) rfl (k := [(2 : UInt8)]) (Rd.of_block (l := [(2 : UInt8)]) (qb7 _ _ smp) rfl) rfl (hkL.out) uml omg szz ?_; intro A5 c5 w5 hown5 hg5 hat5 hb5); replace hb5 := qa0 (a := w) (B := w.heap.size) gwn hb5 szz; have hb5s := hb5.size; go_roundw
        case rel => exact ⟨k + 1, A5, c5, omg, by go_num, rfl, hown5, hb5⟩
        case measure => simp [intOf]; omega
    · have hkn : k = n := omg; subst hkn; have hF : Hid (B = K k) := by show _ = _; rw [hfin.out]; exact (HK k).out
      clear r1 hT HK hfin; go_wp2; go_ret; exact ⟨A2, _, c2, rfl, by rw [hF.out]; exact hown2, hbel⟩
theorem qr3 (n : Int) (h0 : 0 ≤ n) (h1 : n ≤ 9223372036854775807) (w : World) : Calls Tryz.prog 149 #[.int .i64 n] w fun e w' => ∃ A c, e = .returned (.slice A (digL 9 n.toNat).length c) ∧ OB w' w.heap.size 5 A (digL 9 n.toNat).length c (digL 9 n.toNat) ∧ Below w.heap.size w w' := by
  have h := vj7 n.toNat w omg; rw [show ((n.toNat : Nat) : Int) = n by omega] at h; exact h
def hasM (op : Int) : Nat := match cls op with | 1 => 1 | 2 => 2 | 3 => 3 | 4 => 3 | _ => 0
theorem hasM_eq (op : Int) : hasN op = (hasM op : Nat) ∧ hasM op ≤ 3 := by
  unfold hasN hasM; have := cls_le op; generalize cls op = q at *; rcases (show q = 0 ∨ q = 1 ∨ q = 2 ∨ q = 3 ∨ q = 4 by omega) with rfl | rfl | rfl | rfl | rfl <;> decide
theorem insBs_eq (x : Ins) (h : cls x.op ≠ 0) : qn5 x = [UInt8.ofNat x.op.toNat] ++ catK (fun i => [digL 9 x.a.toNat, digL 9 x.b.toNat, digL 9 x.c.toNat].getD i []) (hasM x.op) ++ (if hasK x.op then digL 9 (zz x.k) else []) := by
  unfold qn5 hasM; have := cls_le x.op; generalize cls x.op = q at *; rcases (show q = 1 ∨ q = 2 ∨ q = 3 ∨ q = 4 by omega) with rfl | rfl | rfl | rfl <;> simp [catK]
theorem refcbytes_any (x : PA) (p : PV) (w : World) (h : qc8 w x p) (hw : qs1 p) (hm : mayB p = true) :
    Calls Tryz.prog 69 #[.agg #[.slice x.A1 x.n1 x.c1, .slice x.A2 x.n2 x.c2, .int .i64 p.regs, .slice x.A3 x.n3 x.c3, .slice x.A4 x.n4 x.c4]] w fun e w' => ∃ A N c, e = .returned (.slice A N c) ∧ OB w' w.heap.size 5 A N c (qi6 p) ∧ Below w.heap.size w w' := by
  obtain ⟨m1, m2, m3, m4, m5, m6, m7, m8⟩ := qe9.1 hm; clear hm; obtain ⟨A1, n1, c1, A2, n2, c2, A3, n3, c3, A4, n4, c4⟩ := x; obtain ⟨ins, outs, regs, cells, code⟩ := p; obtain ⟨r1, r2, r3, r4, k1, k2, k3, k4⟩ := h; simp only at r1 r2 r3 r4 k1 k2 k3 k4 m1 m2 m3 m4 m5 m6 m7 m8 ⊢; have ht1 := fun w h => vb1 A1 n1 c1 ins w h m1
  have ht2 := fun w h => vb1 A2 n2 c2 outs w h m2
  have hs1 := fun w => qr3 regs m3 omg w
  have hs2 := fun w => vj7 n3 w (by have := r3.1; omega)
  have hs4 := fun w => vj7 n4 w (by have := r4.1; omega)
  have l1 := qs2 ins (qi1.1 m1).2.2; have l2 := qs2 outs (qi1.1 m2).2.2; have l3 := (qf8 9 regs.toNat).1; have l4 := (qf8 9 n3).1; have l5 := (qf8 9 n4).1; have m5' : n3 ≤ 60 := by rw [← r3.1]; exact m5
  have m6' : n4 ≤ 2048 := by rw [← r4.1]; exact m6
  have hP : Hid (qi9 ins ++ qi9 outs ++ digL 9 regs.toNat ++ digL 9 n3 ++ cells.flatMap qm4 ++ digL 9 n4 ++ code.flatMap qn5 = qi6 ⟨ins, outs, regs, cells, code⟩) := by
    show _ = _
    unfold qi6 vi3; rw [r4.1, r3.1]
  generalize qi6 ⟨ins, outs, regs, cells, code⟩ = PBY at *; generalize qi9 ins = T1 at *; generalize qi9 outs = T2 at *; generalize digL 9 regs.toNat = D1 at *; generalize digL 9 n3 = D2 at *; generalize digL 9 n4 = D4 at *; have hk1 : Blk (w.alloc (.cells #[.slice A1 n1 c1, .slice A2 n2 c2, .int .i64 regs, .slice A3 n3 c3, .slice A4 n4 c4] 27)) w.heap.size 27 [.slice A1 n1 c1, .slice A2 n2 c2, .int .i64 regs, .slice A3 n3 c3, .slice A4 n4 c4] := blq; go_enter Tryz.func69, Tryz.ntmps69; go_wp2; go_region_held3 (fun w' => w'.cell? ⟨w.heap.size, 0, none⟩ = some (.slice A1 n1 c1) ∧ w'.cell? ⟨w.heap.size, 1, none⟩ = some (.slice A2 n2 c2)) (first | go_keep | (refine ⟨?_, ?_⟩ <;> assumption)) (first | ((go_at_call 148; (with_reducible refine (ht1 _ (r1.below (B := w.heap.size) gwn nlr)).mono ?_); rintro e w2 ⟨B1, N1, d1, rfl, own1, hb2⟩); have hk2 := Blk.below (w' := w2) (g := w.heap.size) (t := 27) (cs := [.slice A1 n1 c1, .slice A2 n2 c2, .int .i64 regs, .slice A3 n3 c3, .slice A4 n4 c4]) blq hb2 szz; obtain ⟨g20, g21, g22, g23, g24⟩ := blk5 hk2; replace hb2 := qa0 (a := w) (B := w.heap.size) gwn hb2 szz; have hb2s := hb2.size) | ((go_at_call 148; (with_reducible refine (ht2 _ (r2.below (B := w.heap.size) gwn nlr)).mono ?_); rintro e w3 ⟨B2, N2, d2, rfl, own2, hb3⟩); have hk3 := hk2.below (w' := w3) hb3 hk2.lt; obtain ⟨g30, g31, g32, g33, g34⟩ := blk5 hk3; have z3 := hk3.lt; have own1a := own1.below hb3 nlr; have q1 : N1 ≤ 18 ∧ 0 < N1 := (by rw [← own1.1]; exact l1); have q2 : N2 ≤ 18 ∧ 0 < N2 := (by rw [← own2.1]; exact l2); replace hb3 := qa0 (a := w) (B := w.heap.size) gwn hb3 szz; have hb3s := hb3.size) | (refine qd6 rfl rfl qb4 qc2 (s := .tmp 13) (N := N1 + N2) (L := T1 ++ T2) rfl own1a rfl (k := T2) own2.rd rfl rfl uml omg szz ?_; intro A4' c4' w4 own4 hg4 hat4 hb4; have hk4 : Blk w4 w.heap.size 27 [.slice A1 n1 c1, .slice A2 n2 c2, .int .i64 regs, .slice A3 n3 c3, .slice A4 n4 c4] := Blk.grown hk3 hg4 (own1a.ne_ hk3 dcd); obtain ⟨g40, g41, g42, g43, g44⟩ := blk5 hk4; replace own4 := own4.rebase (base' := w.heap.size) szz; replace hb4 := qa0 (a := w) (B := w.heap.size) gwn hb4 szz; have hb4s := hb4.size)); go_wp2_with (first | ((go_at_call 149; (with_reducible refine (hs1 _).mono ?_); rintro e w5 ⟨A5, c5, rfl, row5, hb5⟩); have own5 := own4.below hb5 nlr; have hk5 := hk4.below (w' := w5) hb5 hk4.lt; obtain ⟨g50, g51, g52, g53, g54⟩ := blk5 hk5; replace hb5 := qa0 (a := w) (B := w.heap.size) gwn hb5 szz; have hb5s := hb5.size) | (at_builtin; refine qa6 rfl rfl qb4 qc2 (s := .tmp 18) (N := N1 + N2 + D1.length) (L := T1 ++ T2 ++ D1) rfl own5 rfl (k := D1) row5.rd rfl rfl uml omg szz ?_; intro A6 c6 w6 own6 hg6 hat6 hb6; have hk6 : Blk w6 w.heap.size 27 [.slice A1 n1 c1, .slice A2 n2 c2, .int .i64 regs, .slice A3 n3 c3, .slice A4 n4 c4] := Blk.grown hk5 hg6 (own5.ne_ hk5 dcd); obtain ⟨g60, g61, g62, g63, g64⟩ := blk5 hk6; replace hb6 := qa0 (a := w) (B := w.heap.size) gwn hb6 szz; have hb6s := hb6.size) | ((go_at_call 149; (with_reducible refine (hs2 _).mono ?_); rintro e w7 ⟨A7, c7, rfl, row7, hb7⟩); have own7 := own6.below hb7 nlr; have hk7 := hk6.below (w' := w7) hb7 hk6.lt; obtain ⟨g70, g71, g72, g73, g74⟩ := blk5 hk7; replace hb7 := qa0 (a := w) (B := w.heap.size) gwn hb7 szz; have hb7s := hb7.size) | (at_builtin; refine qa6 rfl rfl qb4 qc2 (s := .tmp 23) (N := N1 + N2 + D1.length + D2.length) (L := T1 ++ T2 ++ D1 ++ D2) rfl own7 rfl (k := D2) row7.rd rfl rfl uml omg szz ?_; intro A8 c8 w8 own8 hg8 hat8 hb8; have hk8 : Blk w8 w.heap.size 27 [.slice A1 n1 c1, .slice A2 n2 c2, .int .i64 regs, .slice A3 n3 c3, .slice A4 n4 c4] := Blk.grown hk7 hg8 (own7.ne_ hk7 dcd); obtain ⟨g80, g81, g82, g83, g84⟩ := blk5 hk8; replace hb8 := qa0 (a := w) (B := w.heap.size) gwn hb8 szz; have hb8s := hb8.size)); have hN8 : N1 + N2 + D1.length + D2.length ≤ 100 := omg; generalize N1 + N2 + D1.length + D2.length = N8 at *
  generalize T1 ++ T2 ++ D1 ++ D2 = HB at *; have hsz8 := hk8.lt; clear own1 own2 own1a own4 own5 own6 own7 row5 row7 hk1 hk2 hk3 hk4 hk5 hk6 hk7 g20 g21 g22 g23 g24 g30 g31 g32 g33 g34 g40 g41 g42 g43 g44 g50 g51 g52 g53 g54 g60 g61 g62 g63 g64 g70 g71 g72 g73 g74 g80 g81 g82 g83 g84 ht1 ht2 hs1 hs2 q1 q2 l1 l2 l3 l4 hb2 hb3 hb4 hb5 hb6 hb7 hb2s hb3s hb4s hb5s hb6s hb7s hg4 hg6 hg8 hat4 hat6 hat8; have hcat : ∀ (k : Nat) (x : Int × Int), cells[k]? = some x → Hid (HB ++ (cells.take k).flatMap qm4 ++ [UInt8.ofNat x.1.toNat] ++ digL 9 (zz x.2) = HB ++ (cells.take (k + 1)).flatMap qm4) := fun k x hx => by
    show _ = _
    obtain ⟨hk, e⟩ := List.getElem?_eq_some_iff.1 hx; rw [List.take_succ_eq_append_getElem hk, List.flatMap_append, e]; simp [qm4]
  have hval : ∀ (k : Nat) (x : Int × Int), cells[k]? = some x → x.1 = 1 ∨ x.1 = 2 := fun k x hx => by
    obtain ⟨hk, e⟩ := List.getElem?_eq_some_iff.1 hx; have h9 := m7 k hk; rw [qk9 hx] at h9; unfold qh7 at h9; simp at h9; omega
  have hz0 : Hid (HB ++ (cells.take 0).flatMap qm4 = HB) := by show _ = _; simp
  go_loopw [3, 4] (fun v i wr => ∃ (k N : Nat) (B : Option Addr) (d : Nat), k ≤ n3 ∧ i = .int .i64 (k : Nat) ∧ v = .slice B N d ∧ N ≤ 100 + 11 * k ∧ Ow bv wr w.heap.size 5 B N d (HB ++ (cells.take k).flatMap qm4) ∧ Below w.heap.size w wr ∧ w.heap.size < wr.heap.size ∧
      Blk wr w.heap.size 27 [.slice A1 n1 c1, .slice A2 n2 c2, .int .i64 regs, .slice A3 n3 c3, .slice A4 n4 c4]) (fun _ i _ => n3 - (intOf i).toNat)
  case atStart => exact ⟨0, N8, A8, c8, omg, rfl, rfl, omg, by rw [hz0.out]; exact own8, hb8, hsz8, hk8⟩
  case round =>
    clear own8 hk8 hsz8 hb8 hb8s hN8; obtain ⟨k, N, B, d, hk, rfl, rfl, hN, hown, hbel, hsz, hblk⟩ := hrel; have hbs := hbel.size; obtain ⟨g0, g1, g2, g3, g4⟩ := blk5 hblk
    by_cases hlt : k < n3
    · obtain ⟨b, o, x, rfl, hbl, hx, hc⟩ := (r3.below hbel nlr).at_ qj2 omg hlt; have h0 : wr.cell? ⟨b, o + k * 2, none⟩ = some (.int .i64 x.1) := hc 0 omg; have h12 := hval k x hx; have hcx := hcat k x hx; have hwx := hw.cells x (List.mem_of_getElem? hx); have hzig := fun w => vh5 x.2 w hwx.1 hwx.2
      have hd := (qf8 9 (zz x.2)).1; have hxx := hx; clear hc hcat hval hz0; have hi0 : (0 : Int) ≤ (k : Int) := omg; have hi1 : (k : Int) < (n3 : Int) := omg; have hr3' : ∀ w2 : World, Below w.heap.size w w2 → ∃ t f, x = (t, f) ∧ w2.cell? ⟨b, o + k * 2 + 1, none⟩ = some (.int .i64 f) := fun w2 hb2 => by
        obtain ⟨b2, o2, x2, e, hbl, hx2, hc⟩ := (r3.below hb2 nlr).at_ qj2 omg hlt; injection e with e; injection e with e1 e2 _; subst e1 e2; rw [hxx] at hx2; injection hx2 with hx2; subst hx2; exact ⟨x.1, x.2, rfl, hc 1 omg⟩
      have hr3 : ∀ w2 : World, Below w.heap.size w w2 → w2.cell? ⟨b, o + k * 2 + 1, none⟩ = some (.int .i64 x.2) := fun w2 hb2 => by
        obtain ⟨t, f, e, h⟩ := hr3' w2 hb2; rw [e]; exact h
      have Hr3 := hdd hr3; clear hr3 hr3' hxx hx; obtain ⟨t, f⟩ := x; simp only at h0 h12 hcx hzig hd Hr3; generalize HB ++ (cells.take k).flatMap qm4 = X at *; generalize digL 9 (zz f) = D at *; rcases h12 with rfl | rfl
      · go_wp2_with (first | ((go_at_call 150; (with_reducible refine (hzig _).mono ?_); rintro e w8 ⟨A8, c8, rfl, row8, hb8⟩); have own8 := own7.below hb8 nlr; have hk8 := hk7.below (w' := w8) hb8 hk7.lt; replace hb8 := qa0 (a := w) (B := w.heap.size) gwn hb8 szz; have hb8s := hb8.size) | (at_builtin; refine qa6 rfl rfl qb4 qc2 (s := .tmp 36) (N := N + 1) (L := X ++ [1]) rfl (hown.below (b := wr.heap.size) gwn nlr) rfl (k := [1]) (Rd.of_block (l := [1]) (qb7 _ _ smp) rfl) rfl rfl uml omg szz ?_; intro A7 c7 w7 own7 hg7 hat7 hb7; have hk7 : Blk w7 w.heap.size 27 [.slice A1 n1 c1, .slice A2 n2 c2, .int .i64 regs, .slice (some ⟨b, o, none⟩) n3 c3, .slice A4 n4 c4] := Blk.grown blq hg7 (hown.ne_ hblk dcd); obtain ⟨y70, y71, y72, y73, y74⟩ := blk5 hk7; replace hb7 := qa0 (a := w) (B := w.heap.size) gwn hb7 szz; have hb7s := hb7.size; have y75 := Hr3.out w7 hb7) | (at_builtin; refine qa6 rfl rfl qb4 qc2 (s := .tmp 46) (N := N + 1 + D.length) (L := X ++ [1] ++ D) rfl own8 rfl (k := D) row8.rd rfl rfl uml omg szz ?_; intro A9 c9 w9 own9 hg9 hat9 hb9; have hk9 : Blk w9 w.heap.size 27 [.slice A1 n1 c1, .slice A2 n2 c2, .int .i64 regs, .slice (some ⟨b, o, none⟩) n3 c3, .slice A4 n4 c4] := Blk.grown hk8 hg9 (own8.ne_ hk8 dcd); replace hb9 := qa0 (a := w) (B := w.heap.size) gwn hb9 szz; have hb9s := hb9.size)); go_roundw
        case rel => exact ⟨k + 1, N + 1 + D.length, A9, c9, omg, by go_num, rfl, omg, by rw [← hcx.out]; exact own9, hb9, hk9.lt, hk9⟩
        case measure => simp [intOf]; omega
      · go_wp2_with (first | ((go_at_call 150; (with_reducible refine (hzig _).mono ?_); rintro e w8 ⟨A8, c8, rfl, row8, hb8⟩); have own8 := own7.below hb8 nlr; have hk8 := hk7.below (w' := w8) hb8 hk7.lt; replace hb8 := qa0 (a := w) (B := w.heap.size) gwn hb8 szz; have hb8s := hb8.size) | (at_builtin; refine qa6 rfl rfl qb4 qc2 (s := .tmp 36) (N := N + 1) (L := X ++ [2]) rfl (hown.below (b := wr.heap.size) gwn nlr) rfl (k := [2]) (Rd.of_block (l := [2]) (qb7 _ _ smp) rfl) rfl rfl uml omg szz ?_; intro A7 c7 w7 own7 hg7 hat7 hb7; have hk7 : Blk w7 w.heap.size 27 [.slice A1 n1 c1, .slice A2 n2 c2, .int .i64 regs, .slice (some ⟨b, o, none⟩) n3 c3, .slice A4 n4 c4] := Blk.grown blq hg7 (hown.ne_ hblk dcd); obtain ⟨y70, y71, y72, y73, y74⟩ := blk5 hk7; replace hb7 := qa0 (a := w) (B := w.heap.size) gwn hb7 szz; have hb7s := hb7.size; have y75 := Hr3.out w7 hb7) | (at_builtin; refine qa6 rfl rfl qb4 qc2 (s := .tmp 46) (N := N + 1 + D.length) (L := X ++ [2] ++ D) rfl own8 rfl (k := D) row8.rd rfl rfl uml omg szz ?_; intro A9 c9 w9 own9 hg9 hat9 hb9; have hk9 : Blk w9 w.heap.size 27 [.slice A1 n1 c1, .slice A2 n2 c2, .int .i64 regs, .slice (some ⟨b, o, none⟩) n3 c3, .slice A4 n4 c4] := Blk.grown hk8 hg9 (own8.ne_ hk8 dcd); replace hb9 := qa0 (a := w) (B := w.heap.size) gwn hb9 szz; have hb9s := hb9.size)); go_roundw
        case rel => exact ⟨k + 1, N + 1 + D.length, A9, c9, omg, by go_num, rfl, omg, by rw [← hcx.out]; exact own9, hb9, hk9.lt, hk9⟩
        case measure => simp [intOf]; omega
    · have hkn : k = n3 := omg; subst hkn; have hge : (k : Int) ≤ (k : Int) := omg; have hHC : Hid (HB ++ (cells.take k).flatMap qm4 = HB ++ cells.flatMap qm4) := by
        show _ = _
        rw [List.take_of_length_le (by have := r3.1; omega)]
      rw [hHC.out] at hown; generalize HB ++ cells.flatMap qm4 = HC at *; clear hcat hval hz0 r3; go_wp2_with (first | ((go_at_call 149; (with_reducible refine (hs4 _).mono ?_); rintro e w8 ⟨A8, c8, rfl, row8, hb8⟩); have own8 := hown.below hb8 nlr; have hk8 := hblk.below (w' := w8) hb8 hblk.lt; replace hb8 := qa0 (a := w) (B := w.heap.size) gwn hb8 szz; have hb8s := hb8.size) | (at_builtin; refine qa6 rfl rfl qb4 qc2 (s := .tmp 55) (N := N + D4.length) (L := HC ++ D4) rfl own8 rfl (k := D4) row8.rd rfl rfl uml omg szz ?_; intro A9 c9 w9 own9 hg9 hat9 hb9; have hk9 : Blk w9 w.heap.size 27 [.slice A1 n1 c1, .slice A2 n2 c2, .int .i64 regs, .slice A3 k c3, .slice A4 n4 c4] := Blk.grown hk8 hg9 (own8.ne_ hk8 dcd); obtain ⟨y90, y91, y92, y93, y94⟩ := blk5 hk9; replace hb9 := qa0 (a := w) (B := w.heap.size) gwn hb9 szz; have hb9s := hb9.size)); have hfin : Hid (HC ++ D4 ++ (code.take n4).flatMap qn5 = PBY) := by
        show _ = _
        rw [List.take_of_length_le (by have := r4.1; omega)]; exact hP.out
      have hszB := hk9.lt; have hN9 : N + D4.length ≤ 1000 := omg; generalize N + D4.length = N9 at *; have hz0 : Hid (HC ++ D4 ++ (code.take 0).flatMap qn5 = HC ++ D4) := by show _ = _; simp
      generalize HC ++ D4 = HB at *; clear hown hbel hsz hblk hk8 own8 row8 hb8 hs4 g0 g1 g2 g3 g4 hat9 hg9 hb8s hbs y90 y91 y92 y93 y94; go_loopw [3, 5] (fun v i wr => ∃ (j N : Nat) (B : Option Addr) (d : Nat), j ≤ n4 ∧ i = .int .i64 (j : Nat) ∧ v = .slice B N d ∧ N ≤ 1000 + 41 * j ∧ Ow bv wr w.heap.size 5 B N d (HB ++ (code.take j).flatMap qn5) ∧ Below w.heap.size w wr ∧ w.heap.size < wr.heap.size ∧
          Blk wr w.heap.size 27 [.slice A1 n1 c1, .slice A2 n2 c2, .int .i64 regs, .slice A3 k c3, .slice A4 n4 c4]) (fun _ i _ => n4 - (intOf i).toNat)
      case atStart => exact ⟨0, N9, A9, c9, omg, rfl, rfl, omg, by rw [hz0.out]; exact own9, hb9, hszB, hk9⟩
      case round =>
        clear own9 hk9 hszB hb9 hb9s hN9 hz0; obtain ⟨j, N, B, d, hj, rfl, rfl, hN, hown, hbel, hsz, hblk⟩ := hrel; have hbs := hbel.size; obtain ⟨y10, y11, y12, y13, y14⟩ := blk5 hblk
        by_cases hlt : j < n4
        · obtain ⟨b, o, x, rfl, hbl, hx, hc⟩ := (r4.below hbel nlr).at_ qk8 omg hlt; have hwx := hw.code x (List.mem_of_getElem? hx); have hin : insB x = true := by
            have h9 := m8 j (by rw [r4.1]; exact hlt)
            rwa [qk4 hx] at h9
          have hcx : Hid (HB ++ (code.take j).flatMap qn5 ++ qn5 x = HB ++ (code.take (j + 1)).flatMap qn5) := by
            show _ = _
            obtain ⟨hk, e⟩ := List.getElem?_eq_some_iff.1 hx; rw [List.take_succ_eq_append_getElem hk, List.flatMap_append, e]; simp
          obtain ⟨op, xa, xb, xc, xk⟩ := x; have e0 : wr.cell? ⟨b, o + j * 5, none⟩ = some (.int .i64 op) := hc 0 omg; have e1 : wr.cell? ⟨b, o + j * 5 + 1, none⟩ = some (.int .i64 xa) := hc 1 omg; have e2 : wr.cell? ⟨b, o + j * 5 + 2, none⟩ = some (.int .i64 xb) := hc 2 omg; have e3 : wr.cell? ⟨b, o + j * 5 + 3, none⟩ = some (.int .i64 xc) := hc 3 omg; have e4 : wr.cell? ⟨b, o + j * 5 + 4, none⟩ = some (.int .i64 xk) := hc 4 omg; obtain ⟨i1, i2, i3, i4, i5, i6, i7⟩ : InsOk ⟨op, xa, xb, xc, xk⟩ := of_decide_eq_true hin; have hbe := insBs_eq ⟨op, xa, xb, xc, xk⟩ i1; rw [hbe, ← List.append_assoc, ← List.append_assoc] at hcx; simp only at hwx i1 i2 i3 i4 hcx; have hop : 1 ≤ op ∧ op ≤ 32 := by
            by_cases h9 : 1 ≤ op ∧ op ≤ 32
            · exact h9
            · exact absurd (cls_0 omg) i1
          have hS : ∀ i, i < 3 → ∀ w, Calls Tryz.prog 149 #[.int .i64 ([xa, xb, xc].getD i 0)] w fun e w' => ∃ A c, e = .returned (.slice A ([digL 9 xa.toNat, digL 9 xb.toNat, digL 9 xc.toNat].getD i []).length c) ∧ OB w' w.heap.size 5 A ([digL 9 xa.toNat, digL 9 xb.toNat, digL 9 xc.toNat].getD i []).length c ([digL 9 xa.toNat, digL 9 xb.toNat, digL 9 xc.toNat].getD i []) ∧ Below w.heap.size w w' := fun i hi w => by
            match i, hi with
            | 0, _ => exact qr3 xa i2 hwx.1 w
            | 1, _ => exact qr3 xb i3 hwx.2.1 w
            | 2, _ => exact qr3 xc i4 hwx.2.2.1 w
          have hLen : ∀ i, i < 3 → ([digL 9 xa.toNat, digL 9 xb.toNat, digL 9 xc.toNat].getD i []).length ≤ 10 := fun i hi => by
            match i, hi with
            | 0, _ => exact (qf8 9 xa.toNat).1
            | 1, _ => exact (qf8 9 xb.toNat).1
            | 2, _ => exact (qf8 9 xc.toNat).1
          have hK := fun w => vh5 xk w hwx.2.2.2.1 hwx.2.2.2.2
          have dK := (qf8 9 (zz xk)).1; have hf := fun w => has_any op w
          have hM := hasM_eq op; rw [hM.1] at hf; have hM3 := hM.2; have hw8 : IntKind.u8.wrap op = op := by simp [IntKind.wrap, IntKind.bits, IntKind.signed]; omega
          have hbv : Hid ((#[Value.int .u8 op] : Array Value).toList = [UInt8.ofNat op.toNat].map bv) := by
            show [Value.int .u8 op] = [bv (UInt8.ofNat op.toNat)]
            unfold bv; rw [UInt8.toNat_ofNat_of_lt' (by simp [UInt8.size]; omega), show ((op.toNat : Nat) : Int) = op by omega]
          have o1 := hop.1; have o2 := hop.2; have hvals : ∀ i, i < 3 → Hid ([Value.int .i64 xa, .int .i64 xb, .int .i64 xc][i]? = some (.int .i64 ([xa, xb, xc].getD i 0))) := fun i hi => by
            match i, hi with
            | 0, _ => exact rfl
            | 1, _ => exact rfl
            | 2, _ => exact rfl
          clear hc hx hin i5 i6 i7 hop hwx m7 m8 hw hM hbe; generalize HB ++ (code.take j).flatMap qn5 = X at *; have HS := hdd hS; have HL := hdd hLen; clear hS hLen; generalize hLf : (fun i : Nat => [digL 9 xa.toNat, digL 9 xb.toNat, digL 9 xc.toNat].getD i []) = Lf at *; have HLf : ∀ i, Hid ([digL 9 xa.toNat, digL 9 xb.toNat, digL 9 xc.toNat].getD i [] = Lf i) := fun i => by rw [← hLf]; rfl
          generalize hVf : (fun i : Nat => [xa, xb, xc].getD i 0) = Vf at *; have HVf : ∀ i, Hid ([xa, xb, xc].getD i 0 = Vf i) := fun i => by rw [← hVf]; rfl
          have hS : Hid (∀ i, i < 3 → ∀ w, Calls Tryz.prog 149 #[.int .i64 (Vf i)] w fun e w' => ∃ A c, e = .returned (.slice A (Lf i).length c) ∧ OB w' w.heap.size 5 A (Lf i).length c (Lf i) ∧ Below w.heap.size w w') := fun i hi w => by
            have h9 := HS.out i hi w; rw [(HLf i).out, (HVf i).out] at h9; exact h9
          have hLen : Hid (∀ i, i < 3 → (Lf i).length ≤ 10) := fun i hi => by rw [← (HLf i).out]; exact HL.out i hi
          have hvals2 : ∀ i, i < 3 → Hid ([Value.int .i64 xa, .int .i64 xb, .int .i64 xc][i]? = some (.int .i64 (Vf i))) := fun i hi => by
            have h9 := (hvals i hi).out; rw [(HVf i).out] at h9; exact h9
          clear HS HL HLf HVf hvals hLf hVf; generalize digL 9 (zz xk) = DK at *; generalize hasM op = M at *; have hgx : w.heap.size ≠ wr.heap.size := omg; obtain ⟨wo, hwo⟩ : ∃ wo : World, wr = wo := ⟨_, rfl⟩; subst hwo; go_wp2_with (first | (go_at_call 142; (with_reducible refine (hf _).mono ?_); rintro e w2 ⟨rfl, rfl⟩) | (at_builtin; refine qa6 rfl rfl qb4 qc2 (s := .tmp 79) (N := N + 1) (L := X ++ [UInt8.ofNat op.toNat]) rfl (hown.below (b := wr.heap.size) gwn nlr) rfl (k := [UInt8.ofNat op.toNat]) (Rd.of_block (l := [UInt8.ofNat op.toNat]) (qb7 _ _ smp) hbv.out) rfl rfl uml omg szz ?_; intro A7 c7 w7 own7 hg7 hat7 hb7; have hk7 : Blk w7 wr.heap.size 133 [.int .i64 op, .int .i64 xa, .int .i64 xb, .int .i64 xc, .int .i64 xk] := Blk.grown blq hg7 (fun e => by have := (hown.lt _ e).2; omega); have hp7 : Blk w7 w.heap.size 27 [.slice A1 n1 c1, .slice A2 n2 c2, .int .i64 regs, .slice A3 k c3, .slice (some ⟨b, o, none⟩) n4 c4] := Blk.grown blq hg7 (hown.ne_ hblk dcd); obtain ⟨y70, y71, y72, y73, y74⟩ := blk5 hk7; replace hb7 := qa0 (a := w) (B := w.heap.size) gwn hb7 szz; have hb7s := hb7.size)); have hcat0 : Hid (X ++ [UInt8.ofNat op.toNat] ++ catK Lf 0 = X ++ [UInt8.ofNat op.toNat]) := by show _ = _; simp [catK]
          have hsz7 := hp7.lt; have hkl7 := hk7.lt; go_loopw [3, 10] (fun v i w3 => ∃ (q N2 : Nat) (B2 : Option Addr) (d2 : Nat), q ≤ M ∧ i = .int .i64 (q : Nat) ∧ v = .slice B2 N2 d2 ∧ N2 ≤ N + 1 + 10 * q ∧ Ow bv w3 w.heap.size 5 B2 N2 d2 (X ++ [UInt8.ofNat op.toNat] ++ catK Lf q) ∧ Below w.heap.size w w3 ∧ w.heap.size < w3.heap.size ∧
              Blk w3 w.heap.size 27 [.slice A1 n1 c1, .slice A2 n2 c2, .int .i64 regs, .slice A3 k c3, .slice (some ⟨b, o, none⟩) n4 c4] ∧ Blk w3 wr.heap.size 133 [.int .i64 op, .int .i64 xa, .int .i64 xb, .int .i64 xc, .int .i64 xk] ∧ Blk w3 w7.heap.size 3 [.int .i64 xa, .int .i64 xb, .int .i64 xc]) (fun _ i _ => M - (intOf i).toNat)
          case atStart => exact ⟨0, N + 1, A7, c7, omg, rfl, rfl, omg, by rw [hcat0.out]; exact own7.below ((Below.refl _ _).alloc nlr _) nlr, gwn, szz, blq, blq, blq⟩
          case round =>
            clear own7 hcat0; obtain ⟨q, N2, B2, d2, hq, rfl, rfl, hN2, own8, hbel8, hsz8, hp8, hx8, hl8⟩ := hrel; have hbs8 := hbel8.size
            by_cases hqM : q < M
            · have hc : wr.cell? ⟨w7.heap.size, q, none⟩ = some (.int .i64 (Vf q)) := by rw [hl8.cell]; exact (hvals2 q omg).out
              have hSq := hS.out q omg; have hLq := hLen.out q omg; have hqi : (q : Int) < (M : Int) := omg; have hkL : Hid (X ++ [UInt8.ofNat op.toNat] ++ catK Lf q ++ Lf q = X ++ [UInt8.ofNat op.toNat] ++ catK Lf (q + 1)) := by
                show _ = _
                rw [List.append_assoc _ (catK Lf q)]; rfl
              clear hvals2 hS hLen; generalize Vf q = vq at *; generalize Lf q = Lq at *; go_wp2_with (first | ((go_at_call 149; (with_reducible refine (hSq _).mono ?_); rintro e w9 ⟨A9, c9, rfl, row9, hb9⟩); have own9 := own8.below hb9 nlr; have hp9 := hp8.below (w' := w9) hb9 hp8.lt; have hx9 := hx8.below (w' := w9) hb9 hx8.lt; have hl9 := hl8.below (w' := w9) hb9 hl8.lt; replace hb9 := qa0 (a := w) (B := w.heap.size) gwn hb9 szz; have hb9s := hb9.size) | (at_builtin; refine qa6 rfl rfl qb4 qc2 (s := .tmp 97) (N := N2 + Lq.length) (L := X ++ [UInt8.ofNat op.toNat] ++ catK Lf (q + 1)) rfl own9 rfl (k := Lq) row9.rd rfl hkL.out uml omg szz ?_; intro A10 c10 w10 own10 hg10 hat10 hb10; have hp10 := Blk.grown hp9 hg10 (own9.ne_ hp9 dcd); have hx10 := Blk.grown hx9 hg10 (own9.ne_ hx9 dcd); have hl10 := Blk.grown hl9 hg10 (own9.ne_ hl9 dcd); replace hb10 := qa0 (a := w) (B := w.heap.size) gwn hb10 szz; have hb10s := hb10.size)); go_roundw
              case rel => exact ⟨q + 1, N2 + Lq.length, A10, c10, omg, by go_num, rfl, omg, own10, hb10, hp10.lt, hp10, hx10, hl10⟩
              case measure => simp [intOf]; omega
            · have hqe : q = M := omg; subst hqe; have hge : (q : Int) ≤ (q : Int) := omg; obtain ⟨z0, z1, z2, z3, z4⟩ := blk5 hx8; clear hvals2 hS hLen; generalize hasK op = kb at *
              cases kb with
              | true =>
                have hcy : Hid (X ++ [UInt8.ofNat op.toNat] ++ catK Lf q ++ DK = HB ++ (code.take (j + 1)).flatMap qn5) := by
                  have h9 := hcx.out; simp only [if_true] at h9; exact h9
                go_wp2_with (first | ((go_at_call 150; (with_reducible refine (hK _).mono ?_); rintro e w9 ⟨A9, c9, rfl, row9, hb9⟩); have own9 := own8.below hb9 nlr; have hp9 := hp8.below (w' := w9) hb9 hp8.lt; replace hb9 := qa0 (a := w) (B := w.heap.size) gwn hb9 szz; have hb9s := hb9.size) | (at_builtin; refine qa6 rfl rfl qb4 qc2 (s := .tmp 105) (N := N2 + DK.length) (L := HB ++ (code.take (j + 1)).flatMap qn5) rfl own9 rfl (k := DK) row9.rd rfl hcy.out uml omg szz ?_; intro A10 c10 w10 own10 hg10 hat10 hb10; have hp10 := Blk.grown hp9 hg10 (own9.ne_ hp9 dcd); replace hb10 := qa0 (a := w) (B := w.heap.size) gwn hb10 szz; have hb10s := hb10.size)); go_roundw
                case rel => exact ⟨j + 1, N2 + DK.length, A10, c10, omg, by go_num, rfl, omg, own10, hb10, hp10.lt, hp10⟩
                case measure => simp [intOf]; omega
              | false =>
                have hcy : Hid (X ++ [UInt8.ofNat op.toNat] ++ catK Lf q = HB ++ (code.take (j + 1)).flatMap qn5) := by
                  have h9 := hcx.out; simp only [Bool.false_eq_true, if_false, List.append_nil] at h9; exact h9
                go_wp2; go_roundw
                case rel => exact ⟨j + 1, N2, B2, d2, omg, by go_num, rfl, omg, by rw [← hcy.out]; exact own8, hbel8, hsz8, hp8⟩
                case measure => simp [intOf]; omega
        · have hjn : j = n4 := omg; subst hjn; have hge : (j : Int) ≤ (j : Int) := omg; have hF := hfin; clear hfin; go_wp2; go_ret; exact ⟨B, N, d, rfl, by rw [← hF.out]; exact hown, hbel⟩
end Go.Proofs.YtpmkpckldnnigaaGreat
