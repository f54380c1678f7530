/- Parts: StateC, RefNumC, RefNumD. -/
import Derived.Test.YtpmkpckldnnigaaGreatPr02
import Derived.Test.YtpmkpckldnnigaaGreatPr06
import Derived.Test.YtpmkpckldnnigaaGreatPr07
import Derived.Deep.RegionHeld3
import Derived.Test.YtpmkpckldnnigaaGreatPr03
set_option linter.unusedVariables false
set_option linter.unusedSimpArgs false
set_option maxRecDepth 100000
set_option maxHeartbeats 40000000
namespace Go.Proofs.YtpmkpckldnnigaaGreat
open Go.RowKit
theorem Ow.grownOther {α β : Type} {enc : α → Value} {enc2 : β → Value} {w w' : World} {base base2 n n2 c c2 : Nat} {e e2 : TypeId} {A C : Option Addr} {l : List α} {k : List β} (h : Ow enc w base e A n c l) (h2 : Ow enc2 w base2 e2 C n2 c2 k) (hne : e ≠ e2)
    (hg : w.grownBy w' (C.map (·.block))) : Ow enc w' base e A n c l := by
  refine ⟨h.1, qe7 (F := fun g => C.map (·.block) = some g) h.2 (Keep.of_grown hg (fun g e => e)) (fun g hA hC => ?_)⟩; rcases h.2.2 with ⟨hv, _⟩ | ⟨g1, cap, cur, hv, _, hh, _⟩
  · rw [hv] at hA; cases hA
  · rcases h2.2.2 with ⟨hv2, _⟩ | ⟨g2, cap2, cur2, hv2, _, hh2, _⟩
    · injection hv2 with hv2; rw [hv2] at hC; cases hC
    · injection hv2 with hv2; rw [hv2] at hC; rw [hv] at hA; have e1 : g1 = g := by simpa [Value.ownBlock] using hA
      have e2' : g2 = g := by simpa using hC
      subst e1 e2'; rw [hh] at hh2; injection hh2 with hh2; injection hh2 with _ ht; exact hne ht
def nBs (n : Int) : List UInt8 := putL (un n)
def stBs (s : SV) : List UInt8 := nBs s.tick ++ nBs s.hash ++ s.cells.flatMap nBs
theorem statewrite_row (x : PA) (p : PV) (tick hash : Int) (B : Option Addr) (m d : Nat) (l : List Int) (w : World) (h : qc8 w x p) (hl : RI w B m l) (hm : m ≤ maxLen) (hmb : mayB p = true) (hf : ql1 p ⟨tick, hash, l⟩ = false) :
    Calls Tryz.prog 54 #[.agg #[.slice x.A1 x.n1 x.c1, .slice x.A2 x.n2 x.c2, .int .i64 p.regs, .slice x.A3 x.n3 x.c3, .slice x.A4 x.n4 x.c4], .agg #[.int .i64 tick, .int .i64 hash, .slice B m d]] w fun e w' => e = .returned (.tuple #[.slice none 0 0, .int .i64 41]) ∧ Below w.heap.size w w' := by
  have hmay := fun w h => qs7 x p w h
  have hfit := fun w h k => qs4 x p tick hash B m d l w h k hm
  rw [hmb] at hmay; rw [hf] at hfit; clear hmb hf; go_enter Tryz.func54, Tryz.ntmps54; go_wp2_with (first | ((go_at_call 128; (with_reducible refine (hmay _ (h.below (b := w.heap.size) gwn nlr)).mono ?_); rintro e w1 ⟨rfl, hb1⟩); have hp1 := Blk.below (w' := w1) (g := w.heap.size) (t := 27) (cs := [.slice x.A1 x.n1 x.c1, .slice x.A2 x.n2 x.c2, .int .i64 p.regs, .slice x.A3 x.n3 x.c3, .slice x.A4 x.n4 x.c4]) blq hb1 szz; have hs1 := Blk.below (w' := w1) (g := w.heap.size + 1) (t := 32) (cs := [.int .i64 tick, .int .i64 hash, .slice B m d]) blq hb1 szz; obtain ⟨y10, y11, y12, y13, y14⟩ := blk5 hp1; obtain ⟨j10, j11, j12⟩ := blk3 hs1; have sz1 := hs1.lt; have rs1 := hb1.size; replace hb1 := qa0 (a := w) (B := w.heap.size) gwn hb1 szz; have hb1s := hb1.size) | ((go_at_call 129; (with_reducible refine (hfit _ (h.below (b := w.heap.size) gwn nlr) (hl.below (B := w.heap.size) gwn nlr)).mono ?_); rintro e w2 ⟨rfl, hb2⟩); replace hb2 := qa0 (a := w) (B := w.heap.size) gwn hb2 szz; have hb2s := hb2.size)); go_ret2; exact ⟨rfl, gwn⟩
theorem statewrite_ok (x : PA) (p : PV) (tick hash : Int) (B : Option Addr) (m d : Nat) (l : List Int) (w : World) (h : qc8 w x p) (hl : RI w B m l) (hm : m ≤ maxLen) (hf : ql1 p ⟨tick, hash, l⟩ = true) :
    Calls Tryz.prog 54 #[.agg #[.slice x.A1 x.n1 x.c1, .slice x.A2 x.n2 x.c2, .int .i64 p.regs, .slice x.A3 x.n3 x.c3, .slice x.A4 x.n4 x.c4], .agg #[.int .i64 tick, .int .i64 hash, .slice B m d]] w fun e w' => ∃ A N c, e = .returned (.tuple #[.slice A N c, .int .i64 0]) ∧ OB w' w.heap.size 5 A N c (stBs ⟨tick, hash, l⟩) ∧ Below w.heap.size w w' := by
  have hmay := fun w h => qs7 x p w h
  have hfit := fun w h k => qs4 x p tick hash B m d l w h k hm
  obtain ⟨f1, f2, f3, f4, _⟩ := qw4.1 hf; have hm60 : m ≤ 60 := by have := (qe9.1 f1).2.2.2.2.1; have := hl.1; simp only at f4; omega
  rw [f1] at hmay; rw [hf] at hfit; clear hf f1 f2 f3 f4 hm; have hput : ∀ n w, Calls Tryz.prog 130 #[.int .i64 n] w fun e w' => ∃ A c, e = .returned (.slice A 8 c) ∧ OB w' w.heap.size 5 A 8 c (nBs n) ∧ Below w.heap.size w w' := fun n w => vj8 n w
  have hcat : ∀ k, k < m → Hid (nBs tick ++ nBs hash ++ (l.take k).flatMap nBs ++ nBs (qd5 l k) = nBs tick ++ nBs hash ++ (l.take (k + 1)).flatMap nBs) := fun k hk => by
    show _ = _
    have hk' : k < l.length := by rw [hl.1]; exact hk
    rw [List.take_succ_eq_append_getElem hk', List.flatMap_append]; unfold qd5; rw [List.getD_eq_getElem?_getD, List.getElem?_eq_getElem hk']; simp
  have hz0 : Hid (nBs tick ++ nBs hash ++ (l.take 0).flatMap nBs = nBs tick ++ nBs hash) := by show _ = _; simp
  have hfin : Hid (nBs tick ++ nBs hash ++ (l.take m).flatMap nBs = stBs ⟨tick, hash, l⟩) := by
    show _ = _
    unfold stBs; rw [List.take_of_length_le (by rw [hl.1]; omega)]
  generalize stBs ⟨tick, hash, l⟩ = SB at *; go_enter Tryz.func54, Tryz.ntmps54; go_wp2_with (first | ((go_at_call 128; (with_reducible refine (hmay _ (h.below (b := w.heap.size) gwn nlr)).mono ?_); rintro e w1 ⟨rfl, hb1⟩); have hp1 := Blk.below (w' := w1) (g := w.heap.size) (t := 27) (cs := [.slice x.A1 x.n1 x.c1, .slice x.A2 x.n2 x.c2, .int .i64 p.regs, .slice x.A3 x.n3 x.c3, .slice x.A4 x.n4 x.c4]) blq hb1 szz; have hs1 := Blk.below (w' := w1) (g := w.heap.size + 1) (t := 32) (cs := [.int .i64 tick, .int .i64 hash, .slice B m d]) blq hb1 szz; obtain ⟨y10, y11, y12, y13, y14⟩ := blk5 hp1; obtain ⟨j10, j11, j12⟩ := blk3 hs1; have sz1 := hs1.lt; have rs1 := hb1.size; replace hb1 := qa0 (a := w) (B := w.heap.size) gwn hb1 szz; have hb1s := hb1.size) | ((go_at_call 129; (with_reducible refine (hfit _ (h.below (b := w.heap.size) gwn nlr) (hl.below (B := w.heap.size) gwn nlr)).mono ?_); rintro e w2 ⟨rfl, hb2⟩); have hp2 := Blk.below (w' := w2) (g := w.heap.size) (t := 27) (cs := [.slice x.A1 x.n1 x.c1, .slice x.A2 x.n2 x.c2, .int .i64 p.regs, .slice x.A3 x.n3 x.c3, .slice x.A4 x.n4 x.c4]) blq hb2 szz; have hs2 := Blk.below (w' := w2) (g := w.heap.size + 1) (t := 32) (cs := [.int .i64 tick, .int .i64 hash, .slice B m d]) blq hb2 szz; obtain ⟨y20, y21, y22, y23, y24⟩ := blk5 hp2; obtain ⟨j20, j21, j22⟩ := blk3 hs2; have sz2 := hs2.lt; have rs2 := hb2.size; replace hb2 := qa0 (a := w) (B := w.heap.size) gwn hb2 szz; have hb2s := hb2.size)); go_region_held3 (fun w' => w'.cell? ⟨w.heap.size + 1, 0, none⟩ = some (.int .i64 tick) ∧ w'.cell? ⟨w.heap.size + 1, 1, none⟩ = some (.int .i64 hash)) (first | go_keep | (refine ⟨?_, ?_⟩ <;> assumption)) (first | ((go_at_call 130; (with_reducible refine (hput tick _).mono ?_); rintro e w3 ⟨A3, c3, rfl, own3, hb3⟩); have hp3 := Blk.below (w' := w3) (g := w.heap.size) (t := 27) (cs := [.slice x.A1 x.n1 x.c1, .slice x.A2 x.n2 x.c2, .int .i64 p.regs, .slice x.A3 x.n3 x.c3, .slice x.A4 x.n4 x.c4]) blq hb3 szz; have hs3 := Blk.below (w' := w3) (g := w.heap.size + 1) (t := 32) (cs := [.int .i64 tick, .int .i64 hash, .slice B m d]) blq hb3 szz; obtain ⟨y30, y31, y32, y33, y34⟩ := blk5 hp3; obtain ⟨j30, j31, j32⟩ := blk3 hs3; have sz3 := hs3.lt; have rs3 := hb3.size; replace hb3 := qa0 (a := w) (B := w.heap.size) gwn hb3 szz; have hb3s := hb3.size) | ((go_at_call 130; (with_reducible refine (hput hash _).mono ?_); rintro e w4 ⟨A4, c4, rfl, own4, hb4⟩); have own3a := own3.below hb4 nlr; have hp4 := Blk.below (w' := w4) (g := w.heap.size) (t := 27) (cs := [.slice x.A1 x.n1 x.c1, .slice x.A2 x.n2 x.c2, .int .i64 p.regs, .slice x.A3 x.n3 x.c3, .slice x.A4 x.n4 x.c4]) blq hb4 szz; have hs4 := Blk.below (w' := w4) (g := w.heap.size + 1) (t := 32) (cs := [.int .i64 tick, .int .i64 hash, .slice B m d]) blq hb4 szz; obtain ⟨y40, y41, y42, y43, y44⟩ := blk5 hp4; obtain ⟨j40, j41, j42⟩ := blk3 hs4; have sz4 := hs4.lt; have rs4 := hb4.size; replace hb4 := qa0 (a := w) (B := w.heap.size) gwn hb4 szz; have hb4s := hb4.size) | (refine qd6 rfl rfl qb4 qc2 (s := .tmp 20) (N := 16) (L := nBs tick ++ nBs hash) rfl own3a rfl (k := nBs hash) own4.rd rfl rfl uml omg szz ?_; intro A5 c5 w5 own5 hg5 hat5 hb5; have hs5 : Blk w5 (w.heap.size + 1) 32 [.int .i64 tick, .int .i64 hash, .slice B m d] := Blk.grown hs4 hg5 (own3a.ne_ hs4 dcd); obtain ⟨j50, j51, j52⟩ := blk3 hs5; replace own5 := own5.rebase (base' := w.heap.size) szz; replace hb5 := qa0 (a := w) (B := w.heap.size) gwn hb5 szz; have hb5s := hb5.size))
  all_goals
    clear own3 own3a own4; go_wp2; go_loopw [6, 28] (fun v i wr => ∃ (k : Nat) (C : Option Addr) (e : Nat), k ≤ m ∧ i = .int .i64 (k : Nat) ∧ v = .slice C (16 + 8 * k) e ∧ Ow bv wr w.heap.size 5 C (16 + 8 * k) e (nBs tick ++ nBs hash ++ (l.take k).flatMap nBs) ∧ Below w.heap.size w wr) (fun _ i _ => m - (intOf i).toNat)
    case atStart => exact ⟨0, A5, c5, omg, rfl, rfl, by rw [hz0.out]; exact own5, hb5⟩
    case round =>
      clear own5; obtain ⟨k, C, e, hk, rfl, rfl, hown, hbel⟩ := hrel; have hbs := hbel.size
      by_cases hlt : k < m
      · obtain ⟨b, o, rfl, _, hc⟩ := (hl.below hbel nlr).at_ hlt; have hcx := hcat k hlt; clear hcat hz0; generalize qd5 l k = v at *; go_wp2_with (first | ((go_at_call 130; (with_reducible refine (hput v _).mono ?_); rintro e w7 ⟨A7, c7, rfl, own7, hb7⟩); have own7a := hown.below hb7 nlr; replace hb7 := qa0 (a := w) (B := w.heap.size) gwn hb7 szz; have hb7s := hb7.size) | (at_builtin; refine qa6 rfl rfl qb4 qc2 (s := .tmp 32) (N := 16 + 8 * (k + 1)) (L := nBs tick ++ nBs hash ++ (l.take (k + 1)).flatMap nBs) rfl own7a rfl (k := nBs v) own7.rd omg hcx.out uml omg szz ?_; intro A8 c8 w8 own8 hg8 hat8 hb8; replace hb8 := qa0 (a := w) (B := w.heap.size) gwn hb8 szz; have hb8s := hb8.size)); go_roundw
        case rel => exact ⟨k + 1, A8, c8, omg, by go_num, rfl, own8, hb8⟩
        case measure => simp [intOf]; omega
      · have hkm : k = m := omg; subst hkm; clear hcat hz0; go_wp2; go_ret2; exact ⟨C, _, e, rfl, by rw [← hfin.out]; exact hown, hbel⟩
theorem refstatebytes_any (tick hash : Int) (B : Option Addr) (m d : Nat) (l : List Int) (w : World) (hl : RI w B m l) (hm : m ≤ 100) (ht : -9223372036854775808 ≤ tick ∧ tick ≤ 9223372036854775807) (hh : -9223372036854775808 ≤ hash ∧ hash ≤ 9223372036854775807)
    (hb : ∀ z ∈ l, -9223372036854775808 ≤ z ∧ z ≤ 9223372036854775807) :
    Calls Tryz.prog 74 #[.agg #[.int .i64 tick, .int .i64 hash, .slice B m d]] w fun e w' => ∃ A N c, e = .returned (.slice A N c) ∧ OB w' w.heap.size 5 A N c (stBs ⟨tick, hash, l⟩) ∧ Below w.heap.size w w' := by
  have hput : ∀ n w, -9223372036854775808 ≤ n → n ≤ 9223372036854775807 → Calls Tryz.prog 157 #[.int .i64 n] w fun e w' => ∃ A c, e = .returned (.slice A 8 c) ∧ OB w' w.heap.size 5 A 8 c (nBs n) ∧ Below w.heap.size w w' := fun n w h0 h1 => qv1 n w h0 h1
  generalize hL : tick :: hash :: l = L; have hLl : Hid (L.length = m + 2) := by rw [← hL]; show _ = _; simp [hl.1]
  have hLb : ∀ k, k < m + 2 → -9223372036854775808 ≤ qd5 L k ∧ qd5 L k ≤ 9223372036854775807 := fun k hk => by
    have : qd5 L k ∈ L := by unfold qd5; rw [List.getD_eq_getElem?_getD, List.getElem?_eq_getElem (by rw [hLl.out]; exact hk)]; exact List.getElem_mem _
    rw [← hL] at this ⊢; rcases List.mem_cons.1 this with e | h1
    · rw [e]; exact ht
    · rcases List.mem_cons.1 h1 with e | h2
      · rw [e]; exact hh
      · exact hb _ h2
  have hcat : ∀ k, k < m + 2 → Hid ((L.take k).flatMap nBs ++ nBs (qd5 L k) = (L.take (k + 1)).flatMap nBs) := fun k hk => by
    show _ = _
    have hk' : k < L.length := by rw [hLl.out]; exact hk
    rw [List.take_succ_eq_append_getElem hk', List.flatMap_append]; unfold qd5; rw [List.getD_eq_getElem?_getD, List.getElem?_eq_getElem hk']; simp
  have hfin : Hid ((L.take (m + 2)).flatMap nBs = stBs ⟨tick, hash, l⟩) := by
    show _ = _
    unfold stBs; rw [List.take_of_length_le (by rw [hLl.out]; omega), ← hL]; simp
  have happ : Hid ([tick, hash] ++ l = L) := by rw [← hL]; rfl
  generalize stBs ⟨tick, hash, l⟩ = SB at *; have hz0 : Hid ((L.take 0).flatMap nBs = []) := by show _ = _; simp
  clear hL ht hh hb; have hl1 : RI (w.alloc (.cells #[.int .i64 tick, .int .i64 hash, .slice B m d] 32)) B m l := hl.below ((Below.refl _ _).alloc nlr _) nlr; have hnew : Ow iv ((w.alloc (.cells #[.int .i64 tick, .int .i64 hash, .slice B m d] 32)).alloc (.cells #[.int .i64 tick, .int .i64 hash] 3)) w.heap.size 3 (some ⟨w.heap.size + 1, 0, none⟩) 2 2 [tick, hash] := by
    have h9 := Ow.new (enc := iv) (w.alloc (.cells #[.int .i64 tick, .int .i64 hash, .slice B m d] 32)) 3 #[.int .i64 tick, .int .i64 hash] [tick, hash] rfl (by simp [maxLen]); rw [World.size_alloc] at h9; exact h9.rebase omg
  go_enter Tryz.func74, Tryz.ntmps74; go_wp2_with (at_builtin; refine qa6 rfl rfl qk5 qr8 (s := .tmp 10) (N := m + 2) (L := L) rfl hnew rfl (k := l) (hl1.below ((Below.refl _ _).alloc nlr _) nlr).rd omg happ.out uml omg szz ?_; intro A3 c3 w3 own3 hg3 hat3 hb3; replace own3 := own3.rebase (base' := w.heap.size) szz; replace hb3 := qa0 (a := w) (B := w.heap.size) gwn hb3 szz; have hb3s := hb3.size); go_loopw [4, 5] (fun v i wr => ∃ (k : Nat) (C : Option Addr) (e : Nat), k ≤ m + 2 ∧ i = .int .i64 (k : Nat) ∧ v = .slice C (8 * k) e ∧ Ow bv wr w.heap.size 5 C (8 * k) e ((L.take k).flatMap nBs) ∧ Below w.heap.size w wr ∧ Ow iv wr w.heap.size 3 A3 (m + 2) c3 L) (fun _ i _ => m + 2 - (intOf i).toNat)
  case atStart => exact ⟨0, none, 0, omg, rfl, rfl, by rw [hz0.out]; exact Ow.nil _ _ _ _, hb3, own3⟩
  case round =>
    clear own3; obtain ⟨k, C, e, hk, rfl, rfl, hown, hbel, hL3⟩ := hrel; have hbs := hbel.size
    by_cases hlt : k < m + 2
    · obtain ⟨b, o, hA3, _, hc⟩ := hL3.rd.ri.at_ hlt; subst hA3; have hcx := hcat k hlt; have hbd := hLb k hlt; have hlt' : (k : Int) < (m : Int) + 2 := omg; clear hcat hz0 hLb; generalize qd5 L k = v at *; have hpv := fun w => hput v w hbd.1 hbd.2
      go_wp2_with (first | ((go_at_call 157; (with_reducible refine (hpv _).mono ?_); rintro e w7 ⟨A7, c7, rfl, own7, hb7⟩); have own7a := hown.below hb7 nlr; have hL7 := hL3.below hb7 nlr; replace hb7 := qa0 (a := w) (B := w.heap.size) gwn hb7 szz; have hb7s := hb7.size) | (at_builtin; refine qa6 rfl rfl qb4 qc2 (s := .tmp 20) (N := 8 * (k + 1)) (L := (L.take (k + 1)).flatMap nBs) rfl own7a rfl (k := nBs v) own7.rd omg hcx.out uml omg szz ?_; intro A8 c8 w8 own8 hg8 hat8 hb8; have hL8 := hL7.grownOther own7a dcd hg8; replace hb8 := qa0 (a := w) (B := w.heap.size) gwn hb8 szz; have hb8s := hb8.size)); go_roundw
      case rel => exact ⟨k + 1, A8, c8, omg, by go_num, rfl, own8, hb8, hL8⟩
      case measure => simp [intOf]; omega
    · have hkm : k = m + 2 := omg; subst hkm; clear hcat hz0 hLb; go_wp2; go_ret; exact ⟨C, _, e, rfl, by rw [← hfin.out]; exact hown, hbel⟩
theorem refshort_any (f : Nat) : ∀ (n : Nat) (w : World), n < 128 ^ (f + 1) → f ≤ 9 → n < 9223372036854775808 →
    Calls Tryz.prog 149 #[.int .i64 n] w fun e w' => ∃ A c, e = .returned (.slice A (digL f n).length c) ∧ OB w' w.heap.size 5 A (digL f n).length c (digL f n) ∧ Below w.heap.size w w' := by
  have hsmall : ∀ (f n : Nat) (w : World), n < 128 → Calls Tryz.prog 149 #[.int .i64 n] w fun e w' => ∃ A c, e = .returned (.slice A (digL f n).length c) ∧ OB w' w.heap.size 5 A (digL f n).length c (digL f n) ∧ Below w.heap.size w w' := by
    intro f n w hn; rw [vk7 hn]; have hbv := hdd (qi2 (v := n) omg); go_enter Tryz.func149, Tryz.ntmps149; go_wp2_with fail; go_ret; refine ⟨_, 1, rfl, Ow.new (enc := bv) w 5 _ [UInt8.ofNat n] (by rw [List.map_cons, hbv.out]; rfl) (by simp [maxLen]), gwn⟩
  induction f with
  | zero => intro n w h _ _; exact hsmall 0 n w omg
  | succ f ih =>
    intro n w h hf h63
    by_cases hn : n < 128
    · exact hsmall (f + 1) n w hn
    · have hdef : Hid (digL (f + 1) n = [UInt8.ofNat (n % 128 + 128)] ++ digL f (n / 128)) := by
        show digL (f + 1) n = _
        conv => lhs; unfold digL
        rw [if_neg hn]; rfl
      have hc := fun w => ih (n / 128) w (by rw [Nat.pow_succ] at h; omega) omg omg
      rw [show ((n / 128 : Nat) : Int) = (n : Int) / 128 from by omega] at hc; have hlen := (qf8 f (n / 128)).1; have hbv := hdd (qi2 (v := n % 128 + 128) omg); clear ih hsmall; generalize digL f (n / 128) = L at *; have hll : (digL (f + 1) n).length = 1 + L.length := by rw [hdef.out, List.length_append]; rfl
      rw [hll]; clear hll; generalize digL (f + 1) n = M at *; have hnew : ∀ w : World, Hid (Ow bv (w.alloc (.cells #[.int .u8 ((n : Int) % 128 + 128)] 5)) w.heap.size 5 (some ⟨w.heap.size, 0, none⟩) 1 1 [UInt8.ofNat (n % 128 + 128)]) := fun w =>
        Ow.new (enc := bv) w 5 #[.int .u8 ((n : Int) % 128 + 128)] [UInt8.ofNat (n % 128 + 128)] (by rw [List.map_cons, hbv.out]; rfl) (by simp [maxLen])
      go_enter Tryz.func149, Tryz.ntmps149; go_wp2_with (first | (go_at_call 149; (with_reducible refine (hc _).mono ?_); rintro e w1 ⟨A, c, rfl, hown, hb⟩; have hbs := hb.size) | (at_builtin; refine qa6 rfl rfl qb4 qc2 (s := .tmp 12) (N := 1 + L.length) (L := M) rfl ((hnew w).out.below hb nlr) rfl hown.rd rfl hdef.out.symm uml omg (by simp at hbs; omega) ?_; intro A5 c5 w5 hown5 hg5 hat5 hb5; replace hb := qa0 (a := w) (B := w.heap.size) gwn hb szz; replace hb5 := qa0 hb hb5 nlr)); go_ret; exact ⟨A5, c5, rfl, hown5, hb5⟩
theorem vj7 (n : Nat) (w : World) (h : n < 9223372036854775808) :
    Calls Tryz.prog 149 #[.int .i64 n] w fun e w' => ∃ A c, e = .returned (.slice A (digL 9 n).length c) ∧ OB w' w.heap.size 5 A (digL 9 n).length c (digL 9 n) ∧ Below w.heap.size w w' :=
  refshort_any 9 n w omg omg h
/-! ### Turned numbers -/
theorem turned_any (n : Int) (w : World) (h0 : -9223372036854775808 ≤ n) (h1 : n ≤ 9223372036854775807) :
    Calls Tryz.prog 214 #[.int .i64 n] w fun e w' => ∃ A c, e = .returned (.slice A 64 c) ∧ Ow iv w' w.heap.size 3 A 64 c (tab 64 (bit (zz n))) ∧ Below w.heap.size w w' := by
  have hbits := fun w => qx1 n w h0 h1
  have hz0 := hdd (bit_zz0 h0 h1); have hz := fun k hk => hdd (bit_zz h0 h1 k hk)
  generalize un n = U at *; generalize zz n = Z at *; go_enter Tryz.func214, Tryz.ntmps214; go_wp2_with (go_at_call 145; (with_reducible refine (hbits _).mono ?_); rintro e w1 ⟨B, d, rfl, hownb, hb1⟩; have hb1s := hb1.size; obtain ⟨gb, rfl, _, hgb⟩ := hownb.addr omg; have h63 := hownb.tab_cell (k := 63) omg); have hown0 : Ow iv (w1.alloc (.cells #[.int .i64 (bit U 63 : Nat)] 3)) w1.heap.size 3 (some ⟨w1.heap.size, 0, none⟩) 1 1 (tab 1 (bit Z)) := by
    have := Ow.new (enc := iv) w1 3 #[.int .i64 (bit U 63 : Nat)] [((bit U 63 : Nat) : Int)] rfl (by simp [maxLen]); rw [← hz0.out] at this ⊢; exact this
  have hb0 : Below w1.heap.size w1 (w1.alloc (.cells #[.int .i64 (bit U 63 : Nat)] 3)) := gwn; generalize w1.alloc (.cells #[.int .i64 (bit U 63 : Nat)] 3) = w2 at *; have hb0s := hb0.size; have hcell : ∀ k, k < 64 → Hid (w1.cell? ⟨gb, k, none⟩ = some (.int .i64 (bit U k : Nat))) := fun k hk => hownb.tab_cell hk
  clear h63 hbits; go_loopw [4, 5] (fun v i wr => ∃ k A c, k ≤ 63 ∧ i = .int .i64 (k : Nat) ∧ v = .slice A (k + 1) c ∧ Ow iv wr w1.heap.size 3 A (k + 1) c (tab (k + 1) (bit Z)) ∧ Below w1.heap.size w1 wr) (fun _ i _ => 63 - (intOf i).toNat)
  case atStart => exact ⟨0, _, 1, omg, rfl, rfl, hown0, hb0⟩
  case round =>
    obtain ⟨k, A, c, hk, rfl, rfl, hown, hb⟩ := hrel; have hbs := hb.size
    by_cases hk63 : k < 63
    · have hc := (hb.cell (p := ⟨gb, k, none⟩) hgb).trans (hcell k omg).out; have h63 := (hb.cell (p := ⟨gb, 63, none⟩) hgb).trans (hcell 63 omg).out; have hzk := hz k hk63; have hl1 := qp7 U k; have hl2 := qp7 U 63; generalize bit U k = y at *; generalize bit U 63 = s at *; clear hcell hz hownb
      by_cases hs : s = 1
      · have hs1 : (((s : Nat) : Int) == 1) = true := by rw [beq_iff_eq]; omega
        have hL : Hid (tab (k + 1) (bit Z) ++ [1 - ((y : Nat) : Int)] = tab (k + 1 + 1) (bit Z)) := by
          show _ = _
          rw [← qu8 (k + 1), hzk.out, if_pos hs]; congr 2; omega
        clear hs hzk; go_wp2_with (at_builtin; refine qa6 rfl rfl qk5 qr8 (s := .tmp 20) (N := k + 1 + 1) (L := tab (k + 1 + 1) (bit Z)) rfl (hown.below (b := wr.heap.size) gwn szz) rfl (k := [1 - ((y : Nat) : Int)]) (Rd.of_block (l := [1 - ((y : Nat) : Int)]) (qb7 _ _ smp) rfl) rfl (hL.out) uml omg szz ?_; intro A5 c5 w5 hown5 hg5 hat5 hb5); replace hb5 := qa0 (a := w1) (B := w1.heap.size) gwn hb5 szz; have hb5s := hb5.size; go_roundw
        case rel => exact ⟨k + 1, A5, c5, omg, by go_num, rfl, hown5, hb5⟩
        case measure => simp [intOf]; omega
      · have hs1 : (((s : Nat) : Int) == 1) = false := by rw [beq_eq_false_iff_ne]; omega
        have hL : Hid (tab (k + 1) (bit Z) ++ [((y : Nat) : Int)] = tab (k + 1 + 1) (bit Z)) := by
          show _ = _
          rw [← qu8 (k + 1), hzk.out, if_neg hs]
        clear hs hzk; go_wp2_with (at_builtin; refine qa6 rfl rfl qk5 qr8 (s := .tmp 28) (N := k + 1 + 1) (L := tab (k + 1 + 1) (bit Z)) rfl (hown.below (b := wr.heap.size) gwn szz) rfl (k := [((y : Nat) : Int)]) (Rd.of_block (l := [((y : Nat) : Int)]) (qb7 _ _ smp) rfl) rfl (hL.out) uml omg szz ?_; intro A5 c5 w5 hown5 hg5 hat5 hb5); replace hb5 := qa0 (a := w1) (B := w1.heap.size) gwn hb5 szz; have hb5s := hb5.size; go_roundw
        case rel => exact ⟨k + 1, A5, c5, omg, by go_num, rfl, hown5, hb5⟩
        case measure => simp [intOf]; omega
    · have hk9 : k = 63 := omg; subst hk9; clear hcell hz; go_wp2; go_ret; exact ⟨A, c, rfl, hown.rebase hb1s, qa0 hb1 hb hb1s⟩
end Go.Proofs.YtpmkpckldnnigaaGreat
