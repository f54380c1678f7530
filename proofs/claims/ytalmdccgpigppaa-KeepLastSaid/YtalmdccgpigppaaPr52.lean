/- Parts: KeepD. -/
import Derived.Test.YtalmdccgpigppaaPr41
import Derived.Test.YtalmdccgpigppaaPr49
import Derived.Test.YtalmdccgpigppaaPr50
import Derived.Test.YtalmdccgpigppaaPr51
import Derived.Test.YtalmdccgpigppaaPr06
namespace Go.Proofs.Ytalmdccgpigppaa
open Go.RowKit
set_option linter.unusedVariables false
set_option linter.unusedSimpArgs false
theorem hash37_any (x : PA) (p : PV) (w : World) (h : ProgRd w x p) (hw : ProgWf p) (hm : mayB p = true) :
    Calls Try.prog 71 #[.agg #[.slice x.A1 x.n1 x.c1, .slice x.A2 x.n2 x.c2, .int .i64 p.regs, .slice x.A3 x.n3 x.c3, .slice x.A4 x.n4 x.c4]] w fun e w' => e = .returned (.int .i64 (fnv (progBs p) % 9223372036854775808 : Nat)) ∧ Below w.heap.size w w' := by
  have HP := Lib.hid h
  have hb := fun (W : World) (h : ProgRd W x p) => refcbytes_any x p W h hw hm
  have hd := fun (A : Option Addr) (n c : Nat) (W : World) hl hn => refdbytes_any A n c (progBs p) W hl hn
  generalize progBs p = L at *
  generalize fnv L % 9223372036854775808 = z at *
  clear h hw hm
  go_enter Try.func71, Try.ntmps71
  go_wp2_with (first
    | ((go_at_call 98; (with_reducible refine (hb _ (HP.out.below ((Below.refl _ _).alloc (Nat.le_refl _) _) (Nat.le_refl _))).mono ?_); rintro e w1 ⟨A1, N1, c1, rfl, own1, hb1⟩); have hcp := own1.cap; have hN : N1 ≤ maxLen := (by omega); have b01 : Below w.heap.size w w1 := below_then' (a := w) (B := w.heap.size) (by (repeat' (first | (with_reducible exact Below.refl _ _) | (with_reducible assumption) | (with_reducible refine Below.drew ?_) | (with_reducible refine below_drewN ?_ _) | (with_reducible refine Below.alloc ?_ ?_ _) | (with_reducible refine Below.setCell ?_ ?_ _) | omega | (simp; done) | (simp; omega)))) hb1 (by first | omega | (simp; done) | (simp; omega)))
    | ((go_at_call 97; (with_reducible refine (hd _ _ _ _ own1.rd.rb hN).mono ?_); rintro e w2 ⟨rfl, hb2⟩))
    | fail "no arm")
  go_ret
  exact ⟨rfl, b01.trans (hb2.mono b01.size)⟩
section
variable {w0 W : World} {base ga gb : Nat} {p : DiskP} {D : DiskV} {x : PA} {M : List TypeId}
theorem A10.stepK {D' : DiskV} {w' : World} (h : A10 w0 W base p ga gb D) (st : Step mutK base p W w') (hd : DiskS w' base p D') : A10 w0 w' base p ga gb D' := ⟨hd, h.sd.area h.a st.tch (by decide), h.sd.area h.b st.tch (by decide), h.bel.trans st.bel, h.bs⟩
theorem kdelay_open (O : A10 w0 W base p ga gb D) (hm : D.many = 12) (P : ProgAt W base x delayP) (R : DiskV × KpV × Int) (hR : kOpenV D 0 6 6 6 delayP delayH = R) (h0 : R.2.2 = 0) :
    Calls Try.prog 40 #[.pointer (some ⟨ga, 0, none⟩), .pointer (some ⟨gb, 0, none⟩), .agg #[.slice x.A1 x.n1 x.c1, .slice x.A2 x.n2 x.c2, .int .i64 delayP.regs, .slice x.A3 x.n3 x.c3, .slice x.A4 x.n4 x.c4]] W fun e w' =>
      ∃ g, e = .returned (.tuple #[.pointer (some ⟨g, 0, none⟩), .int .i64 0]) ∧ W.heap.size ≤ g ∧ KeepAt w' base g ga gb x delayP delayH R.2.1 ∧ DiskS w' base p R.1 ∧ Step mutD base p W w' := by
  have h := kopen_any (fl := 0) (ml := 6) (fr := 6) (mr := 6) P delay_wf delay_right O.sd O.size O.a O.b (by omega) (by omega) (by rw [hm]; omega) (by rw [hm]; omega)
  have hH : (((fnv (progBs delayP) % 9223372036854775808 : Nat)) : Int) = delayH := rfl
  rw [hH, hR] at h
  refine h.mono fun e w' hp => ?_
  obtain ⟨Q, e1, _, e3, e4, e5⟩ := hp
  obtain ⟨g, rfl, q2, q3⟩ := e3 h0
  rw [h0] at e1
  exact ⟨g, e1, q2, q3, e4, e5⟩
theorem kdelay_save {g n c : Nat} {A : Option Addr} {k : KpV} {tick : Int} {cells : List Int} (O : A10 w0 W base p ga gb D) (hm : D.many = 12) (hK : KeepAt W base g ga gb x delayP delayH k) (hc : IntsAt W base A n cells) (hn : n ≤ 1000) (hnb : -9223372036854775808 ≤ k.s.number ∧ k.s.number ≤ 9223372036854775807) (hw : D.waits.length < 800000) :
    Calls Try.prog 42 #[.pointer (some ⟨g, 0, none⟩), .int .i64 tick, .slice A n c] W fun e w' => e = .returned (.int .i64 (kSaveV D 0 6 6 6 delayP delayH k tick cells).2.2) ∧ DiskS w' base p (kSaveV D 0 6 6 6 delayP delayH k tick cells).1 ∧ KeepAt w' base g ga gb x delayP delayH (kSaveV D 0 6 6 6 delayP delayH k tick cells).2.1 ∧ Step mutK base p W w' :=
  ksave_any (fl := 0) (ml := 6) (fr := 6) (mr := 6) hK delay_may O.sd O.size O.a O.b (by omega) (by omega) (by rw [hm]; omega) (by rw [hm]; omega) hc hn hnb hw
end
theorem ints_top {W : World} {base g : Nat} {z : Int} (hg : g = W.heap.size) : IntsAt (W.alloc (.cells #[.int .i64 z] 3)) base (some ⟨g, 0, none⟩) 1 [z] := by
  subst hg
  have hb : Blk (W.alloc (.cells #[.int .i64 z] 3)) W.heap.size 3 [.int .i64 z] := Blk.top _ rfl rfl
  exact ⟨(Rd.of_block (enc := iv) (l := [z]) hb rfl).ri, by decide, fun _ g hg => by
    simp only [Option.map_some, Option.some.injEq] at hg
    subst hg
    exact .inr ⟨_, hb⟩⟩
set_option maxRecDepth 100000 in
set_option maxHeartbeats 8000000 in
theorem awake37 (w : World) : Calls Try.prog 37 #[] w fun e w' => e = .returned (.bool true) ∧ Below w.heap.size w w' := by
  have hmd : Calls Try.prog 39 #[.slice none 0 0] w (Made10 w D10a) := made37_ok none 0 0 [] w ⟨rfl, Row.nil _ _ _⟩ (by omega) (by omega) (by show ((0 : Nat) : Int) ≤ 12; omega)
  have kA := k37_a
  have kB := k37_b
  have eA : kOpenV D10a 0 6 6 6 delayP delayH = K37a := rfl
  have eB : kSaveV K37a.1 0 6 6 6 delayP delayH K37a.2.1 5 [7] = K37b := rfl
  have eC : kOpenV K37b.1 0 6 6 6 delayP delayH = K37c := rfl
  have b0 := k37_b0
  obtain ⟨oc, hc⟩ := k37_c
  have mD : D10a.many = 12 := SInv.blank.many
  have c1 := fun {W : World} {base ga gb : Nat} {p : DiskP} {x : PA} (O : A10 w W base p ga gb D10a) (P : ProgAt W base x delayP) => kdelay_open O mD P K37a eA kA.1
  have c2 := fun {W : World} {base ga gb g : Nat} {p : DiskP} {x : PA} {A : Option Addr} (O : A10 w W base p ga gb K37a.1) (hK : KeepAt W base g ga gb x delayP delayH K37a.2.1) (hc : IntsAt W base A 1 [7]) =>
    (show Calls Try.prog 42 #[.pointer (some ⟨g, 0, none⟩), .int .i64 5, .slice A 1 1] W fun e w' => e = .returned (.int .i64 0) ∧ DiskS w' base p K37b.1 ∧ KeepAt w' base g ga gb x delayP delayH K37b.2.1 ∧ Step mutK base p W w' from by
      have := kdelay_save (tick := 5) (c := 1) O kA.2.sl.many hK hc (by omega) (by rw [kA.2.sl.num]; omega) (by rw [kA.2.sl.waits]; simp)
      rw [eB, b0] at this
      exact this)
  have c3 := fun {W : World} {base ga gb : Nat} {p : DiskP} {x : PA} (O : A10 w W base p ga gb K37b.1) (P : ProgAt W base x delayP) => kdelay_open O kB.sl.many P K37c eC (by rw [hc])
  have c4 := fun {W : World} {base ga gb g : Nat} {x : PA} (hK : KeepAt W base g ga gb x delayP delayH K37c.2.1) =>
    (show Calls Try.prog 43 #[.pointer (some ⟨g, 0, none⟩)] W fun e w' => ∃ A n c, e = .returned (.tuple #[.agg #[.int .i64 5, .int .i64 delayH, .slice A n c], .bool true]) ∧ Ow iv w' W.heap.size 3 A n c [7] ∧ Below W.heap.size W w' from by
      have := klast_any hK (by rw [hc]; show ([7] : List Int).length ≤ 100; simp)
      rw [hc] at this
      exact this)
  have c5 := fun (x : PA) (W : World) (h : ProgRd W x delayP) => (show Calls Try.prog 71 #[.agg #[.slice x.A1 x.n1 x.c1, .slice x.A2 x.n2 x.c2, .int .i64 delayP.regs, .slice x.A3 x.n3 x.c3, .slice x.A4 x.n4 x.c4]] W fun e w' => e = .returned (.int .i64 delayH) ∧ Below W.heap.size W w' from hash37_any x delayP W h delay_wf delay_may)
  have cD := fun (W : World) => delay_any W
  clear kA kB eA eB eC b0 hc mD
  generalize K37c = R3 at *
  generalize K37b = R2 at *
  generalize K37a = R1 at *
  generalize D10a = D0 at *
  generalize delayH = H at *
  generalize delayP = P at *
  go_enter Try.func37, Try.ntmps37
  go_upto_region 6 with (first
    | ((go_at_call 39; (with_reducible refine (hmd).mono ?_); rintro e w1 ⟨p, ga, gb, rfl, o1'⟩); have O1 := Lib.hid o1'; clear o1')
    | ((go_at_call 41; (with_reducible refine (cD _).mono ?_); rintro e w2 ⟨x2, rfl, px2, bx2⟩); have O2 := Lib.hid (O1.out.below bx2); have P2 := Lib.hid (px2 w.heap.size); clear px2 bx2)
    | ((go_at_call 40; (with_reducible refine (c1 O2.out P2.out).mono ?_); rintro e w3 ⟨g3, rfl, hg3, k3, d3, t3⟩); have O3 := Lib.hid (O2.out.step t3 d3); have K3 := Lib.hid k3; clear k3 d3 t3)
    | ((go_at_call 42; (with_reducible refine (c2 (O3.out.below (w' := w3.alloc (.cells #[.int .i64 7] 3)) (by (repeat' (first | (with_reducible exact Below.refl _ _) | (with_reducible assumption) | (with_reducible refine Below.drew ?_) | (with_reducible refine below_drewN ?_ _) | (with_reducible refine Below.alloc ?_ ?_ _) | (with_reducible refine Below.setCell ?_ ?_ _) | omega | (simp; done) | (simp; omega))))) (K3.out.below (by (repeat' (first | (with_reducible exact Below.refl _ _) | (with_reducible assumption) | (with_reducible refine Below.drew ?_) | (with_reducible refine below_drewN ?_ _) | (with_reducible refine Below.alloc ?_ ?_ _) | (with_reducible refine Below.setCell ?_ ?_ _) | omega | (simp; done) | (simp; omega))))) (ints_top rfl)).mono ?_); rintro e w4 ⟨rfl, d4, k4, t4⟩); have O4 := Lib.hid ((O3.out.below (w' := w3.alloc (.cells #[.int .i64 7] 3)) (by (repeat' (first | (with_reducible exact Below.refl _ _) | (with_reducible assumption) | (with_reducible refine Below.drew ?_) | (with_reducible refine below_drewN ?_ _) | (with_reducible refine Below.alloc ?_ ?_ _) | (with_reducible refine Below.setCell ?_ ?_ _) | omega | (simp; done) | (simp; omega))))).stepK t4 d4); clear d4 k4 t4)
    | ((go_at_call 41; (with_reducible refine (cD _).mono ?_); rintro e w5 ⟨x5, rfl, px5, bx5⟩); have O5 := Lib.hid (O4.out.below bx5); have P5 := Lib.hid (px5 w.heap.size); clear px5 bx5)
    | ((go_at_call 40; (with_reducible refine (c3 O5.out P5.out).mono ?_); rintro e w6 ⟨g6, rfl, hg6, k6, d6, t6⟩); have O6 := Lib.hid (O5.out.step t6 d6); have K6 := Lib.hid k6; clear k6 d6 t6)
    | ((go_at_call 43; (with_reducible refine (c4 K6.out).mono ?_); rintro e w7 ⟨A7, n7, c7, rfl, ow7, b7⟩); have O7 := Lib.hid (O6.out.below b7); have OW7 := Lib.hid ow7; clear ow7 b7)
    | fail "no arm")
  have bV : Below w7.heap.size w7 (w7.alloc (.cells #[.int .i64 5, .int .i64 H, .slice A7 n7 c7] 98)) := (Below.refl _ _).alloc (Nat.le_refl _) _
  have Y8 := Lib.hid (show Blk (w7.alloc (.cells #[.int .i64 5, .int .i64 H, .slice A7 n7 c7] 98)) w7.heap.size 98 [.int .i64 5, .int .i64 H, .slice A7 n7 c7] from Blk.top _ rfl rfl)
  have OW8 := Lib.hid (OW7.out.below bV (Nat.le_refl _))
  have B8 := Lib.hid (show Below w.heap.size w _ from O7.out.bel.trans (bV.mono O7.out.size))
  have hcp := OW7.out.cap
  have hI := fun (W : World) (g : Nat) (h1 : RI W A7 n7 [7]) (h2 : RI W (some ⟨g, 0, none⟩) 1 [7]) => (show Calls Try.prog 36 #[.slice A7 n7 c7, .slice (some ⟨g, 0, none⟩) 1 1] W fun e w' => e = .returned (.bool true) ∧ ∃ q, w' = W.drewN q from by
    have := ints_any A7 (some ⟨g, 0, none⟩) n7 1 c7 1 [7] [7] W h1 h2 (by omega)
    rw [decide_eq_true (rfl : ([7] : List Int) = [7])] at this
    exact this)
  clear bV OW7 O7 O6 K6 O5 P5 O4 O3 K3 O2 P2 O1 c1 c2 c3 c4 hmd
  generalize (w7.alloc (.cells #[.int .i64 5, .int .i64 H, .slice A7 n7 c7] 98)) = w8 at *
  generalize w7.heap.size = gy at *
  obtain ⟨y0, y1, y2⟩ := blk3 Y8.out
  have ly := Y8.out.lt
  go_region_held3 (fun w' => w'.cell? ⟨gy, 0, none⟩ = some (.int .i64 5) ∧ w'.cell? ⟨gy, 2, none⟩ = some (.slice A7 n7 c7) ∧ w'.cell? ⟨gy, 1, none⟩ = some (.int .i64 H)) (first | go_keep | (refine ⟨?_, ?_, ?_⟩ <;> assumption)) (first
    | ((go_at_call 36; (with_reducible refine (hI _ _ (OW8.out.below (b := w8.heap.size) (by (repeat' (first | (with_reducible exact Below.refl _ _) | (with_reducible assumption) | (with_reducible refine Below.drew ?_) | (with_reducible refine below_drewN ?_ _) | (with_reducible refine Below.alloc ?_ ?_ _) | (with_reducible refine Below.setCell ?_ ?_ _) | omega | (simp; done) | (simp; omega)))) (Nat.le_refl _)).rd.ri (Rd.of_block (enc := iv) (l := [7]) (heap_top _ _ (by simp)) rfl).ri).mono ?_); rintro e w9 ⟨rfl, q9, rfl⟩))
    | ((go_at_call 41; (with_reducible refine (cD _).mono ?_); rintro e w10 ⟨x10, rfl, px10, bx10⟩); have b810 : Below w8.heap.size w8 w10 := below_then' (a := w8) (B := w8.heap.size) (by (repeat' (first | (with_reducible exact Below.refl _ _) | (with_reducible assumption) | (with_reducible refine Below.drew ?_) | (with_reducible refine below_drewN ?_ _) | (with_reducible refine Below.alloc ?_ ?_ _) | (with_reducible refine Below.setCell ?_ ?_ _) | omega | (simp; done) | (simp; omega)))) bx10 (by first | omega | (simp; done) | (simp; omega)); have Y10 := Lib.hid (Y8.out.below b810 ly); obtain ⟨z0, z1, z2⟩ := blk3 Y10.out; have P10 := Lib.hid (px10 0); have B10 := Lib.hid (B8.out.trans (b810.mono B8.out.size)); have ly10 := Y10.out.lt)
    | ((go_at_call 71; (with_reducible refine (c5 x10 _ P10.out.rd).mono ?_); rintro e w11 ⟨rfl, bx11⟩); have Y11 := Lib.hid (Y10.out.below bx11 ly10); obtain ⟨u0, u1, u2⟩ := blk3 Y11.out; have B11 := Lib.hid (B10.out.trans (bx11.mono B10.out.size)))
    | fail "no arm")
  go_wp2
  go_ret
  exact ⟨rfl, B11.out⟩
end Go.Proofs.Ytalmdccgpigppaa
