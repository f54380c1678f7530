/- Parts: OneK. -/
import Derived.Test.YtalmdccgpigppaaGreatPr49
namespace Go.Proofs.YtalmdccgpigppaaGreat
open Go.RowKit
set_option linter.unusedVariables false
set_option linter.unusedSimpArgs false
theorem sPutV_few (D : DiskV) (f m : Nat) (kind : Int) (next : Nat) (ts : List Int) (n : Int) (l : List Int) (hn : next ≤ m) : (sPutV D f m kind next ts n l).1.many = D.many ∧ (sPutV D f m kind next ts n l).1.waits.length ≤ D.waits.length + 1 ∧ (sPutV D f m kind next ts n l).2.1 ≤ m := by
  have h := jAddV_few D f m kind next (rowB ts l ts.length) hn
  unfold sPutV
  split
  · exact ⟨rfl, by simp, hn⟩
  split
  · exact ⟨rfl, by simp, hn⟩
  split
  · exact ⟨rfl, by simp, hn⟩
  split
  · exact h
  · exact h
theorem fGetV_few (D : DiskV) (f m : Nat) (kind : Int) (next : Nat) (ts : List Int) (n : Int) : (fGetV D f m kind next ts n).1.many = D.many ∧ (fGetV D f m kind next ts n).1.waits.length ≤ D.waits.length := by
  obtain ⟨o, e⟩ := fGetV_keeps D f m kind next ts n
  rw [e]
  exact ⟨rfl, Nat.le_refl _⟩
theorem fOpenV_few (D : DiskV) (f m : Nat) (kind : Int) (ts : List Int) : (fOpenV D f m kind ts).1.many = D.many ∧ (fOpenV D f m kind ts).1.waits.length ≤ D.waits.length + m ∧ (fOpenV D f m kind ts).2.1 ≤ m := by
  obtain ⟨h1, h2, h3⟩ := jOpenV_few D f m kind
  obtain ⟨o, e⟩ := fAllK_keeps (jOpenV D f m kind).1 f m kind (jOpenV D f m kind).2.1 ts (jOpenV D f m kind).2.1
  unfold fOpenV
  split
  · exact ⟨rfl, by simp, by simp⟩
  split
  · exact ⟨h1, h2, by simp⟩
  split
  · exact ⟨by rw [e]; exact h1, by rw [e]; exact h2, by simp⟩
  · exact ⟨by rw [e]; exact h1, by rw [e]; exact h2, h3⟩
/-- Own ints are as they were. -/
theorem RDiskS.oi {w w' : World} {base b n c : Nat} {q : RDiskP} {D : DiskV} {B : Option Addr} {l : List Int} (h : RDiskS w base q D) (ho : Ow iv w b 3 B n c l) (hq : q.go < b) (kr : RStep base q w w') : Ow iv w' b 3 B n c l := by
  obtain ⟨F', hF', tF⟩ := kr.tch
  obtain ⟨_, ⟨c1, b1⟩, ⟨c2, b2⟩, ⟨c3, b3⟩⟩ := h.kinds
  refine ⟨ho.1, own_keep ho.2 hF' (fun g hg hf => ?_)⟩
  have hg' : B.map (·.block) = some g := by cases B with | none => simp [Value.ownBlock] at hg | some a => simpa [Value.ownBlock] using hg
  obtain ⟨cs, hbk⟩ := Ow.blk (enc := iv) ho hg'
  rcases tF _ _ _ hf hbk with q1 | q1 | q1 | q1 | q1
  · exact absurd q1 (by decide)
  · exact absurd q1 (by decide)
  · exact hbk.ne_ b1 (by decide) q1
  · exact hbk.ne_ b2 (by decide) q1
  · have := (ho.lt g hg').1; omega
/-- Both, and what is done. -/
structure SX (w0 w : World) (base : Nat) (p : DiskP) (q : RDiskP) (ga gb gs gw gx : Nat) (E D : DiskV) (ts : List Int) (nx rnx : Nat) (ds : List Value) : Prop where
  so : SO w0 w base p q ga gb gs gw E D ts nx rnx (sbothC p q ga (some ⟨gs, 0, none⟩) (some ⟨gw, 0, none⟩))
  xx : Blk w gx 48 ds
section
variable {w0 w w' : World} {base ga gb gs gw gx nx rnx nx' : Nat} {p : DiskP} {q : RDiskP} {D E E' D' : DiskV} {ts : List Int} {ds : List Value}
theorem SX.below (h : SX w0 w base p q ga gb gs gw gx E D ts nx rnx ds) (hb : Below w.heap.size w w') : SX w0 w' base p q ga gb gs gw gx E D ts nx rnx ds := ⟨h.so.below hb, h.xx.below hb h.xx.lt⟩
theorem SX.step (h : SX w0 w base p q ga gb gs gw gx E D ts nx rnx ds) (st : Step mutD base p w w') (hd : DiskS w' base p E') : SX w0 w' base p q ga gb gs gw gx E' D ts nx rnx ds := ⟨h.so.step st hd, h.so.sd.blk h.xx st.tch (by decide)⟩
theorem SX.stepJ (h : SX w0 w base p q ga gb gs gw gx E D ts nx rnx ds) (st : Step mutJ base p w w') (hd : DiskS w' base p E') (hj : JRowsAt 107 w' base gs ga 4 nx' ts) : SX w0 w' base p q ga gb gs gw gx E' D ts nx' rnx ds := ⟨h.so.stepJ st hd hj, h.so.sd.blk h.xx st.tch (by decide)⟩
theorem SX.rstep (h : SX w0 w base p q ga gb gs gw gx E D ts nx rnx ds) (kr : RStep base q w w') (hr : RDiskS w' base q D') : SX w0 w' base p q ga gb gs gw gx E D' ts nx rnx ds := ⟨h.so.rstep kr hr, h.so.sr.blk h.xx kr (by decide)⟩
theorem SX.rput {R : DiskV × Nat × Bool × Int} {e : Ending} (h : SX w0 w base p q ga gb gs gw gx E D ts nx rnx ds) (hp : RSPutPost w base gw p q 1 8 4 ts E R e w') : SX w0 w' base p q ga gb gs gw gx E R.1 ts nx R.2.1 ds := ⟨h.so.rput hp, hp.2.2.2.2.2.1 _ _ _ (by decide) h.xx⟩
/-- What one of a play leaves. -/
def SOnePost (w0 : World) (base : Nat) (p : DiskP) (q : RDiskP) (ga gb : Nat) (D : DiskV) (ts : List Int) (e : Ending) (w' : World) : Prop :=
  e = .returned (.bool true) ∧ ∃ (D' : DiskV) (gs gw nx : Nat), SO w0 w' base p q ga gb gs gw D' D' ts nx nx (sbothC p q ga (some ⟨gs, 0, none⟩) (some ⟨gw, 0, none⟩)) ∧ D'.many = D.many ∧ D'.waits.length ≤ D.waits.length + 8 ∧ nx ≤ 8
theorem SX.done {D0 : DiskV} (h : SX w0 w base p q ga gb gs gw gx D D ts nx nx ds) (h1 : D.many = D0.many) (h2 : D.waits.length ≤ D0.waits.length + 8) (h3 : nx ≤ 8) : SOnePost w0 base p q ga gb D0 ts (.returned (.bool true)) w := ⟨rfl, D, gs, gw, nx, h.so, h1, h2, h3⟩
theorem SX.opened {D0 : DiskV} {e : Ending} (h : SX w0 w base p q ga gb gs gw gx D D ts nx nx ds) (h1 : D.many = D0.many) (h2 : D.waits.length ≤ D0.waits.length) (h3 : nx ≤ 8) (hp : SBPost w base p q ga gb (some ⟨gs, 0, none⟩) (some ⟨gw, 0, none⟩) D ts (fOpenV D 1 8 4 ts) e w') : SOnePost w0 base p q ga gb D0 ts e w' := by
  obtain ⟨rfl, hc⟩ := hp
  obtain ⟨q1, q2, q3⟩ := fOpenV_few D 1 8 4 ts
  rcases hc with ⟨_, c1, w1, s1, d1, k1, r1⟩ | ⟨_, gs', gw', so⟩
  · exact ⟨rfl, _, gs, gw, nx, (h.so.step s1 d1).rstep k1 r1, q1.trans h1, by omega, h3⟩
  · exact ⟨rfl, _, gs', gw', _, ⟨so.sd, so.sr, so.n1, so.n2, so.a, so.bo, so.ss, so.rw_, h.so.bel.trans so.bel, h.so.bs, so.gb_⟩, q1.trans h1, by omega, q3⟩
set_option maxRecDepth 100000 in
set_option maxHeartbeats 20000000 in
theorem sone_any (h : SO w w base p q ga gb gs gw D D ts nx nx (sbothC p q ga (some ⟨gs, 0, none⟩) (some ⟨gw, 0, none⟩))) (hm : D.many = 10) (hnx : nx ≤ 8) (hr : rightB ts = true)
    (x : DoW) (C : Option Addr) (k1 k2 : Nat) (B : Option Addr) (k d : Nat) (hL : RI w C k1 x.l) (hC : 0 < k1 → ∀ g, C.map (·.block) = some g → g < base) (hk1 : k1 ≤ maxLen) (hio : IntOk x.l) (hB0 : RB w B k x.b) (hB : 0 < k → ∀ g, B.map (·.block) = some g → g < base) (hk : k ≤ maxLen) (hxn : x.n ≤ 9223372036854775807) (hw : D.waits.length < 700000) :
    Calls Tryz.prog 15 #[.pointer (some ⟨gb, 0, none⟩), .agg #[.int .i64 x.kind, .int .i64 x.n, .slice C k1 k2, .slice B k d]] w (SOnePost w base p q ga gb D ts) := by
  have hs := h.size
  have bA : Below w.heap.size w (w.alloc (.cells #[.int .i64 x.kind, .int .i64 x.n, .slice C k1 k2, .slice B k d] 48)) := (Below.refl _ _).alloc (Nat.le_refl _) _
  have O1 : SX w (w.alloc (.cells #[.int .i64 x.kind, .int .i64 x.n, .slice C k1 k2, .slice B k d] 48)) base p q ga gb gs gw w.heap.size D D ts nx nx (doW x C k1 k2 B k d) := ⟨h.below bA, Blk.top _ rfl rfl⟩
  have LOW := Lib.hid (fun (W : World) (hb : Below base w W) => (show RB W B k x.b from ⟨hB0.1, fun h0 => (hB0.2.sameB hb.size (fun b e _ => hb.block b (hB h0 b e))) h0⟩))
  have LWI := Lib.hid (fun (W : World) (hb : Below base w W) => hL.low hC hb)
  have HB := Lib.hid hB
  have HM := Lib.hid hm
  clear h hL hC hB0 hB bA hm
  generalize hgx : w.heap.size = gx at O1
  have HGX := Lib.hid hgx
  go_enter Tryz.func15, Tryz.ntmps15
  go_upto_region 1 with fail
  refine code_world (fun W => SX w W base p q ga gb gs gw gx D D ts nx nx (doW x C k1 k2 B k d)) O1 ?_
  clear O1 hgx
  intro w4 O4
  have x0 : w4.cell? ⟨gx, 0, none⟩ = some (.int .i64 x.kind) := O4.xx.cell 0
  have x1 : w4.cell? ⟨gx, 1, none⟩ = some (.int .i64 x.n) := O4.xx.cell 1
  have x2 : w4.cell? ⟨gx, 2, none⟩ = some (.slice C k1 k2) := O4.xx.cell 2
  have x3 : w4.cell? ⟨gx, 3, none⟩ = some (.slice B k d) := O4.xx.cell 3
  have v0 : w4.cell? ⟨gb, 0, none⟩ = some (.pointer (some ⟨p.d, 0, none⟩)) := O4.so.bo.cell 0
  have v2 : w4.cell? ⟨gb, 2, none⟩ = some (.pointer (some ⟨gs, 0, none⟩)) := O4.so.bo.cell 2
  have v3 : w4.cell? ⟨gb, 3, none⟩ = some (.pointer (some ⟨q.d, 0, none⟩)) := O4.so.bo.cell 3
  have v4 : w4.cell? ⟨gb, 4, none⟩ = some (.pointer (some ⟨gw, 0, none⟩)) := O4.so.bo.cell 4
  have sz4 := O4.so.size
  have hgo : q.go < w4.heap.size := by obtain ⟨_, _, _, cs, hb⟩ := O4.so.sr.kinds; exact hb.lt
  have HO4 := Lib.hid O4
  have OD := Lib.hid (O4.below (Below.drew (Below.refl w4.heap.size w4)))
  clear O4
  by_cases h1 : x.kind = 1
  · have kk1 : (x.kind == 1) = true := by rw [h1]; rfl
    have c1 := fun {W : World} {D' : DiskV} (O : SX w W base p q ga gb gs gw gx D D' ts nx nx (doW x C k1 k2 B k d)) => skput_any O.so.ss.at_ O.so.sd O.so.size O.so.a (by rw [HM.out]; omega) (by omega) hnx (by omega) hr x.n C k1 k2 (LWI.out _ O.so.bel) hk1 hio
    have c2 := fun {W : World} {E' : DiskV} {nx' : Nat} (O : SX w W base p q ga gb gs gw gx E' D ts nx' nx (doW x C k1 k2 B k d)) => rsput_any O.so.rw_ O.so.sr O.so.sd O.so.n1 O.so.n2 O.so.size (by rw [HM.out]; omega) (by omega) hnx (by omega) x.n C k1 k2 (LWI.out _ O.so.bel) hk1 hio
    have FEW := Lib.hid (sPutV_few D 1 8 4 nx ts x.n x.l hnx)
    clear h1
    generalize sPutV D 1 8 4 nx ts x.n x.l = R at *
    obtain ⟨D', nx', fr, z⟩ := R
    go_wp2_with fail
    go_region_held3 (fun w' => w'.cell? ⟨gb, 2, none⟩ = some (.pointer (some ⟨gs, 0, none⟩)) ∧ w'.cell? ⟨gx, 1, none⟩ = some (.int .i64 x.n) ∧ w'.cell? ⟨gx, 2, none⟩ = some (.slice C k1 k2)) (first | go_keep | (refine ⟨?_, ?_, ?_⟩ <;> assumption)) (first
      | ((go_at_call 7; (with_reducible refine (c1 OD.out).mono ?_); rintro e w5 ⟨rfl, hd5, hj5, st5⟩); have O5 := OD.out.stepJ st5 hd5 hj5; have y2 : w5.cell? ⟨gb, 2, none⟩ = some (.pointer (some ⟨gs, 0, none⟩)) := O5.so.bo.cell 2; have z1 : w5.cell? ⟨gx, 1, none⟩ = some (.int .i64 x.n) := O5.xx.cell 1; have z2 : w5.cell? ⟨gx, 2, none⟩ = some (.slice C k1 k2) := O5.xx.cell 2; have y4 : w5.cell? ⟨gb, 4, none⟩ = some (.pointer (some ⟨gw, 0, none⟩)) := O5.so.bo.cell 4; have HO5 := Lib.hid O5; clear O5 hd5 hj5 st5)
      | fail "no arm")
    go_wp2_with fail
    have OD5 := Lib.hid (HO5.out.below (Below.drew (Below.refl w5.heap.size w5)))
    go_region_held3 (fun w' => w'.cell? ⟨gb, 4, none⟩ = some (.pointer (some ⟨gw, 0, none⟩)) ∧ w'.cell? ⟨gx, 1, none⟩ = some (.int .i64 x.n) ∧ w'.cell? ⟨gx, 2, none⟩ = some (.slice C k1 k2)) (first | go_keep | (refine ⟨?_, ?_, ?_⟩ <;> assumption)) (first
      | ((go_at_call 56; (with_reducible refine (c2 OD5.out).mono ?_); rintro e w6 hp6); have O6 := OD5.out.rput hp6; obtain ⟨rfl, _⟩ := hp6; have y6 : w6.cell? ⟨gb, 4, none⟩ = some (.pointer (some ⟨gw, 0, none⟩)) := O6.so.bo.cell 4; have z6 : w6.cell? ⟨gx, 1, none⟩ = some (.int .i64 x.n) := O6.xx.cell 1; have z7 : w6.cell? ⟨gx, 2, none⟩ = some (.slice C k1 k2) := O6.xx.cell 2; have HO6 := Lib.hid O6; clear O6)
      | fail "no arm")
    go_wp2
    go_ret
    exact HO6.out.done FEW.out.1 (by have := FEW.out.2.1; omega) FEW.out.2.2
  have kk1 : (x.kind == 1) = false := by rw [beq_eq_false_iff_ne]; exact h1
  by_cases h2 : x.kind = 2
  · have kk2 : (x.kind == 2) = true := by rw [h2]; rfl
    have c1 := fun {W : World} {D' : DiskV} (O : SX w W base p q ga gb gs gw gx D D' ts nx nx (doW x C k1 k2 B k d)) => skget_any O.so.ss.at_ O.so.sd O.so.size O.so.a (by rw [HM.out]; omega) (by omega) x.n
    have c2 := fun {W : World} {E' : DiskV} (O : SX w W base p q ga gb gs gw gx E' D ts nx nx (doW x C k1 k2 B k d)) => rrget_any O.so.rw_ O.so.sr O.so.size (by rw [HM.out]; omega) (by omega) x.n
    have FEW := Lib.hid (fGetV_few D 1 8 4 nx ts x.n)
    generalize fGetV D 1 8 4 nx ts x.n = R at *
    obtain ⟨D', L, z⟩ := R
    simp only at c1 c2
    clear h1 h2
    go_wp2_with fail
    go_region_held3 (fun w' => w'.cell? ⟨gb, 2, none⟩ = some (.pointer (some ⟨gs, 0, none⟩)) ∧ w'.cell? ⟨gx, 1, none⟩ = some (.int .i64 x.n)) (first | go_keep | (refine ⟨?_, ?_⟩ <;> assumption)) (first
      | ((go_at_call 41; (with_reducible refine (c1 OD.out).mono ?_); rintro e w5 ⟨B5, n5, d5, rfl, ob5, hd5, st5⟩); have O5 := OD.out.step st5 hd5; have y2 : w5.cell? ⟨gb, 2, none⟩ = some (.pointer (some ⟨gs, 0, none⟩)) := O5.so.bo.cell 2; have z2 : w5.cell? ⟨gx, 1, none⟩ = some (.int .i64 x.n) := O5.xx.cell 1; have y4 : w5.cell? ⟨gb, 4, none⟩ = some (.pointer (some ⟨gw, 0, none⟩)) := O5.so.bo.cell 4; have HO5 := Lib.hid O5; have OB5 := Lib.hid ob5; clear O5 hd5 st5 ob5)
      | fail "no arm")
    go_wp2_with fail
    have bD5 := Below.drew (Below.refl w5.heap.size w5)
    have OD5 := Lib.hid (HO5.out.below bD5)
    have OBD := Lib.hid (OB5.out.below bD5 (Nat.le_refl _))
    clear bD5
    go_region_held3 (fun w' => w'.cell? ⟨gb, 4, none⟩ = some (.pointer (some ⟨gw, 0, none⟩)) ∧ w'.cell? ⟨gx, 1, none⟩ = some (.int .i64 x.n)) (first | go_keep | (refine ⟨?_, ?_⟩ <;> assumption)) (first
      | ((go_at_call 57; (with_reducible refine (c2 OD5.out).mono ?_); rintro e w6 ⟨B6, n6, d6, rfl, rb6, hr6, k6⟩); have O6 := OD5.out.rstep k6 hr6; have y6 : w6.cell? ⟨gb, 4, none⟩ = some (.pointer (some ⟨gw, 0, none⟩)) := O6.so.bo.cell 4; have z6 : w6.cell? ⟨gx, 1, none⟩ = some (.int .i64 x.n) := O6.xx.cell 1; have ob6 := OD5.out.so.sr.oi OBD.out hgo k6; have HO6 := Lib.hid O6; have hsame := ints_any B5 B6 n5 n6 d5 d6 L L w6 ob6.rd.ri rb6 (by have := ob6.cap; omega); clear O6 hr6 k6 rb6 ob6)
      | fail "no arm")
    rw [show decide True = true from rfl] at hsame
    go_wp2_with (first
      | (go_at_call 42; (with_reducible refine (hsame).mono ?_); rintro e w8 ⟨rfl, q8, rfl⟩)
      | fail "no arm")
    go_ret
    exact (HO6.out.below (below_drewN (Below.refl _ _) q8)).done FEW.out.1 (by have := FEW.out.2; omega) hnx
  have kk2 : (x.kind == 2) = false := by rw [beq_eq_false_iff_ne]; exact h2
  by_cases h3 : x.kind = 3
  · have kk3 : (x.kind == 3) = true := by rw [h3]; rfl
    have c1 := fun {W : World} {D' : DiskV} (O : SX w W base p q ga gb gs gw gx D D' ts nx nx (doW x C k1 k2 B k d)) => skflush_any O.so.ss.at_ O.so.sd O.so.size O.so.a
    have c2 := fun {W : World} {E' : DiskV} (O : SX w W base p q ga gb gs gw gx E' D ts nx nx (doW x C k1 k2 B k d)) => r_flush O.so.sr O.so.size
    have FEW := Lib.hid (flushV_few D)
    generalize flushV D = R at *
    obtain ⟨D', z⟩ := R
    clear h1 h2 h3
    go_wp2_with fail
    go_region_held3 (fun w' => w'.cell? ⟨gb, 2, none⟩ = some (.pointer (some ⟨gs, 0, none⟩)) ∧ w'.cell? ⟨gb, 3, none⟩ = some (.pointer (some ⟨q.d, 0, none⟩))) (first | go_keep | (refine ⟨?_, ?_⟩ <;> assumption)) (first
      | ((go_at_call 9; (with_reducible refine (c1 OD.out).mono ?_); rintro e w5 ⟨rfl, hd5, st5⟩); have O5 := OD.out.step st5 hd5; have y2 : w5.cell? ⟨gb, 2, none⟩ = some (.pointer (some ⟨gs, 0, none⟩)) := O5.so.bo.cell 2; have y3 : w5.cell? ⟨gb, 3, none⟩ = some (.pointer (some ⟨q.d, 0, none⟩)) := O5.so.bo.cell 3; have HO5 := Lib.hid O5; clear O5 hd5 st5)
      | ((go_at_call 58; (with_reducible refine (c2 HO5.out).mono ?_); rintro e w6 ⟨rfl, hr6, k6⟩); have O6 := HO5.out.rstep k6 hr6; have y6 : w6.cell? ⟨gb, 2, none⟩ = some (.pointer (some ⟨gs, 0, none⟩)) := O6.so.bo.cell 2; have z6 : w6.cell? ⟨gb, 3, none⟩ = some (.pointer (some ⟨q.d, 0, none⟩)) := O6.so.bo.cell 3; have HO6 := Lib.hid O6; clear O6 hr6 k6)
      | fail "no arm")
    go_wp2
    go_ret
    exact HO6.out.done FEW.out.1 (by have := FEW.out.2; omega) hnx
  have kk3 : (x.kind == 3) = false := by rw [beq_eq_false_iff_ne]; exact h3
  by_cases h4 : x.kind = 4
  · have kk4 : (x.kind == 4) = true := by rw [h4]; rfl
    have c1 := fun {W : World} {D' : DiskV} (O : SX w W base p q ga gb gs gw gx D D' ts nx nx (doW x C k1 k2 B k d)) => s_cut O.so.sd O.so.size x.n hxn
    have c2 := fun {W : World} {E' : DiskV} (O : SX w W base p q ga gb gs gw gx E' D ts nx nx (doW x C k1 k2 B k d)) => r_cut O.so.sr O.so.size x.n hxn
    have FEW := Lib.hid (show ({ D with cut := max x.n (-1) } : DiskV).many = D.many ∧ ({ D with cut := max x.n (-1) } : DiskV).waits.length ≤ D.waits.length from ⟨rfl, Nat.le_refl _⟩)
    generalize ({ D with cut := max x.n (-1) } : DiskV) = D' at *
    clear h1 h2 h3 h4
    go_wp2_with fail
    go_region_held3 (fun w' => w'.cell? ⟨gb, 0, none⟩ = some (.pointer (some ⟨p.d, 0, none⟩)) ∧ w'.cell? ⟨gx, 1, none⟩ = some (.int .i64 x.n)) (first | go_keep | (refine ⟨?_, ?_⟩ <;> assumption)) (first
      | ((go_at_call 30; (with_reducible refine (c1 OD.out).mono ?_); rintro e w5 ⟨rfl, hd5, st5⟩); have O5 := OD.out.step st5 hd5; have y2 : w5.cell? ⟨gb, 0, none⟩ = some (.pointer (some ⟨p.d, 0, none⟩)) := O5.so.bo.cell 0; have z2 : w5.cell? ⟨gx, 1, none⟩ = some (.int .i64 x.n) := O5.xx.cell 1; have y4 : w5.cell? ⟨gb, 3, none⟩ = some (.pointer (some ⟨q.d, 0, none⟩)) := O5.so.bo.cell 3; have HO5 := Lib.hid O5; clear O5 hd5 st5)
      | fail "no arm")
    go_wp2_with fail
    have OD5 := Lib.hid (HO5.out.below (Below.drew (Below.refl w5.heap.size w5)))
    go_region_held3 (fun w' => w'.cell? ⟨gb, 3, none⟩ = some (.pointer (some ⟨q.d, 0, none⟩)) ∧ w'.cell? ⟨gx, 1, none⟩ = some (.int .i64 x.n)) (first | go_keep | (refine ⟨?_, ?_⟩ <;> assumption)) (first
      | ((go_at_call 31; (with_reducible refine (c2 OD5.out).mono ?_); rintro e w6 ⟨rfl, hr6, k6⟩); have O6 := OD5.out.rstep k6 hr6; have y6 : w6.cell? ⟨gb, 3, none⟩ = some (.pointer (some ⟨q.d, 0, none⟩)) := O6.so.bo.cell 3; have z6 : w6.cell? ⟨gx, 1, none⟩ = some (.int .i64 x.n) := O6.xx.cell 1; have HO6 := Lib.hid O6; clear O6 hr6 k6)
      | fail "no arm")
    go_wp2
    go_ret
    exact HO6.out.done FEW.out.1 (by have := FEW.out.2; omega) hnx
  have kk4 : (x.kind == 4) = false := by rw [beq_eq_false_iff_ne]; exact h4
  by_cases h5 : x.kind = 5
  · have kk5 : (x.kind == 5) = true := by rw [h5]; rfl
    have c1 := fun {W : World} {D' : DiskV} (O : SX w W base p q ga gb gs gw gx D D' ts nx nx (doW x C k1 k2 B k d)) => s_crash O.so.sd O.so.size B k d x.b (LOW.out _ O.so.bel) HB.out hk
    have c2 := fun {W : World} {E' : DiskV} (O : SX w W base p q ga gb gs gw gx E' D ts nx nx (doW x C k1 k2 B k d)) => r_crash O.so.sr O.so.size B k d x.b (LOW.out _ O.so.bel) HB.out hk
    have FEW := Lib.hid (show (crashV D x.b).many = D.many ∧ (crashV D x.b).waits.length ≤ D.waits.length from ⟨by simp [crashV], by simp [crashV]⟩)
    generalize crashV D x.b = D' at *
    have c3 := fun {W : World} (O : SX w W base p q ga gb gs gw gx D' D' ts nx nx (doW x C k1 k2 B k d)) (A : Option Addr) (n c : Nat) (a1 : RI W A n ts) (a2 : n ≤ maxLen) (a3 : 0 < n → ∀ b, A.map (·.block) = some b → b < base) => sbopen_any (P1 := some ⟨gs, 0, none⟩) (P2 := some ⟨gw, 0, none⟩) O.so.sd O.so.sr O.so.n1 O.so.n2 O.so.a O.so.bo O.so.size O.so.gb_ (by rw [FEW.out.1, HM.out]) (by have := FEW.out.2; omega) A n c a1 a2 a3 hr
    clear h1 h2 h3 h4 h5
    go_wp2_with fail
    go_region_held3 (fun w' => w'.cell? ⟨gb, 0, none⟩ = some (.pointer (some ⟨p.d, 0, none⟩)) ∧ w'.cell? ⟨gx, 3, none⟩ = some (.slice B k d)) (first | go_keep | (refine ⟨?_, ?_⟩ <;> assumption)) (first
      | ((go_at_call 32; (with_reducible refine (c1 OD.out).mono ?_); rintro e w5 ⟨rfl, hd5, st5⟩); have O5 := OD.out.step st5 hd5; have y2 : w5.cell? ⟨gb, 0, none⟩ = some (.pointer (some ⟨p.d, 0, none⟩)) := O5.so.bo.cell 0; have z2 : w5.cell? ⟨gx, 3, none⟩ = some (.slice B k d) := O5.xx.cell 3; have y4 : w5.cell? ⟨gb, 3, none⟩ = some (.pointer (some ⟨q.d, 0, none⟩)) := O5.so.bo.cell 3; have HO5 := Lib.hid O5; clear O5 hd5 st5)
      | fail "no arm")
    go_wp2_with fail
    have OD5 := Lib.hid (HO5.out.below (Below.drew (Below.refl w5.heap.size w5)))
    go_region_held3 (fun w' => w'.cell? ⟨gb, 3, none⟩ = some (.pointer (some ⟨q.d, 0, none⟩)) ∧ w'.cell? ⟨gx, 3, none⟩ = some (.slice B k d)) (first | go_keep | (refine ⟨?_, ?_⟩ <;> assumption)) (first
      | ((go_at_call 33; (with_reducible refine (c2 OD5.out).mono ?_); rintro e w6 ⟨rfl, hr6, k6⟩); have O6 := OD5.out.rstep k6 hr6; have y6 : w6.cell? ⟨gb, 3, none⟩ = some (.pointer (some ⟨q.d, 0, none⟩)) := O6.so.bo.cell 3; have z6 : w6.cell? ⟨gx, 3, none⟩ = some (.slice B k d) := O6.xx.cell 3; have r6 : w6.cell? ⟨gb, 4, none⟩ = some (.pointer (some ⟨gw, 0, none⟩)) := O6.so.bo.cell 4; have HO6 := Lib.hid O6; clear O6 hr6 k6)
      | fail "no arm")
    obtain ⟨gj9, A9, n9, c9, b9, _, _, i9, m9, l9⟩ := HO6.out.so.rw_
    have t6 : w6.cell? ⟨gw, 1, none⟩ = some (.slice A9 n9 c9) := b9.cell 1
    have c4 := c3 HO6.out A9 n9 c9 i9 m9 l9
    clear b9 i9 l9
    go_wp2_with (first
      | ((go_at_call 14; (with_reducible refine (c4).mono ?_); rintro e w7 hp7); have OO := Lib.hid (HO6.out.opened FEW.out.1 FEW.out.2 hnx hp7); obtain ⟨rfl, _⟩ := hp7)
      | fail "no arm")
    go_ret
    exact OO.out
  have kk5 : (x.kind == 5) = false := by rw [beq_eq_false_iff_ne]; exact h5
  clear h1 h2 h3 h4 h5
  go_wp2
  go_ret
  exact HO4.out.done rfl (by omega) hnx
end
end Go.Proofs.YtalmdccgpigppaaGreat
