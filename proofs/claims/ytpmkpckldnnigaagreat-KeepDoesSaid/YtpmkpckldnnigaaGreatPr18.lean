/- Parts: DiskJ, DiskI, DiskL, AreaA, AreaB. -/
import Derived.Test.YtpmkpckldnnigaaGreatPr12
import Derived.Test.YtpmkpckldnnigaaGreatPr17
import Derived.Test.YtpmkpckldnnigaaGreatPr02
import Derived.Test.YtpmkpckldnnigaaGreatPr16
import Derived.Test.YtpmkpckldnnigaaGreatPr01
import Derived.Test.YtpmkpckldnnigaaGreatPr13
set_option linter.unusedVariables false
set_option linter.unusedSimpArgs false
set_option maxRecDepth 100000
set_option maxHeartbeats 40000000
namespace Go.Proofs.YtpmkpckldnnigaaGreat
open Go.RowKit
theorem qa4.belowK {w w' : World} {base : Nat} {p : qe3} {A : Option Addr} {c : Nat} {D : qa3} (h : qa4 w base p A c D) (k : Keep (foot p A) w w') (hb : base ≤ w.heap.size) : Below base w w' := k.below h.bs hb
section
variable {w : World} {base : Nat} {p : qe3} {A : Option Addr} {c : Nat} {D : qa3}
theorem qn7 {P : Program} {t e : TypeId} {n : Nat} (hu : P.underlying t = some (.array n e)) (hs : (P.info? e).map (·.size) = some 1) (g o : Nat) (W : World) :
    (Instr.sliceAt t (.pointer (some ⟨g, o, none⟩)) none none none).run P W = .ok (.slice (some ⟨g, o, none⟩) n n) W := by
  have e1 : P.arrayLen t = n := by unfold Program.arrayLen; rw [hu]
  have e2 : P.elem t = e := by unfold Program.elem; rw [hu]
  cases hq : P.info? e with
  | none => simp [hq] at hs
  | some i =>
    have hsz : i.size = 1 := by simpa [hq] using hs
    rw [run_sliceAt_array_all W t ⟨g, o, none⟩ (by rw [e1, e2]; exact hu), e2, e1]; have hso : (sizeOf e).run P W = .ok 1 W := by simp [sizeOf, typeInfo, hq, hsz]
    have hadd : (⟨g, o, none⟩ : Addr).add 0 = ⟨g, o, none⟩ := by simp [Addr.add]
    rw [hso]; simp [slicedAt, hadd]
theorem take_sec {l : List UInt8} {k : Nat} : l.take (k * 128) ++ (l.drop (k * 128)).take 128 = l.take ((k + 1) * 128) := by
  rw [show (k + 1) * 128 = k * 128 + 128 by omega, List.take_add]
theorem image_any (h : qa4 w base p A c D) : Calls Tryz.prog 27 #[.pointer (some ⟨p.d, 0, none⟩)] w fun e w' => ∃ B N d, e = .returned (.slice B N d) ∧ OB w' w.heap.size 5 B N d D.kept ∧ Below w.heap.size w w' := by
  have his := isd h; have c0 := h.cells.1; have hm := h.ok.many1; have hkl := hdd h.ok.kept; have H := hdd h; clear h; go_enter Tryz.func27, Tryz.ntmps27; go_wp2_with (first | (go_at_call 75; (with_reducible refine (his).mono ?_); rintro e w1 ⟨rfl, rfl⟩) | fail "no arm"); go_loopw [3, 4, 13] (fun v _ i wr => ∃ (k : Nat) (B : Option Addr) (d : Nat), k ≤ D.many ∧ i = .int .i64 (k : Nat) ∧ v = .slice B (k * 128) d ∧ OB wr w.heap.size 5 B (k * 128) d (D.kept.take (k * 128)) ∧ Below w.heap.size w wr) (fun _ _ i _ => D.many - (intOf i).toNat)
  case atStart => exact ⟨0, none, 0, omg, rfl, rfl, Ow.nil _ _ _ _, Below.refl _ _⟩
  case round =>
    obtain ⟨k, B, d, hk, rfl, rfl, hown, hbel⟩ := hrel; have hbs := hbel.size
    by_cases hlt : k < D.many
    · have hX := H.out.below hbel; have e0 := hX.cells.1; have hrd : RB wr (some ⟨p.gk, k * 128, none⟩) 128 ((D.kept.drop (k * 128)).take 128) := hX.bk.rb rfl (by rw [hkl.out]; omega); have hcut := qn7 (P := Tryz.prog) Tryz.underlying152 (by kernel_rfl) p.gk (k * 128); have HX := hdd hX; clear hX; go_wp2_with (first | (at_builtin; refine qa6 rfl rfl qb4 qc2 (s := .tmp 16) (N := (k + 1) * 128) (L := D.kept.take ((k + 1) * 128)) rfl (hown.below (b := wr.heap.size) gwn szz) rfl (k := (D.kept.drop (k * 128)).take 128) hrd.rd omg take_sec uml omg szz ?_; intro A5 c5 w5 hown5 hg5 hat5 hb5; replace hb5 := qa0 (a := w) (B := w.heap.size) gwn hb5 szz; have hb5s := hb5.size) | fail "no arm"); go_roundw
      case rel => first | exact ⟨k + 1, A5, c5, omg, by go_num, rfl, hown5, hb5⟩ | exact ⟨_, _, _, ⟨k + 1, A5, c5, omg, by go_num, rfl, hown5, hb5⟩, rfl, rfl, rfl⟩
      case measure => simp [intOf]; omega
    · have hk9 : k = D.many := omg; subst hk9; rw [List.take_of_length_le (by rw [hkl.out]; omega)] at hown; go_wp2; go_ret; exact ⟨B, _, d, rfl, hown, hbel⟩
end
section
variable {w w' : World} {base : Nat} {p : qe3} {A : Option Addr} {c : Nat} {D : qa3}
theorem qa4.foot_ty (h : qa4 w base p A c D) {g : Nat} {t : TypeId} {cs : List Value} (hb : Blk w g t cs) (hg : foot p A g) : t = 151 ∨ t = 152 ∨ t = 4 ∨ t = 282 ∨ t = 154 := by
  have ty : ∀ {t' : TypeId} {cs' : List Value}, Blk w g t' cs' → t = t' := fun h' => by
    unfold Blk at hb h'; rw [hb] at h'; injection h' with h'; injection h' with _ ht
  rcases hg with rfl | rfl | rfl | rfl | rfl | rfl | hg
  · exact .inl (ty h.st)
  · exact .inr (.inl (ty h.bk))
  · exact .inr (.inl (ty h.bn))
  · exact .inr (.inr (.inl (ty h.bi)))
  · exact .inr (.inr (.inl (ty h.bm)))
  · exact .inr (.inr (.inr (.inl (ty h.mt.2))))
  · rcases h.wa.2 with ⟨hv, _⟩ | ⟨g', cap, cur, hv, _, hh, _⟩
    · injection hv with hv; subst hv; cases hg
    · injection hv with hv; subst hv; simp only [Option.map_some, Option.some.injEq] at hg; subst hg; exact .inr (.inr (.inr (.inr (ty (cs' := cur.toList) (by unfold Blk; rw [hh])))))
end
def qc4 (w : World) (base : Nat) (p : qe3) (D : qa3) : Prop := ∃ A c, qa4 w base p A c D
theorem qe8.s {w w' : World} {base : Nat} {p : qe3} {A : Option Addr} {D : qa3} (h : qe8 w base p A D w') : qc4 w' base p D := by
  obtain ⟨A', c', h, _⟩ := h; exact ⟨A', c', h⟩
theorem qa4.s {w : World} {base : Nat} {p : qe3} {A : Option Addr} {c : Nat} {D : qa3} (h : qa4 w base p A c D) : qc4 w base p D := ⟨A, c, h⟩
theorem qc4.below {w w' : World} {base : Nat} {p : qe3} {D : qa3} (h : qc4 w base p D) (hb : Below w.heap.size w w') : qc4 w' base p D := by
  obtain ⟨A, c, h⟩ := h; exact ⟨A, c, h.below hb⟩
section
variable {w w' : World} {base : Nat} {p q : qe3} {A B : Option Addr} {a b : Nat} {D D' E E' : qa3}
end
def qc3 (w : World) (ga d f m : Nat) : Prop := Blk w ga 217 [.pointer (some ⟨d, 0, none⟩), .int .i64 (f : Int), .int .i64 (m : Int)]
def qn3 (D : qa3) (n : Int) : qa3 × List UInt8 × Int := if mayV D n ≠ 0 then (D, qa5, mayV D n) else (qt1 D, qc7 D.now n, 0)
theorem vd5 {D : qa3} (h : D.Ok) (n : Int) : (qn3 D n).2.1.length = 128 := by
  unfold qn3
  split
  · exact qd2
  · rename_i hm; obtain ⟨_, h0, h1⟩ := qp4 (D := D) (n := n) omg; exact qh8 h.now h0 h1
section
variable {w w' : World} {base ga f m : Nat} {p : qe3} {A : Option Addr} {c : Nat} {D : qa3}
theorem qc3.below {d : Nat} (h : qc3 w ga d f m) (hb : Below w.heap.size w w') : qc3 w' ga d f m := Blk.below h hb h.lt
theorem qc3.keep {d : Nat} {F : Nat → Prop} (h : qc3 w ga d f m) (k : Keep F w w') (hF : ¬ F ga) : qc3 w' ga d f m := Blk.keep h k hF
theorem qc3.notFoot {d : Nat} (h : qc3 w ga d f m) (hd : qa4 w base p A c D) : ¬ foot p A ga := fun e => by
  rcases hd.foot_ty h e with q | q | q | q | q <;> exact absurd q dcd
theorem qc3.spares {d : Nat} (h : qc3 w ga d f m) (hd : qa4 w base p A c D) (k : Keep (foot p A) w w') : qc3 w' ga d f m := h.keep k (h.notFoot hd)
theorem dread_any (h : qa4 w base p A c D) (n : Int) : Calls Tryz.prog 221 #[.pointer (some ⟨p.d, 0, none⟩), .int .i64 n] w fun e w' =>
    e = .returned (.tuple #[aggB (qn3 D n).2.1, .int .i64 (qn3 D n).2.2]) ∧ qa4 w' base p A c (qn3 D n).1 ∧ Keep (foot p A) w w' := by
  unfold qn3
  by_cases hn : mayV D n = 0
  · rw [if_neg omg]; exact read_yes h n hn
  · rw [if_pos hn]; exact (read_no h n hn).mono fun e w' ⟨h1, h2⟩ => ⟨h1, h.below h2, Keep.of_below h2⟩
theorem many_any {d : Nat} (h : qc3 w ga d f m) : Calls Tryz.prog 110 #[.pointer (some ⟨ga, 0, none⟩)] w fun e w' => e = .returned (.int .i64 (m : Nat)) ∧ w = w' := by
  have c2 : w.cell? ⟨ga, 2, none⟩ = some (.int .i64 (m : Int)) := Blk.cell h 2; clear h; go_enter Tryz.func110, Tryz.ntmps110; go_wp2; go_ret; exact ⟨rfl, rfl⟩
/-! 'at' within the area: what the closure does at the disk's sector. -/
theorem at_read {d : Nat} {x1 x2 : Value} {R : Int → World → Prop} (h : qc3 w ga d f m) (n : Int) (h0 : 0 ≤ n) (h1 : n < m) (hfm : f + m ≤ 4096)
    (hF : Calls Tryz.prog 220 #[.int .i64 ((f : Int) + n), x1, x2] w (fun e w' => ∃ z, e = .returned (.int .i64 z) ∧ R z w')) :
    Calls Tryz.prog 219 #[.pointer (some ⟨ga, 0, none⟩), .int .i64 n, .func (.func 220) #[] #[x1, x2]] w fun e w' => ∃ z, e = .returned (.int .i64 z) ∧ R z w' := by
  have c0 : w.cell? ⟨ga, 0, none⟩ = some (.pointer (some ⟨d, 0, none⟩)) := Blk.cell h 0; have c1 : w.cell? ⟨ga, 1, none⟩ = some (.int .i64 (f : Int)) := Blk.cell h 1; have c2 : w.cell? ⟨ga, 2, none⟩ = some (.int .i64 (m : Int)) := Blk.cell h 2; clear h; go_enter Tryz.func219, Tryz.ntmps219; go_wp2_with (first | ((go_at_call 220; (with_reducible refine (hF).mono ?_); rintro e w2 ⟨z, rfl, hR⟩)) | fail "no arm"); go_ret; exact ⟨z, rfl, hR⟩
theorem at_write {d : Nat} {x1 x2 : Value} {R : Int → World → Prop} (h : qc3 w ga d f m) (n : Int) (h0 : 0 ≤ n) (h1 : n < m) (hfm : f + m ≤ 4096)
    (hF : Calls Tryz.prog 236 #[.int .i64 ((f : Int) + n), x1, x2] w (fun e w' => ∃ z, e = .returned (.int .i64 z) ∧ R z w')) :
    Calls Tryz.prog 219 #[.pointer (some ⟨ga, 0, none⟩), .int .i64 n, .func (.func 236) #[] #[x1, x2]] w fun e w' => ∃ z, e = .returned (.int .i64 z) ∧ R z w' := by
  have c0 : w.cell? ⟨ga, 0, none⟩ = some (.pointer (some ⟨d, 0, none⟩)) := Blk.cell h 0; have c1 : w.cell? ⟨ga, 1, none⟩ = some (.int .i64 (f : Int)) := Blk.cell h 1; have c2 : w.cell? ⟨ga, 2, none⟩ = some (.int .i64 (m : Int)) := Blk.cell h 2; clear h; go_enter Tryz.func219, Tryz.ntmps219; go_wp2_with (first | ((go_at_call 236; (with_reducible refine (hF).mono ?_); rintro e w2 ⟨z, rfl, hR⟩)) | fail "no arm"); go_ret; exact ⟨z, rfl, hR⟩
theorem at_out {d k : Nat} {caps : Array Value} (h : qc3 w ga d f m) (n : Int) (hn : n < 0 ∨ (m : Int) ≤ n) :
    Calls Tryz.prog 219 #[.pointer (some ⟨ga, 0, none⟩), .int .i64 n, .func (.func k) #[] caps] w fun e w' => e = .returned (.int .i64 51) ∧ w = w' := by
  have c0 : w.cell? ⟨ga, 0, none⟩ = some (.pointer (some ⟨d, 0, none⟩)) := Blk.cell h 0; have c2 : w.cell? ⟨ga, 2, none⟩ = some (.int .i64 (m : Int)) := Blk.cell h 2; clear h; have hc : n < 0 ∨ (0 ≤ n ∧ (m : Int) ≤ n) := omg; clear hn; rcases hc with h1 | ⟨h1, h2⟩
  all_goals
    go_enter Tryz.func219, Tryz.ntmps219; go_wp2; go_ret; exact ⟨rfl, rfl⟩
end
def qe1 (D : qa3) (f m : Nat) (n : Int) : qa3 × List UInt8 × Int := if n < 0 ∨ (m : Int) ≤ n then (D, qa5, 51) else qn3 D ((f : Int) + n)
def qb0 (D : qa3) (f m : Nat) (n : Int) (b : List UInt8) : qa3 × Int := if n < 0 ∨ (m : Int) ≤ n then (D, 51) else qm8 D ((f : Int) + n) b
section
variable {w w' : World} {base ga f m : Nat} {p : qe3} {A : Option Addr} {c : Nat} {D : qa3}
theorem aReadV_len (h : D.Ok) (n : Int) : (qe1 D f m n).2.1.length = 128 := by
  unfold qe1
  split
  · exact qd2
  · exact vd5 h _
theorem read1_any {g2 g6 : Nat} (h : qa4 w base p A c D) (ha : qc3 w ga p.d f m) (hbox : Blk w g2 40 [.pointer (some ⟨ga, 0, none⟩)]) {Z : List UInt8} (hx : BlkB w g6 152 Z) (hZ : Z.length = 128) (hnf : ¬ foot p A g6) (n : Int) :
    Calls Tryz.prog 220 #[.int .i64 n, .pointer (some ⟨g2, 0, none⟩), .pointer (some ⟨g6, 0, none⟩)] w fun e w' => ∃ z, e = .returned (.int .i64 z) ∧
      (z = (qn3 D n).2.2 ∧ qa4 w' base p A c (qn3 D n).1 ∧ BlkB w' g6 152 (qn3 D n).2.1 ∧ Keep (fun g => foot p A g ∨ g = g6) w w') := by
  have Hi := hdd (zero_of_info qf4).2; have hl := vd5 h.ok n; have hrd := dread_any h n; generalize qn3 D n = R at *; obtain ⟨D', S, z⟩ := R; simp only at hl hrd ⊢; have c0 : w.cell? ⟨g2, 0, none⟩ = some (.pointer (some ⟨ga, 0, none⟩)) := hbox.cell 0; have c1 : w.cell? ⟨ga, 0, none⟩ = some (.pointer (some ⟨p.d, 0, none⟩)) := Blk.cell ha 0; have hsl : Hid ((S.map bv).length = 128) := by show _ = _; rw [List.length_map, hl]
  have hsm := hdd (qk1 (l := S)); have hzl : Hid ((Z.map bv).length = 128) := by show _ = _; rw [List.length_map, hZ]
  have HX := hdd hx; have H := hdd h; unfold aggB at hrd; unfold BlkB at HX ⊢; generalize S.map bv = SV at *; clear h ha hbox hx hl hZ; go_enter Tryz.func220, Tryz.ntmps220; go_wp2_with (first | ((go_at_call 221; (with_reducible refine (hrd).mono ?_); rintro e w1 ⟨rfl, h1, k1⟩); have hx1 := HX.out.keep k1 hnf; have H1 := hdd h1; clear h1) | (refine qb3 rfl (x := .tmp 2) (y := .tmp 12) rfl rfl rfl hx1 Hi.out hsl.out (by rw [hzl.out]; omega) hsm.out ?_; intro w2 hb2 hg2 hs2; rw [qd0 _ _ (hzl.out.trans hsl.out.symm)] at hb2) | fail "no arm"); go_ret; exact ⟨z, rfl, rfl, H1.out.keep (F := (· = g6)) (Keep.one hg2) (fun g hg e => hnf (e ▸ hg)), hb2, (k1.mono (fun g _ hg => .inl hg)).trans (G := (· = g6)) (Keep.one hg2) (fun g _ e => .inr e)⟩
theorem aread_any (h : qa4 w base p A c D) (ha : qc3 w ga p.d f m) (hfm : f + m ≤ D.many) (n : Int) :
    Calls Tryz.prog 161 #[.pointer (some ⟨ga, 0, none⟩), .int .i64 n] w fun e w' => e = .returned (.tuple #[aggB (qe1 D f m n).2.1, .int .i64 (qe1 D f m n).2.2]) ∧ qa4 w' base p A c (qe1 D f m n).1 ∧ Keep (foot p A) w w' := by
  have hz := (zero_of_info qf4).1; have Hi := hdd (zero_of_info qf4).2; have hlz : Hid ((qa5.map bv).length = 128) := by show _ = _; simp [qd2]
  have HZm := hdd (qk1 (l := qa5)); have hfm4 : f + m ≤ 4096 := by have := h.ok.many1; omega
  have hl4 := hdd (fun g hg => h.lt g hg); have H := hdd h; have HA := hdd ha; unfold qe1
  by_cases hn : n < 0 ∨ (m : Int) ≤ n
  · rw [if_pos hn]; simp only; have hout := fun o1 o2 o3 => at_out (k := 220) (caps := #[.pointer (some ⟨w.heap.size, 0, none⟩), .pointer (some ⟨w.heap.size + 2, 0, none⟩)]) (((ha.below ((Below.refl _ _).alloc nlr o1)).below ((Below.refl _ _).alloc nlr o2)).below ((Below.refl _ _).alloc nlr o3)) n hn
    unfold aggB at *; generalize qa5.map bv = Z at *; clear h ha hn; go_enter Tryz.func161, Tryz.ntmps161; go_wp2_with (first | (go_at_call 219; (with_reducible refine (hout _ _ _).mono ?_); rintro e w1 ⟨rfl, rfl⟩) | (refine qd7 rfl (x := .tmp 6) rfl rfl (t := 152) (cs := Z) blq Tryz.underlying152 Hi.out hlz.out (xs := Z) (by rw [List.drop_zero, List.take_of_length_le (by rw [hlz.out]; omega)]) ?_) | (refine qb3 rfl (x := .tmp 4) (y := .tmp 12) rfl rfl rfl (t := 152) (cs := Z) (xs := Z) blq Hi.out hlz.out (by rw [hlz.out]; omega) HZm.out ?_; intro w2 hb2 hg2 hs2; rw [qd0 _ _ rfl] at hb2) | fail "no arm"); refine bodyPost_ret (v := .tuple #[.agg Z.toArray, .int .i64 51]) (qg7 Tryz.results161 _ rfl rfl hb2 Tryz.underlying152 Hi.out hlz.out) rfl ?_; have hb : Below w.heap.size w w2 := qc6 ((((Below.refl w.heap.size w).alloc nlr _).alloc szz _).alloc szz _) hg2 szz szz; exact ⟨rfl, H.out.below hb, Keep.of_below hb⟩
  · rw [if_neg hn]; have hin := fun W (q1 : qa4 W base p A c D) q2 g2 g6 q3 q4 q5 => at_read (w := W) (ga := ga) (d := p.d) (f := f) (m := m) (x1 := .pointer (some ⟨g2, 0, none⟩)) (x2 := .pointer (some ⟨g6, 0, none⟩)) (R := fun z w' => z = (qn3 D ((f : Int) + n)).2.2 ∧ qa4 w' base p A c (qn3 D ((f : Int) + n)).1 ∧ BlkB w' g6 152 (qn3 D ((f : Int) + n)).2.1 ∧ Keep (fun g => foot p A g ∨ g = g6) W w') q2 n omg omg hfm4 (read1_any (g2 := g2) (g6 := g6) q1 q2 q3 (Z := qa5) q4 qd2 q5 ((f : Int) + n))
    have hl := vd5 h.ok ((f : Int) + n); generalize qn3 D ((f : Int) + n) = RR at *; obtain ⟨D', S, z⟩ := RR; simp only at hl hin ⊢; have hsl : Hid ((S.map bv).length = 128) := by show _ = _; rw [List.length_map, hl]
    have hsm := hdd (qk1 (l := S)); unfold aggB BlkB at *; generalize S.map bv = SV at *; generalize qa5.map bv = Z at *; clear h ha hn hl; go_enter Tryz.func161, Tryz.ntmps161; go_wp2_with (first | ((go_at_call 219; (with_reducible refine (hin _ (((H.out.alloc _).alloc _).alloc _) (((HA.out.below ((Below.refl _ _).alloc nlr _)).below ((Below.refl _ _).alloc nlr _)).below ((Below.refl _ _).alloc nlr _)) w.heap.size (w.heap.size + 2) blq blq (fun e => by have := hl4.out _ e; omega)).mono ?_); rintro e w1 ⟨z9, rfl, hz9, h1, hx1, k1⟩); subst hz9; have hr1 := Blk.keep (g := w.heap.size + 1) (t := 152) (cs := Z) blq k1 (fun e => by rcases e with e | e; have := hl4.out _ e; omega; omega); have H1 := hdd h1; clear h1) | (refine qd7 rfl (x := .tmp 6) rfl rfl hx1 Tryz.underlying152 Hi.out hsl.out (xs := SV) (by rw [List.drop_zero, List.take_of_length_le (by rw [hsl.out]; omega)]) ?_) | (refine qb3 rfl (x := .tmp 4) (y := .tmp 12) rfl rfl rfl hr1 Hi.out hsl.out (by rw [hlz.out]; omega) hsm.out ?_; intro w2 hb2 hg2 hs2; rw [qd0 _ _ (hlz.out.trans hsl.out.symm)] at hb2) | fail "no arm"); refine bodyPost_ret (v := .tuple #[.agg SV.toArray, .int .i64 z9]) (qg7 Tryz.results161 _ rfl rfl hb2 Tryz.underlying152 Hi.out hsl.out) rfl ?_; refine ⟨rfl, H1.out.keep (F := (· = w.heap.size + 1)) (Keep.one hg2) (fun g hg e => by have := hl4.out _ hg; omega), ?_⟩; have k2 : Keep (fun g => foot p A g ∨ g = w.heap.size + 2 ∨ g = w.heap.size + 1) w w2 := ((((((Keep.refl _ w).alloc _).alloc _).alloc _).trans k1 (fun g _ e => by rcases e with e | e; exact .inl e; exact .inr (.inl e))).trans (G := (· = w.heap.size + 1)) (Keep.one hg2) (fun g _ e => .inr (.inr e))); exact k2.mono (fun g hg e => by rcases e with e | e | e; exact e; omega; omega)
theorem write1_any {g3 g5 : Nat} (h : qa4 w base p A c D) (ha : qc3 w ga p.d f m) (hbox : Blk w g3 40 [.pointer (some ⟨ga, 0, none⟩)]) {S : List UInt8} (hx : BlkB w g5 152 S) (hS : S.length = 128) (hnf : ¬ foot p A g5) (n : Int) (hw : D.waits.length < 1000000) (hbase : base ≤ w.heap.size) :
    Calls Tryz.prog 236 #[.int .i64 n, .pointer (some ⟨g3, 0, none⟩), .pointer (some ⟨g5, 0, none⟩)] w fun e w' => ∃ z, e = .returned (.int .i64 z) ∧ (z = (qm8 D n S).2 ∧ qe8 w base p A (qm8 D n S).1 w') := by
  have Hi := hdd (zero_of_info qf4).2; have hwr := fun w' (hb : Below w.heap.size w w') => write_any (h.below hb) n S hS hw (by have := hb.size; omega)
  have c0 : w.cell? ⟨g3, 0, none⟩ = some (.pointer (some ⟨ga, 0, none⟩)) := hbox.cell 0; have c1 : w.cell? ⟨ga, 0, none⟩ = some (.pointer (some ⟨p.d, 0, none⟩)) := Blk.cell ha 0; have hsl : Hid ((S.map bv).length = 128) := by show _ = _; rw [List.length_map, hS]
  have hxr := Blk.range (o := 0) (n := 128) (xs := S.map bv) hx (by rw [List.drop_zero, List.take_of_length_le (by rw [hsl.out]; omega)]); generalize (qm8 D n S).1 = D' at *; generalize (qm8 D n S).2 = z at *; unfold aggB at hwr; unfold BlkB at hx; generalize S.map bv = SV at *; have hnx : ∀ w1 w2, Below w.heap.size w w1 → qe8 w1 base p A D' w2 → qe8 w base p A D' w2 := fun w1 w2 hb ⟨A', c', h1, k, n⟩ => ⟨A', c', h1, (Keep.of_below hb).trans k (fun _ _ e => e), fun g e => by rcases n g e with q | q; exact .inl q; exact .inr (by have := hb.size; omega)⟩
  have HX := hdd hx; have HB := hdd hbox; have HA := hdd ha; have H := hdd h; clear h ha hbox hx hS; go_enter Tryz.func236, Tryz.ntmps236; go_wp2; refine wp_region_held_drew (S := fun w' => w'.cell? ⟨g3, 0, none⟩ = some (.pointer (some ⟨ga, 0, none⟩)) ∧ w'.cell? ⟨ga, 0, none⟩ = some (.pointer (some ⟨p.d, 0, none⟩)) ∧ w'.rangeAt g5 0 SV) (by kernel_rfl) ⟨c0, c1, hxr⟩ (fun hHeld => ?_); refine tkS 0 ?_ (hy := Or.inl ⟨by rfl, by (intro w hSw; (try dsimp only at hSw); obtain ⟨s1, s2, s3⟩ := hSw; go_simp; rfl)⟩); refine tkS 1 ?_; refine tkS 2 ?_; refine tkS 3 ?_ (hy := Or.inl ⟨by rfl, by (intro w hSw; (try dsimp only at hSw); obtain ⟨s1, s2, s3⟩ := hSw; go_simp; rfl)⟩); refine tkS 4 ?_; refine wpAnyH_take (i := 5) (v := _) rfl (by decide +kernel) (by decide +kernel) (by decide +kernel) (fun _ _ _ h => h) (yieldsIf_load_mid (by rfl) _ _ rfl _ _ rfl SV _ (fun _ h => h.2.2) Tryz.underlying152 rfl (by rw [hsl.out]; exact Hi.out)) (by assumption) ?_; refine nmz ?_; refine on1 6 (fun K hK => ?_); go_simp
  (go_at_call 237; (with_reducible refine (hwr _ gwn).mono ?_); rintro e w1 ⟨rfl, hN⟩)
  have hN2 := hnx _ _ gwn hN; have kk := (show Keep (foot p A) w w1 from (by obtain ⟨_, _, _, k, _⟩ := hN2; exact k)); have HB1 := HB.out.keep kk (fun e => by rcases H.out.foot_ty HB.out e with q | q | q | q | q <;> exact absurd q dcd); have HA1 := HA.out.spares H.out kk; have HX1 := HX.out.keep kk hnf; have d0 : w1.cell? ⟨g3, 0, none⟩ = some (.pointer (some ⟨ga, 0, none⟩)) := HB1.cell 0; have d1 : w1.cell? ⟨ga, 0, none⟩ = some (.pointer (some ⟨p.d, 0, none⟩)) := Blk.cell HA1 0; have d2 := Blk.range (o := 0) (n := 128) (xs := SV) HX1 (by rw [List.drop_zero, List.take_of_length_le (by rw [hsl.out]; omega)]); have HN2 := hdd hN2; clear hN2 hN HB1 HA1 HX1; refine hK.out _ _ (⟨d0, d1, d2⟩) (fun hHeld => ?_); clear hK K; refine nmz ?_; refine tkS 7 ?_; refine wpAnyH_done (by decide +kernel) ?_ _; go_wp2; go_ret; exact ⟨z, rfl, rfl, hnx _ _ (Below.refl _ _) HN2.out⟩
theorem va4 (h : qa4 w base p A c D) (ha : qc3 w ga p.d f m) (hfm : f + m ≤ D.many) (n : Int) (S : List UInt8) (hS : S.length = 128) (hw : D.waits.length < 1000000) (hbase : base ≤ w.heap.size) :
    Calls Tryz.prog 185 #[.pointer (some ⟨ga, 0, none⟩), .int .i64 n, aggB S] w fun e w' => e = .returned (.int .i64 (qb0 D f m n S).2) ∧ qe8 w base p A (qb0 D f m n S).1 w' := by
  have hfm4 : f + m ≤ 4096 := by have := h.ok.many1; omega
  have Hi := hdd (zero_of_info qf4).2; have hl4 := hdd (fun g hg => h.lt g hg); have hsl : Hid ((S.map bv).length = 128) := by show _ = _; rw [List.length_map, hS]
  have hnx : ∀ D' w1 w2, Below w.heap.size w w1 → qe8 w1 base p A D' w2 → qe8 w base p A D' w2 := fun D' w1 w2 hb ⟨A', c', h1, k, n⟩ => ⟨A', c', h1, (Keep.of_below hb).trans k (fun _ _ e => e), fun g e => by rcases n g e with q | q; exact .inl q; exact .inr (by have := hb.size; omega)⟩
  have H := hdd h; have HA := hdd ha; unfold qb0
  by_cases hn : n < 0 ∨ (m : Int) ≤ n
  · rw [if_pos hn]; simp only; have hout := fun o1 o2 => at_out (k := 236) (caps := #[.pointer (some ⟨w.heap.size, 0, none⟩), .pointer (some ⟨w.heap.size + 1, 0, none⟩)]) ((ha.below ((Below.refl _ _).alloc nlr o1)).below ((Below.refl _ _).alloc nlr o2)) n hn
    unfold aggB at *; generalize S.map bv = SV at *; clear h ha hn; go_enter Tryz.func185, Tryz.ntmps185; go_wp2_with (first | (go_at_call 219; (with_reducible refine (hout _ _).mono ?_); rintro e w1 ⟨rfl, rfl⟩) | fail "no arm"); go_ret; exact ⟨rfl, hnx _ _ _ gwn (qe8.same ((H.out.alloc _).alloc _) (Below.refl _ _))⟩
  · rw [if_neg hn]; have hin := fun W (q1 : qa4 W base p A c D) q2 g2 g6 q3 q4 q5 q6 => at_write (w := W) (ga := ga) (d := p.d) (f := f) (m := m) (x1 := .pointer (some ⟨g2, 0, none⟩)) (x2 := .pointer (some ⟨g6, 0, none⟩)) (R := fun z w' => z = (qm8 D ((f : Int) + n) S).2 ∧ qe8 W base p A (qm8 D ((f : Int) + n) S).1 w') q2 n omg omg hfm4 (write1_any (g3 := g2) (g5 := g6) q1 q2 q3 (S := S) q4 hS q5 ((f : Int) + n) hw q6)
    generalize qm8 D ((f : Int) + n) S = RR at *; obtain ⟨D', z⟩ := RR; simp only at hin ⊢; unfold aggB BlkB at *; generalize S.map bv = SV at *; clear h ha hn; go_enter Tryz.func185, Tryz.ntmps185; go_wp2_with (first | ((go_at_call 219; (with_reducible refine (hin _ ((H.out.alloc _).alloc _) ((HA.out.below ((Below.refl _ _).alloc nlr _)).below ((Below.refl _ _).alloc nlr _)) w.heap.size (w.heap.size + 1) blq blq (fun e => by have := hl4.out _ e; omega) szz).mono ?_); rintro e w1 ⟨z9, rfl, hz9, hN⟩)) | fail "no arm"); go_ret; subst hz9; exact ⟨rfl, hnx _ _ _ gwn hN⟩
end
end Go.Proofs.YtpmkpckldnnigaaGreat
