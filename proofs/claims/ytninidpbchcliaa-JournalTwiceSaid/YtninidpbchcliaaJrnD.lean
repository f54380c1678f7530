/- The journal's laws: made, the chapter's example. -/
import Derived.Test.YtninidpbchcliaaJrnC
import Derived.Test.YtninidpbchcliaaDiskO
import Derived.Test.YtninidpbchcliaaSame
namespace Go.Proofs.Ytninidpbchcliaa
open Go.RowKit
set_option linter.unusedVariables false
set_option linter.unusedSimpArgs false
section
variable {w w' : World} {base ga gj f m next : Nat} {kind : Int} {p : DiskP} {D : DiskV}
theorem JrnAt.alloc (h : JrnAt w gj ga kind next) (o : Obj) : JrnAt (w.alloc o) gj ga kind next := Blk.alloc h o
theorem AreaAt.alloc {d : Nat} (h : AreaAt w ga d f m) (o : Obj) : AreaAt (w.alloc o) ga d f m := Blk.alloc h o
theorem JrnAt.below (h : JrnAt w gj ga kind next) (hb : Below w.heap.size w w') : JrnAt w' gj ga kind next := Blk.below h hb h.lt
theorem DiskS.alloc (h : DiskS w base p D) (o : Obj) : DiskS (w.alloc o) base p D := h.below ((Below.refl _ _).alloc (Nat.le_refl _) o)
theorem s_anew (h : DiskS w base p D) (hs : base ≤ w.heap.size) (f m : Nat) (h1 : 1 ≤ m) (h2 : f + m ≤ D.many) :
    Calls Try.prog 39 #[.pointer (some ⟨p.d, 0, none⟩), .agg #[.int .i64 (f : Int), .int .i64 (m : Int)]] w fun e w' => ∃ ga, e = .returned (.tuple #[.pointer (some ⟨ga, 0, none⟩), .int .i64 0]) ∧ AreaAt w' ga p.d f m ∧ w.heap.size ≤ ga ∧ DiskS w' base p D ∧ Step mutD base p w w' := by
  obtain ⟨A, c, h⟩ := h
  exact (anew_ok h f m h1 h2).mono fun e w' ⟨ga, h1, h2, h3, h4⟩ => ⟨ga, h1, h2, h3, (h.below h4).s, Step.of_below h4 hs⟩
theorem jopen_ok (ha : AreaAt w ga p.d f m) (hm : 1 ≤ m) (hd : DiskS w base p D) (hs : base ≤ w.heap.size) (hfm : f + m ≤ D.many) (hwt : D.waits.length < 900000) {D' : DiskV} {next : Nat} (h : jOpenV D f m kind = (D', next, 0)) :
    Calls Try.prog 51 #[.pointer (some ⟨ga, 0, none⟩), .int .i64 kind] w fun e w' => ∃ gj, e = .returned (.tuple #[.pointer (some ⟨gj, 0, none⟩), .int .i64 0]) ∧ w.heap.size ≤ gj ∧ JrnAt w' gj ga kind next ∧ DiskS w' base p D' ∧ Step mutD base p w w' := by
  have := jopen_any (kind := kind) ha hm hd hs hfm hwt
  rw [h] at this
  exact this.mono fun e w' ⟨P, h1, _, h3, h4, h5⟩ => by
    obtain ⟨gj, e1, e2, e3⟩ := h3 rfl
    subst e1
    exact ⟨gj, h1, e2, e3, h4, h5⟩
end
def Made9 (w : World) (D : DiskV) (e : Ending) (w' : World) : Prop := ∃ p ga, e = .returned (.tuple #[.pointer (some ⟨p.d, 0, none⟩), .pointer (some ⟨ga, 0, none⟩)]) ∧ DiskS w' w.heap.size p D ∧ AreaAt w' ga p.d 1 8 ∧ Below w.heap.size w w'
theorem made9_ok (B : Option Addr) (n d : Nat) (img : List UInt8) (room : Int) (w : World) (hr : RB w B n img) (hnd : n ≤ d) (r0 : 0 ≤ room) (r1 : room ≤ 10) (hl : n ≤ 1280) (hu : (usedN img : Int) ≤ room) :
    Calls Try.prog 50 #[.slice B n d, .int .i64 room] w (Made9 w (loadD 10 room img (usedN img))) := by
  have hld : Calls Try.prog 31 #[.slice B n d, .int .i64 10, .int .i64 room] w (LdPost w (loadD 10 room img (usedN img))) := load_ok B n d img 10 room w hr hnd (by omega) (by omega) r0 r1 (by omega) hu
  have hmany : (loadD 10 room img (usedN img)).many = 10 := rfl
  generalize loadD 10 room img (usedN img) = D at *
  have hna : ∀ {w1 : World} {p : DiskP}, DiskS w1 w.heap.size p D → w.heap.size ≤ w1.heap.size → Calls Try.prog 39 #[.pointer (some ⟨p.d, 0, none⟩), .agg #[.int .i64 1, .int .i64 8]] w1 fun e w' => ∃ ga, e = .returned (.tuple #[.pointer (some ⟨ga, 0, none⟩), .int .i64 0]) ∧ AreaAt w' ga p.d 1 8 ∧ w1.heap.size ≤ ga ∧ DiskS w' w.heap.size p D ∧ Step mutD w.heap.size p w1 w' := fun h hs => s_anew h hs 1 8 (by omega) (by rw [hmany]; omega)
  go_enter Try.func50, Try.ntmps50
  go_wp2_with (first
    | ((go_at_call 31; (with_reducible refine (hld).mono ?_); rintro e w1 ⟨p, rfl, h1, b1⟩); have H1 := Lib.hid h1; have s1 := b1.size; clear h1)
    | ((go_at_call 39; (with_reducible refine (hna H1.out s1).mono ?_); rintro e w2 ⟨ga, rfl, ha2, hg2, h2, s2⟩); have H2 := Lib.hid h2; have A2 := Lib.hid ha2; clear h2 ha2)
    | fail "no arm")
  go_ret2
  exact ⟨p, ga, rfl, H2.out, A2.out, b1.trans s2.bel⟩
def D9a : DiskV := loadD 10 10 [] 0
def D9b : DiskV := (jOpenV D9a 1 8 3).1
def D9c : DiskV := (jAddV D9b 1 8 3 0 [7]).1
def D9d : DiskV := (jAddV D9c 1 8 3 1 []).1
def D9e : DiskV := (flushV D9d).1
def D9f : DiskV := (jOpenV D9e 1 8 3).1
theorem d9_facts : (jOpenV D9a 1 8 3).2 = (0, 0) ∧ (jAddV D9b 1 8 3 0 [7]).2 = (1, 0, 0) ∧ (jAddV D9c 1 8 3 1 []).2 = (2, 1, 0) ∧ (flushV D9d).2 = 0 ∧ (jOpenV D9e 1 8 3).2 = (2, 0) ∧ (jGetV D9f 1 8 3 2 0).2 = ([7], 0) := by decide +kernel
theorem d9_many : D9a.many = 10 ∧ D9b.many = 10 ∧ D9c.many = 10 ∧ D9d.many = 10 ∧ D9e.many = 10 ∧ D9f.many = 10 := by decide +kernel
theorem d9_waits : D9a.waits.length = 0 ∧ D9b.waits.length = 0 ∧ D9c.waits.length = 1 ∧ D9e.waits.length = 0 := by decide +kernel
set_option maxRecDepth 100000 in
set_option maxHeartbeats 8000000 in
theorem awake9 (w : World) : Calls Try.prog 48 #[] w fun e w' => e = .returned (.bool true) ∧ Below w.heap.size w w' := by
  obtain ⟨f1, f2, f3, f4, f5, f6⟩ := d9_facts
  obtain ⟨m1, m2, m3, m4, m5, m6⟩ := d9_many
  obtain ⟨w1, w2, w3, w5⟩ := d9_waits
  have hmd : Calls Try.prog 50 #[.slice none 0 0, .int .i64 10] w (Made9 w D9a) := made9_ok none 0 0 [] 10 w ⟨rfl, Row.nil _ _ _⟩ (by omega) (by omega) (by omega) (by omega) (by show ((0 : Nat) : Int) ≤ 10; omega)
  have c1 : ∀ {w : World} {base ga : Nat} {p : DiskP}, AreaAt w ga p.d 1 8 → DiskS w base p D9a → base ≤ w.heap.size → Calls Try.prog 51 #[.pointer (some ⟨ga, 0, none⟩), .int .i64 3] w fun e w' => ∃ gj, e = .returned (.tuple #[.pointer (some ⟨gj, 0, none⟩), .int .i64 0]) ∧ w.heap.size ≤ gj ∧ JrnAt w' gj ga 3 0 ∧ DiskS w' base p D9b ∧ Step mutD base p w w' :=
    fun ha hd hs => jopen_ok (kind := 3) ha (by omega) hd hs (by rw [m1]; omega) (by rw [w1]; omega) (D' := D9b) (next := 0) (by show ((jOpenV D9a 1 8 3).1, (jOpenV D9a 1 8 3).2) = _; rw [f1]; rfl)
  have c2 : ∀ {w : World} {base ga gj : Nat} {p : DiskP} {B : Option Addr} {d : Nat}, JrnAt w gj ga 3 0 → AreaAt w ga p.d 1 8 → DiskS w base p D9b → base ≤ w.heap.size → base ≤ gj → RB w B 1 [7] → Calls Try.prog 52 #[.pointer (some ⟨gj, 0, none⟩), .slice B 1 d] w fun e w' => e = .returned (.tuple #[.int .i64 0, .int .i64 0]) ∧ DiskS w' base p D9c ∧ JrnAt w' gj ga 3 1 ∧ Step mutJ base p w w' :=
    fun {_ _ _ _ _ B d} hj ha hd hs hg hl => by
      have := jadd_any hj hd hs hg ha (by rw [m2]; omega) (by omega) (by omega) (by rw [w2]; omega) B 1 d [7] hl (by unfold maxLen; omega)
      rw [show (jAddV D9b 1 8 3 0 [7]) = (D9c, 1, 0, 0) from by show ((jAddV D9b 1 8 3 0 [7]).1, (jAddV D9b 1 8 3 0 [7]).2) = _; rw [f2]; rfl] at this
      exact this
  have c3 : ∀ {w : World} {base ga gj : Nat} {p : DiskP}, JrnAt w gj ga 3 1 → AreaAt w ga p.d 1 8 → DiskS w base p D9c → base ≤ w.heap.size → base ≤ gj → Calls Try.prog 52 #[.pointer (some ⟨gj, 0, none⟩), .slice none 0 0] w fun e w' => e = .returned (.tuple #[.int .i64 1, .int .i64 0]) ∧ DiskS w' base p D9d ∧ JrnAt w' gj ga 3 2 ∧ Step mutJ base p w w' :=
    fun hj ha hd hs hg => by
      have := jadd_any hj hd hs hg ha (by rw [m3]; omega) (by omega) (by omega) (by rw [w3]; omega) none 0 0 [] ⟨rfl, Row.nil _ _ _⟩ (by unfold maxLen; omega)
      rw [show (jAddV D9c 1 8 3 1 []) = (D9d, 2, 1, 0) from by show ((jAddV D9c 1 8 3 1 []).1, (jAddV D9c 1 8 3 1 []).2) = _; rw [f3]; rfl] at this
      exact this
  have c4 : ∀ {w : World} {base ga gj : Nat} {p : DiskP}, JrnAt w gj ga 3 2 → AreaAt w ga p.d 1 8 → DiskS w base p D9d → base ≤ w.heap.size → Calls Try.prog 53 #[.pointer (some ⟨gj, 0, none⟩)] w fun e w' => e = .returned (.int .i64 0) ∧ DiskS w' base p D9e ∧ Step mutD base p w w' :=
    fun hj ha hd hs => by have := jflush_any hj hd hs ha; rw [f4] at this; exact this
  have c5 : ∀ {w : World} {base ga : Nat} {p : DiskP}, AreaAt w ga p.d 1 8 → DiskS w base p D9e → base ≤ w.heap.size → Calls Try.prog 51 #[.pointer (some ⟨ga, 0, none⟩), .int .i64 3] w fun e w' => ∃ gj, e = .returned (.tuple #[.pointer (some ⟨gj, 0, none⟩), .int .i64 0]) ∧ w.heap.size ≤ gj ∧ JrnAt w' gj ga 3 2 ∧ DiskS w' base p D9f ∧ Step mutD base p w w' :=
    fun ha hd hs => jopen_ok (kind := 3) ha (by omega) hd hs (by rw [m5]; omega) (by rw [w5]; omega) (D' := D9f) (next := 2) (by show ((jOpenV D9e 1 8 3).1, (jOpenV D9e 1 8 3).2) = _; rw [f5]; rfl)
  have c6 : ∀ {w : World} {base ga gj : Nat} {p : DiskP}, JrnAt w gj ga 3 2 → AreaAt w ga p.d 1 8 → DiskS w base p D9f → base ≤ w.heap.size → Calls Try.prog 91 #[.pointer (some ⟨gj, 0, none⟩), .int .i64 0] w fun e w' => ∃ B k d, e = .returned (.tuple #[.slice B k d, .int .i64 0]) ∧ OB w' w.heap.size 5 B k d [7] ∧ DiskS w' base p (jGetV D9f 1 8 3 2 0).1 ∧ Step mutD base p w w' :=
    fun hj ha hd hs => by have := jget_any hj hd hs ha (by rw [m6]; omega) (by omega) 0; rw [f6] at this; exact this
  have c7 : ∀ {w : World} {ga gj : Nat}, JrnAt w gj ga 3 2 → Calls Try.prog 56 #[.pointer (some ⟨gj, 0, none⟩)] w fun e w' => e = .returned (.int .i64 2) ∧ w = w' := fun hj => jlen_any hj
  have c8 : ∀ {w : World} {ga gj : Nat} {p : DiskP}, JrnAt w gj ga 3 2 → AreaAt w ga p.d 1 8 → Calls Try.prog 57 #[.pointer (some ⟨gj, 0, none⟩)] w fun e w' => e = .returned (.int .i64 6) ∧ ∃ q, w' = w.drewN q := fun hj ha => jroom_any hj ha (by omega) (by omega)
  have c9 : ∀ {W : World} {L : Option Addr} {d g : Nat}, RB W L 1 [7] → g = W.heap.size → Calls Try.prog 24 #[.slice L 1 d, .slice (some ⟨g, 0, none⟩) 1 1] (W.alloc (.cells #[.int .u8 7] 5)) fun e w' => e = .returned (.bool true) ∧ ∃ q, w' = (W.alloc (.cells #[.int .u8 7] 5)).drewN q :=
    fun {W L d g} hl hg => by
      subst hg
      exact (same_any L (some ⟨W.heap.size, 0, none⟩) 1 1 d 1 [7] [7] _ (hl.below (B := W.heap.size) ((Below.refl _ _).alloc (Nat.le_refl _) _) (Nat.le_refl _)) (RB.of_block (l := [7]) (heap_top _ _ rfl) rfl) (by unfold maxLen; omega)).mono fun e w' ⟨h1, h2⟩ => ⟨by rw [h1, decide_eq_true (rfl : ([7] : List UInt8) = [7])], h2⟩
  generalize (jGetV D9f 1 8 3 2 0).1 = D9g at *
  generalize D9f = d6 at *
  generalize D9e = d5 at *
  generalize D9d = d4 at *
  generalize D9c = d3 at *
  generalize D9b = d2 at *
  generalize D9a = d1 at *
  clear f1 f2 f3 f4 f5 f6 m1 m2 m3 m4 m5 m6 w1 w2 w3 w5
  go_enter Try.func48, Try.ntmps48
  go_wp2_with (first
    | ((go_at_call 50; (with_reducible refine (hmd).mono ?_); rintro e w1 ⟨p, ga, rfl, h1, a1, b1⟩); have H1 := Lib.hid h1; have A1 := Lib.hid a1; have s1 := b1.size; clear h1 a1)
    | ((go_at_call 51; (with_reducible refine (c1 A1.out H1.out s1).mono ?_); rintro e w2 ⟨gj, rfl, g2, j2, h2, st2⟩); have A2 := Lib.hid (H1.out.area A1.out st2.tch (by decide)); have H2 := Lib.hid h2; have J2 := Lib.hid j2; have S2 := Lib.hid st2; have s2 := st2.size; clear h2 j2 st2)
    | ((go_at_call 52; (with_reducible refine (c2 (J2.out.alloc _) (A2.out.alloc _) (H2.out.alloc _) (by first | omega | (simp; done) | (simp; omega)) (by omega) (RB.of_block (l := [7]) (heap_top _ _ rfl) rfl)).mono ?_); rintro e w3 ⟨rfl, h3, j3, st3⟩); have A3 := Lib.hid ((H2.out.alloc _).area (A2.out.alloc _) st3.tch (by decide)); have B3 := Lib.hid (((b1.trans S2.out.bel).alloc (by omega) _).trans st3.bel); have H3 := Lib.hid h3; have J3 := Lib.hid j3; have s3 := B3.out.size; clear h3 j3 st3)
    | ((go_at_call 52; (with_reducible refine (c3 J3.out A3.out H3.out s3 (by omega)).mono ?_); rintro e w4 ⟨rfl, h4, j4, st4⟩); have A4 := Lib.hid (H3.out.area A3.out st4.tch (by decide)); have B4 := Lib.hid (B3.out.trans st4.bel); have H4 := Lib.hid h4; have J4 := Lib.hid j4; have s4 := B4.out.size; clear h4 j4 st4)
    | ((go_at_call 53; (with_reducible refine (c4 J4.out A4.out H4.out s4).mono ?_); rintro e w5 ⟨rfl, h5, st5⟩); have A5 := Lib.hid (H4.out.area A4.out st5.tch (by decide)); have B5 := Lib.hid (B4.out.trans st5.bel); have H5 := Lib.hid h5; have s5 := B5.out.size; clear h5 st5)
    | ((go_at_call 51; (with_reducible refine (c5 A5.out H5.out s5).mono ?_); rintro e w6 ⟨gk, rfl, g6, j6, h6, st6⟩); have A6 := Lib.hid (H5.out.area A5.out st6.tch (by decide)); have B6 := Lib.hid (B5.out.trans st6.bel); have H6 := Lib.hid h6; have J6 := Lib.hid j6; have s6 := B6.out.size; clear h6 j6 st6)
    | ((go_at_call 91; (with_reducible refine (c6 J6.out A6.out H6.out s6).mono ?_); rintro e w7 ⟨L, kk, dd, rfl, o7, h7, st7⟩); have A7 := Lib.hid (H6.out.area A6.out st7.tch (by decide)); have J7 := Lib.hid (show JrnAt w7 gk ga 3 2 from H6.out.blk J6.out st7.tch (by decide)); have B7 := Lib.hid (B6.out.trans st7.bel); have s7 := B7.out.size; have hk7 : kk = 1 := o7.1.symm; have r7 := o7.rd.rb; rw [hk7] at r7; have R7 := Lib.hid r7; clear r7; clear h7 st7 o7)
    | (go_at_call 56; (with_reducible refine (c7 J7.out).mono ?_); rintro e w8 ⟨rfl, rfl⟩)
    | ((go_at_call 57; (with_reducible refine (c8 J7.out A7.out).mono ?_); rintro e w9 ⟨rfl, q9, rfl⟩); have R9 := Lib.hid (show RB (w7.drewN q9) L 1 [7] from R7.out); have hq9 : Hid (w7.heap.size = (w7.drewN q9).heap.size) := rfl)
    | ((go_at_call 24; (with_reducible refine (c9 R9.out hq9.out).mono ?_); rintro e w10 ⟨rfl, q10, rfl⟩))
    | fail "no arm")
  go_ret
  exact ⟨rfl, below_drewN ((below_drewN B7.out q9).alloc s7 _) q10⟩
end Go.Proofs.Ytninidpbchcliaa
