/- The journal's laws: made, the chapter's example. The journal's laws: lists of slices of bytes; begins, loads. -/
import Derived.Test.YtninidpbchcliaaJrnC
import Derived.Test.YtninidpbchcliaaDiskO
import Derived.Test.YtninidpbchcliaaMem
namespace Go.Proofs.Ytninidpbchcliaa
open Go.RowKit
set_option linter.unusedVariables false
set_option linter.unusedSimpArgs false
section
variable {w w' : World} {base ga gj f m next : Nat} {kind : Int} {p : DiskP} {D : DiskV}
theorem JrnAt.alloc (h : JrnAt w gj ga kind next) (o : Obj) : JrnAt (w.alloc o) gj ga kind next := Blk.alloc h o
theorem AreaAt.alloc {d : Nat} (h : AreaAt w ga d f m) (o : Obj) : AreaAt (w.alloc o) ga d f m := Blk.alloc h o
theorem JrnAt.below (h : JrnAt w gj ga kind next) (hb : Below w.heap.size w w') : JrnAt w' gj ga kind next := Blk.below h hb h.lt
theorem DiskS.alloc (h : DiskS w base p D) (o : Obj) : DiskS (w.alloc o) base p D := h.below ((Below.refl _ _).alloc (Nat.le_refl _) o)
theorem s_anew (h : DiskS w base p D) (hs : base ≤ w.heap.size) (f m : Nat) (h1 : 1 ≤ m) (h2 : f + m ≤ D.many) :
    Calls Try.prog 39 #[.pointer (some ⟨p.d, 0, none⟩), .agg #[.int .i64 (f : Int), .int .i64 (m : Int)]] w fun e w' => ∃ ga, e = .returned (.tuple #[.pointer (some ⟨ga, 0, none⟩), .int .i64 0]) ∧ AreaAt w' ga p.d f m ∧ w.heap.size ≤ ga ∧ DiskS w' base p D ∧ Step mutD base p w w' := by
  obtain ⟨A, c, h⟩ := h
  exact (anew_ok h f m h1 h2).mono fun e w' ⟨ga, h1, h2, h3, h4⟩ => ⟨ga, h1, h2, h3, (h.below h4).s, Step.of_below h4 hs⟩
theorem jopen_ok (ha : AreaAt w ga p.d f m) (hm : 1 ≤ m) (hd : DiskS w base p D) (hs : base ≤ w.heap.size) (hfm : f + m ≤ D.many) (hwt : D.waits.length < 900000) {D' : DiskV} {next : Nat} (h : jOpenV D f m kind = (D', next, 0)) :
    Calls Try.prog 51 #[.pointer (some ⟨ga, 0, none⟩), .int .i64 kind] w fun e w' => ∃ gj, e = .returned (.tuple #[.pointer (some ⟨gj, 0, none⟩), .int .i64 0]) ∧ w.heap.size ≤ gj ∧ JrnAt w' gj ga kind next ∧ DiskS w' base p D' ∧ Step mutD base p w w' := by
  have := jopen_any (kind := kind) ha hm hd hs hfm hwt
  rw [h] at this
  exact this.mono fun e w' ⟨P, h1, _, h3, h4, h5⟩ => by
    obtain ⟨gj, e1, e2, e3⟩ := h3 rfl
    subst e1
    exact ⟨gj, h1, e2, e3, h4, h5⟩
end
def Made9 (w : World) (D : DiskV) (e : Ending) (w' : World) : Prop := ∃ p ga, e = .returned (.tuple #[.pointer (some ⟨p.d, 0, none⟩), .pointer (some ⟨ga, 0, none⟩)]) ∧ DiskS w' w.heap.size p D ∧ AreaAt w' ga p.d 1 8 ∧ Below w.heap.size w w'
theorem made9_ok (B : Option Addr) (n d : Nat) (img : List UInt8) (room : Int) (w : World) (hr : RB w B n img) (hnd : n ≤ d) (r0 : 0 ≤ room) (r1 : room ≤ 10) (hl : n ≤ 1280) (hu : (usedN img : Int) ≤ room) :
    Calls Try.prog 50 #[.slice B n d, .int .i64 room] w (Made9 w (loadD 10 room img (usedN img))) := by
  have hld : Calls Try.prog 31 #[.slice B n d, .int .i64 10, .int .i64 room] w (LdPost w (loadD 10 room img (usedN img))) := load_ok B n d img 10 room w hr hnd (by omega) (by omega) r0 r1 (by omega) hu
  have hmany : (loadD 10 room img (usedN img)).many = 10 := rfl
  generalize loadD 10 room img (usedN img) = D at *
  have hna : ∀ {w1 : World} {p : DiskP}, DiskS w1 w.heap.size p D → w.heap.size ≤ w1.heap.size → Calls Try.prog 39 #[.pointer (some ⟨p.d, 0, none⟩), .agg #[.int .i64 1, .int .i64 8]] w1 fun e w' => ∃ ga, e = .returned (.tuple #[.pointer (some ⟨ga, 0, none⟩), .int .i64 0]) ∧ AreaAt w' ga p.d 1 8 ∧ w1.heap.size ≤ ga ∧ DiskS w' w.heap.size p D ∧ Step mutD w.heap.size p w1 w' := fun h hs => s_anew h hs 1 8 (by omega) (by rw [hmany]; omega)
  go_enter Try.func50, Try.ntmps50
  go_wp2_with (first
    | ((go_at_call 31; (with_reducible refine (hld).mono ?_); rintro e w1 ⟨p, rfl, h1, b1⟩); have H1 := Lib.hid h1; have s1 := b1.size; clear h1)
    | ((go_at_call 39; (with_reducible refine (hna H1.out s1).mono ?_); rintro e w2 ⟨ga, rfl, ha2, hg2, h2, s2⟩); have H2 := Lib.hid h2; have A2 := Lib.hid ha2; clear h2 ha2)
    | fail "no arm")
  go_ret2
  exact ⟨p, ga, rfl, H2.out, A2.out, b1.trans s2.bel⟩
def D9a : DiskV := loadD 10 10 [] 0
def D9b : DiskV := (jOpenV D9a 1 8 3).1
def D9c : DiskV := (jAddV D9b 1 8 3 0 [7]).1
def D9d : DiskV := (jAddV D9c 1 8 3 1 []).1
def D9e : DiskV := (flushV D9d).1
def D9f : DiskV := (jOpenV D9e 1 8 3).1
theorem d9_facts : (jOpenV D9a 1 8 3).2 = (0, 0) ∧ (jAddV D9b 1 8 3 0 [7]).2 = (1, 0, 0) ∧ (jAddV D9c 1 8 3 1 []).2 = (2, 1, 0) ∧ (flushV D9d).2 = 0 ∧ (jOpenV D9e 1 8 3).2 = (2, 0) ∧ (jGetV D9f 1 8 3 2 0).2 = ([7], 0) := by decide +kernel
theorem d9_many : D9a.many = 10 ∧ D9b.many = 10 ∧ D9c.many = 10 ∧ D9d.many = 10 ∧ D9e.many = 10 ∧ D9f.many = 10 := by decide +kernel
theorem d9_waits : D9a.waits.length = 0 ∧ D9b.waits.length = 0 ∧ D9c.waits.length = 1 ∧ D9e.waits.length = 0 := by decide +kernel
set_option maxRecDepth 100000 in
set_option maxHeartbeats 8000000 in
theorem awake9 (w : World) : Calls Try.prog 48 #[] w fun e w' => e = .returned (.bool true) ∧ Below w.heap.size w w' := by
  obtain ⟨f1, f2, f3, f4, f5, f6⟩ := d9_facts
  obtain ⟨m1, m2, m3, m4, m5, m6⟩ := d9_many
  obtain ⟨w1, w2, w3, w5⟩ := d9_waits
  have hmd : Calls Try.prog 50 #[.slice none 0 0, .int .i64 10] w (Made9 w D9a) := made9_ok none 0 0 [] 10 w ⟨rfl, Row.nil _ _ _⟩ (by omega) (by omega) (by omega) (by omega) (by show ((0 : Nat) : Int) ≤ 10; omega)
  have c1 : ∀ {w : World} {base ga : Nat} {p : DiskP}, AreaAt w ga p.d 1 8 → DiskS w base p D9a → base ≤ w.heap.size → Calls Try.prog 51 #[.pointer (some ⟨ga, 0, none⟩), .int .i64 3] w fun e w' => ∃ gj, e = .returned (.tuple #[.pointer (some ⟨gj, 0, none⟩), .int .i64 0]) ∧ w.heap.size ≤ gj ∧ JrnAt w' gj ga 3 0 ∧ DiskS w' base p D9b ∧ Step mutD base p w w' :=
    fun ha hd hs => jopen_ok (kind := 3) ha (by omega) hd hs (by rw [m1]; omega) (by rw [w1]; omega) (D' := D9b) (next := 0) (by show ((jOpenV D9a 1 8 3).1, (jOpenV D9a 1 8 3).2) = _; rw [f1]; rfl)
  have c2 : ∀ {w : World} {base ga gj : Nat} {p : DiskP} {B : Option Addr} {d : Nat}, JrnAt w gj ga 3 0 → AreaAt w ga p.d 1 8 → DiskS w base p D9b → base ≤ w.heap.size → base ≤ gj → RB w B 1 [7] → Calls Try.prog 52 #[.pointer (some ⟨gj, 0, none⟩), .slice B 1 d] w fun e w' => e = .returned (.tuple #[.int .i64 0, .int .i64 0]) ∧ DiskS w' base p D9c ∧ JrnAt w' gj ga 3 1 ∧ Step mutJ base p w w' :=
    fun {_ _ _ _ _ B d} hj ha hd hs hg hl => by
      have := jadd_any hj hd hs hg ha (by rw [m2]; omega) (by omega) (by omega) (by rw [w2]; omega) B 1 d [7] hl (by unfold maxLen; omega)
      rw [show (jAddV D9b 1 8 3 0 [7]) = (D9c, 1, 0, 0) from by show ((jAddV D9b 1 8 3 0 [7]).1, (jAddV D9b 1 8 3 0 [7]).2) = _; rw [f2]; rfl] at this
      exact this
  have c3 : ∀ {w : World} {base ga gj : Nat} {p : DiskP}, JrnAt w gj ga 3 1 → AreaAt w ga p.d 1 8 → DiskS w base p D9c → base ≤ w.heap.size → base ≤ gj → Calls Try.prog 52 #[.pointer (some ⟨gj, 0, none⟩), .slice none 0 0] w fun e w' => e = .returned (.tuple #[.int .i64 1, .int .i64 0]) ∧ DiskS w' base p D9d ∧ JrnAt w' gj ga 3 2 ∧ Step mutJ base p w w' :=
    fun hj ha hd hs hg => by
      have := jadd_any hj hd hs hg ha (by rw [m3]; omega) (by omega) (by omega) (by rw [w3]; omega) none 0 0 [] ⟨rfl, Row.nil _ _ _⟩ (by unfold maxLen; omega)
      rw [show (jAddV D9c 1 8 3 1 []) = (D9d, 2, 1, 0) from by show ((jAddV D9c 1 8 3 1 []).1, (jAddV D9c 1 8 3 1 []).2) = _; rw [f3]; rfl] at this
      exact this
  have c4 : ∀ {w : World} {base ga gj : Nat} {p : DiskP}, JrnAt w gj ga 3 2 → AreaAt w ga p.d 1 8 → DiskS w base p D9d → base ≤ w.heap.size → Calls Try.prog 53 #[.pointer (some ⟨gj, 0, none⟩)] w fun e w' => e = .returned (.int .i64 0) ∧ DiskS w' base p D9e ∧ Step mutD base p w w' :=
    fun hj ha hd hs => by have := jflush_any hj hd hs ha; rw [f4] at this; exact this
  have c5 : ∀ {w : World} {base ga : Nat} {p : DiskP}, AreaAt w ga p.d 1 8 → DiskS w base p D9e → base ≤ w.heap.size → Calls Try.prog 51 #[.pointer (some ⟨ga, 0, none⟩), .int .i64 3] w fun e w' => ∃ gj, e = .returned (.tuple #[.pointer (some ⟨gj, 0, none⟩), .int .i64 0]) ∧ w.heap.size ≤ gj ∧ JrnAt w' gj ga 3 2 ∧ DiskS w' base p D9f ∧ Step mutD base p w w' :=
    fun ha hd hs => jopen_ok (kind := 3) ha (by omega) hd hs (by rw [m5]; omega) (by rw [w5]; omega) (D' := D9f) (next := 2) (by show ((jOpenV D9e 1 8 3).1, (jOpenV D9e 1 8 3).2) = _; rw [f5]; rfl)
  have c6 : ∀ {w : World} {base ga gj : Nat} {p : DiskP}, JrnAt w gj ga 3 2 → AreaAt w ga p.d 1 8 → DiskS w base p D9f → base ≤ w.heap.size → Calls Try.prog 91 #[.pointer (some ⟨gj, 0, none⟩), .int .i64 0] w fun e w' => ∃ B k d, e = .returned (.tuple #[.slice B k d, .int .i64 0]) ∧ OB w' w.heap.size 5 B k d [7] ∧ DiskS w' base p (jGetV D9f 1 8 3 2 0).1 ∧ Step mutD base p w w' :=
    fun hj ha hd hs => by have := jget_any hj hd hs ha (by rw [m6]; omega) (by omega) 0; rw [f6] at this; exact this
  have c7 : ∀ {w : World} {ga gj : Nat}, JrnAt w gj ga 3 2 → Calls Try.prog 56 #[.pointer (some ⟨gj, 0, none⟩)] w fun e w' => e = .returned (.int .i64 2) ∧ w = w' := fun hj => jlen_any hj
  have c8 : ∀ {w : World} {ga gj : Nat} {p : DiskP}, JrnAt w gj ga 3 2 → AreaAt w ga p.d 1 8 → Calls Try.prog 57 #[.pointer (some ⟨gj, 0, none⟩)] w fun e w' => e = .returned (.int .i64 6) ∧ ∃ q, w' = w.drewN q := fun hj ha => jroom_any hj ha (by omega) (by omega)
  have c9 : ∀ {W : World} {L : Option Addr} {d g : Nat}, RB W L 1 [7] → g = W.heap.size → Calls Try.prog 24 #[.slice L 1 d, .slice (some ⟨g, 0, none⟩) 1 1] (W.alloc (.cells #[.int .u8 7] 5)) fun e w' => e = .returned (.bool true) ∧ ∃ q, w' = (W.alloc (.cells #[.int .u8 7] 5)).drewN q :=
    fun {W L d g} hl hg => by
      subst hg
      exact (same_any L (some ⟨W.heap.size, 0, none⟩) 1 1 d 1 [7] [7] _ (hl.below (B := W.heap.size) ((Below.refl _ _).alloc (Nat.le_refl _) _) (Nat.le_refl _)) (RB.of_block (l := [7]) (heap_top _ _ rfl) rfl) (by unfold maxLen; omega)).mono fun e w' ⟨h1, h2⟩ => ⟨by rw [h1, decide_eq_true (rfl : ([7] : List UInt8) = [7])], h2⟩
  generalize (jGetV D9f 1 8 3 2 0).1 = D9g at *
  generalize D9f = d6 at *
  generalize D9e = d5 at *
  generalize D9d = d4 at *
  generalize D9c = d3 at *
  generalize D9b = d2 at *
  generalize D9a = d1 at *
  clear f1 f2 f3 f4 f5 f6 m1 m2 m3 m4 m5 m6 w1 w2 w3 w5
  go_enter Try.func48, Try.ntmps48
  go_wp2_with (first
    | ((go_at_call 50; (with_reducible refine (hmd).mono ?_); rintro e w1 ⟨p, ga, rfl, h1, a1, b1⟩); have H1 := Lib.hid h1; have A1 := Lib.hid a1; have s1 := b1.size; clear h1 a1)
    | ((go_at_call 51; (with_reducible refine (c1 A1.out H1.out s1).mono ?_); rintro e w2 ⟨gj, rfl, g2, j2, h2, st2⟩); have A2 := Lib.hid (H1.out.area A1.out st2.tch (by decide)); have H2 := Lib.hid h2; have J2 := Lib.hid j2; have S2 := Lib.hid st2; have s2 := st2.size; clear h2 j2 st2)
    | ((go_at_call 52; (with_reducible refine (c2 (J2.out.alloc _) (A2.out.alloc _) (H2.out.alloc _) (by first | omega | (simp; done) | (simp; omega)) (by omega) (RB.of_block (l := [7]) (heap_top _ _ rfl) rfl)).mono ?_); rintro e w3 ⟨rfl, h3, j3, st3⟩); have A3 := Lib.hid ((H2.out.alloc _).area (A2.out.alloc _) st3.tch (by decide)); have B3 := Lib.hid (((b1.trans S2.out.bel).alloc (by omega) _).trans st3.bel); have H3 := Lib.hid h3; have J3 := Lib.hid j3; have s3 := B3.out.size; clear h3 j3 st3)
    | ((go_at_call 52; (with_reducible refine (c3 J3.out A3.out H3.out s3 (by omega)).mono ?_); rintro e w4 ⟨rfl, h4, j4, st4⟩); have A4 := Lib.hid (H3.out.area A3.out st4.tch (by decide)); have B4 := Lib.hid (B3.out.trans st4.bel); have H4 := Lib.hid h4; have J4 := Lib.hid j4; have s4 := B4.out.size; clear h4 j4 st4)
    | ((go_at_call 53; (with_reducible refine (c4 J4.out A4.out H4.out s4).mono ?_); rintro e w5 ⟨rfl, h5, st5⟩); have A5 := Lib.hid (H4.out.area A4.out st5.tch (by decide)); have B5 := Lib.hid (B4.out.trans st5.bel); have H5 := Lib.hid h5; have s5 := B5.out.size; clear h5 st5)
    | ((go_at_call 51; (with_reducible refine (c5 A5.out H5.out s5).mono ?_); rintro e w6 ⟨gk, rfl, g6, j6, h6, st6⟩); have A6 := Lib.hid (H5.out.area A5.out st6.tch (by decide)); have B6 := Lib.hid (B5.out.trans st6.bel); have H6 := Lib.hid h6; have J6 := Lib.hid j6; have s6 := B6.out.size; clear h6 j6 st6)
    | ((go_at_call 91; (with_reducible refine (c6 J6.out A6.out H6.out s6).mono ?_); rintro e w7 ⟨L, kk, dd, rfl, o7, h7, st7⟩); have A7 := Lib.hid (H6.out.area A6.out st7.tch (by decide)); have J7 := Lib.hid (show JrnAt w7 gk ga 3 2 from H6.out.blk J6.out st7.tch (by decide)); have B7 := Lib.hid (B6.out.trans st7.bel); have s7 := B7.out.size; have hk7 : kk = 1 := o7.1.symm; have r7 := o7.rd.rb; rw [hk7] at r7; have R7 := Lib.hid r7; clear r7; clear h7 st7 o7)
    | (go_at_call 56; (with_reducible refine (c7 J7.out).mono ?_); rintro e w8 ⟨rfl, rfl⟩)
    | ((go_at_call 57; (with_reducible refine (c8 J7.out A7.out).mono ?_); rintro e w9 ⟨rfl, q9, rfl⟩); have R9 := Lib.hid (show RB (w7.drewN q9) L 1 [7] from R7.out); have hq9 : Hid (w7.heap.size = (w7.drewN q9).heap.size) := rfl)
    | ((go_at_call 24; (with_reducible refine (c9 R9.out hq9.out).mono ?_); rintro e w10 ⟨rfl, q10, rfl⟩))
    | fail "no arm")
  go_ret
  exact ⟨rfl, below_drewN ((below_drewN B7.out q9).alloc s7 _) q10⟩
end Go.Proofs.Ytninidpbchcliaa
namespace Go.Proofs.Ytninidpbchcliaa
open Go.RowKit
set_option linter.unusedVariables false
set_option linter.unusedSimpArgs false
structure SlV where
  a : Option Addr
  n : Nat
  c : Nat
def slV (h : SlV) : Value := .slice h.a h.n h.c
theorem slV_one (h : SlV) : (slV h).oneCell' = true := rfl
theorem elemHdr : ElemOf Try.prog 61 23 (.slice none 0 0) 1 24 := ElemOf.mk' Try.underlying61 (by kernel_rfl) rfl (by decide)
theorem hdr_rd (w : World) (h : SlV) : Rd slV (w.alloc (.cells #[.slice h.a h.n h.c] 23)) (some ⟨w.heap.size, 0, none⟩) 1 [h] := Rd.of_block (l := [h]) (heap_top _ _ rfl) rfl
/-- A slice of slices of bytes that reads as a list of lists. -/
def LsRd (w : World) (B : Option Addr) (N : Nat) (Ls : List (List UInt8)) : Prop := Ls.length = N ∧ ∃ hs : List SlV, Rd slV w B N hs ∧ ∀ (k : Nat) (h : SlV) (L : List UInt8), hs[k]? = some h → Ls[k]? = some L → RB w h.a h.n L ∧ h.n ≤ maxLen
def LsOw (w : World) (b : Nat) (B : Option Addr) (N c : Nat) (Ls : List (List UInt8)) : Prop := Ls.length = N ∧ ∃ hs : List SlV, Ow slV w b 23 B N c hs ∧ ∀ (k : Nat) (h : SlV) (L : List UInt8), hs[k]? = some h → Ls[k]? = some L → ∃ b', OB w b' 5 h.a h.n h.c L
section
variable {w w' : World} {b N c n : Nat} {B : Option Addr} {Ls : List (List UInt8)}
theorem LsOw.rd (h : LsOw w b B N c Ls) : LsRd w B N Ls := by
  obtain ⟨hl, hs, ho, hk⟩ := h
  refine ⟨hl, hs, ho.rd, fun k x L h1 h2 => ?_⟩
  obtain ⟨b', hb⟩ := hk k x L h1 h2
  have := hb.cap
  exact ⟨hb.rd.rb, by omega⟩
theorem LsRd.below {B0 : Nat} (h : LsRd w B N Ls) (hb : Below B0 w w') (hB : w.heap.size ≤ B0) : LsRd w' B N Ls := by
  obtain ⟨hl, hs, ho, hk⟩ := h
  exact ⟨hl, hs, ho.below hb hB, fun k x L h1 h2 => ⟨(hk k x L h1 h2).1.below hb hB, (hk k x L h1 h2).2⟩⟩
theorem LsOw.below (h : LsOw w b B N c Ls) (hb : Below w.heap.size w w') : LsOw w' b B N c Ls := by
  obtain ⟨hl, hs, ho, hk⟩ := h
  exact ⟨hl, hs, ho.below hb (Nat.le_refl _), fun k x L h1 h2 => by obtain ⟨b', q⟩ := hk k x L h1 h2; exact ⟨b', q.below hb (Nat.le_refl _)⟩⟩
theorem LsOw.touch {M : List TypeId} {base : Nat} {p : DiskP} {D : DiskV} (h : LsOw w b B N c Ls) (hd : DiskS w base p D) (k : Touch M p w w') (h1 : 23 ∉ 4 :: M) (h2 : 5 ∉ 4 :: M) : LsOw w' b B N c Ls := by
  obtain ⟨hl, hs, ho, hk⟩ := h
  exact ⟨hl, hs, hd.ow ho k h1, fun k' x L q1 q2 => by obtain ⟨b', q⟩ := hk k' x L q1 q2; exact ⟨b', hd.ow q k h2⟩⟩
theorem LsOw.rebase {b0 : Nat} (h : LsOw w b B N c Ls) (hb : b0 ≤ b) : LsOw w b0 B N c Ls := by
  obtain ⟨hl, hs, ho, hk⟩ := h
  exact ⟨hl, hs, ho.rebase hb, hk⟩
theorem LsOw.nil (w : World) (b : Nat) : LsOw w b none 0 0 [] := ⟨rfl, [], Ow.nil _ _ _ _, fun k h L h1 => by simp at h1⟩
/-- An own row is as it was where another own row, of another kind, has grown. -/
theorem Ow.grownOw {α β : Type} {enc : α → Value} {enc' : β → Value} {b' n c' : Nat} {e e' : TypeId} {B' : Option Addr} {l : List α} {l' : List β} (ho : Ow enc w b' e B' n c' l) {bb m cc : Nat} {C : Option Addr} (hB : Ow enc' w bb e' C m cc l') (hg : w.grownBy w' (C.map (·.block))) (hne : e ≠ e') : Ow enc w' b' e B' n c' l := by
  refine ⟨ho.1, own_keep (F := fun g => C.map (·.block) = some g) ho.2 (Keep.of_grown hg (fun g e => e)) (fun g hg' he => ?_)⟩
  rcases hB.2.2 with ⟨hv, _⟩ | ⟨g', cap, cur, hv, _, hh, _⟩
  · injection hv with hv; subst hv; cases he
  · injection hv with hv
    subst hv
    simp only [Option.map_some, Option.some.injEq] at he
    subst he
    exact own_ne ho.2 (g := g') (t := e') (cs := cur.toList) (by unfold Blk; rw [hh]) hne hg'
end
/-- Does a list begin with another? -/
def begB (l a : List (List UInt8)) : Bool := decide (a.take l.length = l)
theorem begB_long {l a : List (List UInt8)} (h : a.length < l.length) : begB l a = false := by
  unfold begB
  rw [decide_eq_false_iff_not]
  intro e
  have := congrArg List.length e
  rw [List.length_take] at this
  omega
theorem begB_self (l : List (List UInt8)) : begB l l = true := by unfold begB; rw [List.take_length]; exact decide_eq_true rfl
set_option maxRecDepth 100000 in
set_option maxHeartbeats 4000000 in
theorem begins_any (B C : Option Addr) (n m c d : Nat) (l a : List (List UInt8)) (w : World) (hl : LsRd w B n l) (ha : LsRd w C m a) (hn : n ≤ maxLen) (hm : m ≤ maxLen) :
    Calls Try.prog 55 #[.slice B n c, .slice C m d] w fun e w' => e = .returned (.bool (begB l a)) ∧ Below w.heap.size w w' := by
  have hln := hl.1
  have han := ha.1
  unfold maxLen at hn hm
  by_cases hlong : m < n
  · have hb : Hid (begB l a = false) := begB_long (by omega)
    clear hl ha
    go_enter Try.func55, Try.ntmps55
    go_wp2
    go_ret
    exact ⟨ret_bool hb.out.symm, Below.refl _ _⟩
  · go_enter Try.func55, Try.ntmps55
    go_wp2
    go_loopw [5, 13] (fun _ i wr => ∃ k : Nat, k ≤ n ∧ i = .int .i64 (k : Nat) ∧ a.take k = l.take k ∧ Below w.heap.size w wr) (fun _ i _ => n - (intOf i).toNat)
    case atStart => exact ⟨0, by omega, rfl, rfl, Below.refl _ _⟩
    case round =>
      obtain ⟨k, hk, rfl, htk, hbel⟩ := hrel
      by_cases hlt : k < n
      · obtain ⟨_, hs, hrd, hcell⟩ := hl.below hbel (Nat.le_refl _)
        obtain ⟨_, ks, krd, kcell⟩ := ha.below hbel (Nat.le_refl _)
        have hsl : k < hs.length := by rw [hrd.1]; exact hlt
        have ksl : k < ks.length := by rw [krd.1]; omega
        have hll : k < l.length := by omega
        have hal : k < a.length := by omega
        obtain ⟨r1, x1⟩ := hcell k _ _ (List.getElem?_eq_getElem hsl) (List.getElem?_eq_getElem hll)
        obtain ⟨r2, x2⟩ := kcell k _ _ (List.getElem?_eq_getElem ksl) (List.getElem?_eq_getElem hal)
        obtain ⟨b1, o1, hB1, hb1, c1⟩ := hrd.2.at_ hlt
        obtain ⟨b2, o2, hB2, hb2, c2⟩ := krd.2.at_ (show k < m by omega)
        rw [getD_map hs k hsl] at c1
        rw [getD_map ks k ksl] at c2
        have e1 : Hid (l.take (k + 1) = l.take k ++ [l[k]]) := List.take_succ_eq_append_getElem hll
        have e2 : Hid (a.take (k + 1) = a.take k ++ [a[k]]) := List.take_succ_eq_append_getElem hal
        have e3 : Hid (l[k]? = some l[k]) := List.getElem?_eq_getElem hll
        have e4 : Hid (a[k]? = some a[k]) := List.getElem?_eq_getElem hal
        generalize hs[k] = h1 at *
        generalize ks[k] = h2 at *
        generalize l[k] = L1 at *
        generalize a[k] = L2 at *
        obtain ⟨A1, n1, d1⟩ := h1
        obtain ⟨A2, n2, d2⟩ := h2
        simp only [slV] at c1 c2 r1 x1 r2 x2
        have hsame := same_any A1 A2 n1 n2 d1 d2 L1 L2 wr.drew r1 r2 x1
        have HT := Lib.hid htk
        have hkm : (k : Int) < m := by omega
        have HL := Lib.hid hlt
        clear hcell kcell hrd krd htk
        subst hB1 hB2
        by_cases hee : L1 = L2
        · have hbn : decide (L1 = L2) = true := decide_eq_true hee
          rw [hbn] at hsame
          go_wp2
          go_region_held3 (fun w' => w'.cell? ⟨b1, o1 + k, none⟩ = some (.slice A1 n1 d1) ∧ w'.cell? ⟨b2, o2 + k, none⟩ = some (.slice A2 n2 d2)) (first | go_keep | (refine ⟨?_, ?_⟩ <;> assumption)) (first
            | (go_at_call 24; (with_reducible refine (hsame).mono ?_); rintro e w2 ⟨rfl, q2, rfl⟩)
            | fail "no arm")
          have hnx : Hid (a.take (k + 1) = l.take (k + 1)) := by show _ = _; rw [e1.out, e2.out, HT.out, hee]
          clear hee
          go_wp2
          go_roundw
          case rel => first
            | exact ⟨k + 1, by omega, by go_num, hnx.out, below_drewN hbel _⟩
            | ((repeat apply Exists.intro); exact ⟨⟨k + 1, by omega, by go_num, hnx.out, below_drewN hbel _⟩, rfl⟩)
          case measure => simp [intOf]; omega
        · have hbn : decide (L1 = L2) = false := decide_eq_false hee
          have hno : Hid (begB l a = false) := by
            show begB l a = false
            unfold begB
            rw [decide_eq_false_iff_not]
            intro e
            have h0 : (a.take l.length)[k]? = l[k]? := by rw [e]
            rw [List.getElem?_take, if_pos (by omega), e3.out, e4.out] at h0
            injection h0 with h0
            exact hee h0.symm
          rw [hbn] at hsame
          clear hee
          go_wp2
          go_region_held3 (fun w' => w'.cell? ⟨b1, o1 + k, none⟩ = some (.slice A1 n1 d1) ∧ w'.cell? ⟨b2, o2 + k, none⟩ = some (.slice A2 n2 d2)) (first | go_keep | (refine ⟨?_, ?_⟩ <;> assumption)) (first
            | (go_at_call 24; (with_reducible refine (hsame).mono ?_); rintro e w2 ⟨rfl, q2, rfl⟩)
            | fail "no arm")
          go_wp2
          go_ret
          exact ⟨ret_bool hno.out.symm, below_drewN hbel _⟩
      · have hk9 : k = n := by omega
        have hyes : Hid (begB l a = true) := by
          show begB l a = true
          unfold begB
          rw [decide_eq_true_iff, hln, ← hk9, htk, List.take_of_length_le (by omega)]
        subst hk9
        clear htk
        go_wp2
        go_ret
        exact ⟨ret_bool hyes.out.symm, hbel⟩
section
variable {w w' : World} {base ga gj f m next : Nat} {kind : Int} {p : DiskP} {D : DiskV}
set_option maxRecDepth 100000 in
set_option maxHeartbeats 4000000 in
theorem loads_any (hj : JrnAt w gj ga kind next) (hd : DiskS w base p D) (hs : base ≤ w.heap.size) (ha : AreaAt w ga p.d f m) (hfm : f + m ≤ D.many) (hnm : next ≤ 4096) (G : Nat → List UInt8)
    (hG : ∀ o k, k < next → (jGetV { D with ops := o } f m kind next (k : Int)).2 = (G k, 0) ∧ ∃ o', (jGetV { D with ops := o } f m kind next (k : Int)).1 = { D with ops := o' }) :
    Calls Try.prog 54 #[.pointer (some ⟨gj, 0, none⟩)] w fun e w' => ∃ B c, e = .returned (.tuple #[.slice B next c, .bool true]) ∧ LsOw w' w.heap.size B next c ((List.range next).map G) ∧ (∃ o, DiskS w' base p { D with ops := o }) ∧ Step mutD base p w w' := by
  have hlen := jlen_any hj
  have HJ := Lib.hid hj
  have HD := Lib.hid hd
  have HA := Lib.hid ha
  have HG := Lib.hid hG
  clear hj hd ha hG
  go_enter Try.func54, Try.ntmps54
  go_wp2_with (first
    | (go_at_call 56; (with_reducible refine (hlen).mono ?_); rintro e w1 ⟨rfl, rfl⟩)
    | fail "no arm")
  go_loopw [4, 5, 6, 7, 10] (fun v _ _ _ i wr => ∃ (k : Nat) (B : Option Addr) (c : Nat), k ≤ next ∧ i = .int .i64 (k : Nat) ∧ v = .slice B k c ∧ LsOw wr w.heap.size B k c ((List.range k).map G) ∧ (∃ o, DiskS wr base p { D with ops := o }) ∧ Step mutD base p w wr) (fun _ _ _ _ i _ => next - (intOf i).toNat)
  case atStart => exact ⟨0, none, 0, by omega, rfl, rfl, LsOw.nil _ _, ⟨D.ops, HD.out⟩, Step.refl _ _ _ _⟩
  case round =>
    obtain ⟨k, B, c, hk, rfl, rfl, hls, ⟨o, hdk⟩, hst⟩ := hrel
    by_cases hlt : k < next
    · have hsz := hst.size
      have hjk : JrnAt wr gj ga kind next := HD.out.blk HJ.out hst.tch (by decide)
      have hak := HD.out.area HA.out hst.tch (by decide)
      have hget := jget_any hjk hdk (by omega) hak hfm hnm (k : Int)
      obtain ⟨g1, o', g2⟩ := HG.out o k hlt
      rw [g1, g2] at hget
      simp only at hget
      have hrs : Hid ((List.range (k + 1)).map G = (List.range k).map G ++ [G k]) := by show _ = _; rw [List.range_succ, List.map_append]; rfl
      have HDk := Lib.hid hdk
      have HLS := Lib.hid hls
      have HST := Lib.hid hst
      clear hls hdk hst hjk hak
      go_wp2_with (first
        | ((go_at_call 91; (with_reducible refine (hget).mono ?_); rintro e w2 ⟨L, kk, dd, rfl, o2, h2, st2⟩); have H2 := Lib.hid h2; have O2 := Lib.hid o2; have LS2 := Lib.hid (HLS.out.touch HDk.out st2.tch (by decide) (by decide)); have ST2 := Lib.hid (HST.out.trans st2); have s2 := ST2.out.size; obtain ⟨hl2, hs2, ho2, hk2⟩ := LS2.out; clear h2 o2 st2)
        | (at_builtin; refine wpList_app rfl rfl elemHdr slV_one (s := .tmp 21) (N := k + 1) (L := hs2 ++ [⟨L, kk, dd⟩]) rfl (ho2.below (b := w2.heap.size) (by (repeat' (first | (with_reducible exact Below.refl _ _) | (with_reducible assumption) | (with_reducible refine Below.drew ?_) | (with_reducible refine below_drewN ?_ _) | (with_reducible refine Below.alloc ?_ ?_ _) | (with_reducible refine Below.setCell ?_ ?_ _) | omega | (simp; done) | (simp; omega)))) (by first | omega | (simp; done) | (simp; omega))) rfl (k := [⟨L, kk, dd⟩]) (hdr_rd w2 ⟨L, kk, dd⟩) rfl rfl (by unfold maxLen; omega) (by omega) (by first | omega | (simp; done) | (simp; omega)) ?_; intro A5 c5 w5 hown5 hg5 hat5 hb5)
        | fail "no arm")
      go_roundw
      case rel =>
        have bA : Below w2.heap.size w2 (w2.alloc (.cells #[.slice L kk dd] 23)) := (Below.refl _ _).alloc (Nat.le_refl _) _
        have hoA := ho2.below bA (Nat.le_refl _)
        have f1 : DiskS w5 base p { D with ops := o' } := (H2.out.below bA).grown hoA hg5 (by decide)
        have f2 : LsOw w5 w.heap.size A5 (k + 1) c5 ((List.range (k + 1)).map G) := by
          refine ⟨by simp, hs2 ++ [⟨L, kk, dd⟩], hown5, fun q x X q1 q2 => ?_⟩
          have hhl : hs2.length = k := ho2.1
          rw [hrs.out] at q2
          rcases Nat.lt_or_ge q k with hq | hq
          · rw [List.getElem?_append_left (by omega)] at q1
            rw [List.getElem?_append_left (by simp; exact hq)] at q2
            obtain ⟨b', ob⟩ := hk2 q x X q1 q2
            exact ⟨b', (ob.below bA (Nat.le_refl _)).grownOw hoA hg5 (by decide)⟩
          · have hq9 : q = k := by
              have : q < (hs2 ++ [(⟨L, kk, dd⟩ : SlV)]).length := (List.getElem?_eq_some_iff.1 q1).1
              rw [List.length_append, hhl, List.length_singleton] at this
              omega
            subst hq9
            rw [List.getElem?_append_right (by omega), hhl, Nat.sub_self] at q1
            rw [List.getElem?_append_right (by simp)] at q2
            simp only [List.getElem?_cons_zero, Option.some.injEq, List.length_map, List.length_range, Nat.sub_self] at q1 q2
            subst q1 q2
            exact ⟨_, (O2.out.below bA (Nat.le_refl _)).grownOw hoA hg5 (by decide)⟩
        have f3 : Step mutD base p w w5 := (ST2.out.trans (Step.of_below bA (by omega))).then_below hb5 hs
        first
          | exact ⟨k + 1, A5, c5, by omega, by go_num, rfl, f2, ⟨o', f1⟩, f3⟩
          | ((repeat apply Exists.intro); exact ⟨⟨k + 1, A5, c5, by omega, by go_num, rfl, f2, ⟨o', f1⟩, f3⟩, rfl⟩)
      case measure => simp [intOf]; omega
    · have hk9 : k = next := by omega
      subst hk9
      have HLS := Lib.hid hls
      have HST := Lib.hid hst
      have HDk := Lib.hid hdk
      clear hls hst hdk
      go_wp2
      go_ret2
      exact ⟨B, c, rfl, HLS.out, ⟨o, HDk.out⟩, HST.out⟩
end
end Go.Proofs.Ytninidpbchcliaa
