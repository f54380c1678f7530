/- Parts: BothA, PlainCrc. -/
import Derived.Test.YtalmdccgpigppaaGreatPr27
import Derived.Test.YtalmdccgpigppaaGreatPr16
import Derived.Test.YtalmdccgpigppaaGreatPr04
namespace Go.Proofs.YtalmdccgpigppaaGreat
open Go.RowKit
set_option linter.unusedVariables false
set_option linter.unusedSimpArgs false
/-- What the document's disk changes, and nothing else. -/
structure RStep (base : Nat) (q : RDiskP) (w w' : World) : Prop where
  bel : Below base w w'
  tch : ∃ F : Nat → Prop, Keep F w w' ∧ ∀ g t cs, F g → Blk w g t cs → t = 119 ∨ t = 169 ∨ g = q.gk ∨ g = q.gi ∨ g = q.go
section
variable {M : List TypeId} {w w' w'' : World} {base : Nat} {p : DiskP} {q : RDiskP} {A : Option Addr} {c ck ci : Nat} {D D' E : DiskV}
theorem RStep.size (k : RStep base q w w') : w.heap.size ≤ w'.heap.size := k.bel.size
theorem RStep.of_below (hb : Below w.heap.size w w') (hs : base ≤ w.heap.size) : RStep base q w w' := ⟨hb.mono hs, fun _ => False, Keep.of_below hb, fun _ _ _ e => e.elim⟩
theorem RStep.refl (base : Nat) (q : RDiskP) (w : World) : RStep base q w w := ⟨Below.refl _ _, fun _ => False, Keep.refl _ _, fun _ _ _ e => e.elim⟩
theorem RStep.of_keep (h : RDiskAt w base q A c ck ci D) (hs : base ≤ w.heap.size) (k : Keep (fun g => rfoot q A g) w w') : RStep base q w w' :=
  ⟨k.below (fun g hg => h.bs g hg) hs, _, k, fun g t cs hg hb => h.foot_ty hb hg⟩
theorem RStep.trans (h : RStep base q w w') (k : RStep base q w' w'') : RStep base q w w'' := by
  obtain ⟨F, hF, tF⟩ := h.tch
  obtain ⟨G, hG, tG⟩ := k.tch
  refine ⟨h.bel.trans k.bel, fun g => F g ∨ G g, (hF.mono (fun g _ e => .inl e)).trans hG (fun g _ e => .inr e), fun g t cs hfg hb => ?_⟩
  by_cases hf : F g
  · exact tF g t cs hf hb
  · rcases hfg with e | e
    · exact absurd e hf
    · exact tG g t cs e (hb.keep hF hf)
theorem RDiskS.kinds (h : RDiskS w base q D) : (∃ cs, Blk w q.d 119 cs) ∧ (∃ cs, Blk w q.gk 22 cs) ∧ (∃ cs, Blk w q.gi 4 cs) ∧ ∃ cs, Blk w q.go 3 cs := by
  obtain ⟨A, c, ck, ci, h⟩ := h
  obtain ⟨hs, ho, _⟩ := h.kept
  exact ⟨⟨_, h.st⟩, ho.blk rfl, h.inu.blk rfl, ⟨_, h.op⟩⟩
/-- A block of another kind is as it was. -/
theorem RDiskS.blk (h : RDiskS w base q D) {g : Nat} {t : TypeId} {cs : List Value} (hb : Blk w g t cs) (k : RStep base q w w') (ht : t ∉ [119, 169, 22, 4, 3]) : Blk w' g t cs := by
  obtain ⟨F, hF, tF⟩ := k.tch
  obtain ⟨_, ⟨c1, b1⟩, ⟨c2, b2⟩, ⟨c3, b3⟩⟩ := h.kinds
  simp only [List.mem_cons, List.not_mem_nil, or_false, not_or] at ht
  refine hb.keep hF (fun e => ?_)
  rcases tF g t cs e hb with q1 | q1 | q1 | q1 | q1
  · exact ht.1 q1
  · exact ht.2.1 q1
  · exact hb.ne_ b1 ht.2.2.1 q1
  · exact hb.ne_ b2 ht.2.2.2.1 q1
  · exact hb.ne_ b3 ht.2.2.2.2 q1
theorem RDiskS.bool (h : RDiskS w base q D) {g : Nat} {cs : List Value} (hb : Blk w g 4 cs) (k : RStep base q w w') (hg : q.gi ≠ g) : Blk w' g 4 cs := by
  obtain ⟨F, hF, tF⟩ := k.tch
  obtain ⟨_, ⟨c1, b1⟩, _, ⟨c3, b3⟩⟩ := h.kinds
  refine hb.keep hF (fun e => ?_)
  rcases tF g _ cs e hb with q1 | q1 | q1 | q1 | q1
  · exact absurd q1 (by decide)
  · exact absurd q1 (by decide)
  · exact hb.ne_ b1 (by decide) q1
  · exact hg q1.symm
  · exact hb.ne_ b3 (by decide) q1
theorem DiskS.rstep (h : DiskS w base p E) (r : RDiskS w base q D) (k : RStep base q w w') (h1 : q.gi ≠ p.gi) (h2 : q.gi ≠ p.gm) : DiskS w' base p E := by
  obtain ⟨A, c, h⟩ := h
  refine ⟨A, c, ?_⟩
  obtain ⟨F, hF, tF⟩ := k.tch
  obtain ⟨_, ⟨c1, b1⟩, ⟨c2, b2⟩, ⟨c3, b3⟩⟩ := r.kinds
  have no : ∀ {g : Nat} {t : TypeId} {cs : List Value}, Blk w g t cs → t ∉ [119, 169, 22, 4, 3] → ¬ F g := fun {g t cs} hb ht e => by
    simp only [List.mem_cons, List.not_mem_nil, or_false, not_or] at ht
    rcases tF g t cs e hb with q1 | q1 | q1 | q1 | q1
    · exact ht.1 q1
    · exact ht.2.1 q1
    · exact hb.ne_ b1 ht.2.2.1 q1
    · exact hb.ne_ b2 ht.2.2.2.1 q1
    · exact hb.ne_ b3 ht.2.2.2.2 q1
  have nob : ∀ {g : Nat} {cs : List Value}, Blk w g 4 cs → q.gi ≠ g → ¬ F g := fun {g cs} hb hg e => by
    rcases tF g _ cs e hb with q1 | q1 | q1 | q1 | q1
    · exact absurd q1 (by decide)
    · exact absurd q1 (by decide)
    · exact hb.ne_ b1 (by decide) q1
    · exact hg q1.symm
    · exact hb.ne_ b3 (by decide) q1
  refine h.keep hF (fun g hg e => ?_)
  rcases hg with e1 | e1 | e1 | e1 | e1 | e1 | e1
  · subst e1; exact no h.st (by decide) e
  · subst e1; exact no h.bk (by decide) e
  · subst e1; exact no h.bn (by decide) e
  · subst e1; exact nob h.bi h1 e
  · subst e1; exact nob h.bm h2 e
  · subst e1; exact no h.mt.2 (by decide) e
  · rcases h.wa.2 with ⟨hv, _⟩ | ⟨g', cap, cur, hv, _, hh, _⟩
    · injection hv with hv; subst hv; cases e1
    · injection hv with hv; subst hv
      simp only [Option.map_some, Option.some.injEq] at e1
      subst e1
      exact no (g := g') (t := 167) (cs := cur.toList) (by unfold Blk; rw [hh]) (by decide) e
theorem RDiskS.step (r : RDiskS w base q D) (h : DiskS w base p E) (k : Step M base p w w') (h1 : q.gi ≠ p.gi) (h2 : q.gi ≠ p.gm) (hM : ∀ t ∈ [119, 169, 22, 3, 5], t ∉ 4 :: M) (hb : 4 ∉ M) : RDiskS w' base q D := by
  obtain ⟨A, c, ck, ci, r⟩ := r
  have m1 := hM 119 (by decide)
  have m2 := hM 169 (by decide)
  have m3 := hM 22 (by decide)
  have m4 := hM 3 (by decide)
  have m5 := hM 5 (by decide)
  refine ⟨A, c, ck, ci, r.ok, r.cons, r.ops, h.blk r.st k.tch m1, ?_, ?_, ?_, h.blk r.op k.tch m4, r.bd, r.bo⟩
  · obtain ⟨hs, ho, hk⟩ := r.kept
    exact ⟨hs, h.ow ho k.tch m3, fun j x hx => ⟨(hk j x hx).1, (hk j x hx).2.step h k m5⟩⟩
  · obtain ⟨F, hF, tF⟩ := k.tch
    obtain ⟨cs, hbk⟩ := r.inu.blk (g := q.gi) rfl
    refine ⟨r.inu.1, own_keep r.inu.2 hF (fun g e e2 => ?_)⟩
    have : q.gi = g := by simpa [Value.ownBlock] using e
    subst this
    rcases tF _ _ _ e2 hbk with q1 | q1 | q1
    · exact hb q1
    · exact h1 q1
    · exact h2 q1
  · obtain ⟨ps, ho, hk⟩ := r.wts
    refine ⟨ps, ?_, fun j x hx => by obtain ⟨L, e1, e2, e3⟩ := hk j x hx; exact ⟨L, e1, e2, e3.step h k m5⟩⟩
    obtain ⟨F, hF, tF⟩ := k.tch
    refine ⟨ho.1, own_keep ho.2 hF (fun g hg hf => ?_)⟩
    rcases ho.2.2 with ⟨hv, _⟩ | ⟨g', cap, cur, hv, _, hh, _⟩
    · rw [hv] at hg; cases hg
    · rw [hv] at hg
      have : g' = g := by simpa [Value.ownBlock] using hg
      subst this
      have hbk : Blk w g' 169 cur.toList := by unfold Blk; rw [hh]
      obtain ⟨n1, n2⟩ := h.notBool hbk (by decide)
      rcases tF _ _ _ hf hbk with q1 | q1 | q1
      · exact m2 (List.mem_cons_of_mem _ q1)
      · exact n1 q1
      · exact n2 q1
theorem RDiskS.below (h : RDiskS w base q D) (hb : Below w.heap.size w w') : RDiskS w' base q D := by
  obtain ⟨A, c, ck, ci, h⟩ := h; exact ⟨A, c, ck, ci, h.below hb⟩
end
/-- A disk and the document's, with the same on them. -/
structure Both (w : World) (base : Nat) (p : DiskP) (q : RDiskP) (D : DiskV) : Prop where
  d : DiskS w base p D
  r : RDiskS w base q D
  n1 : q.gi ≠ p.gi
  n2 : q.gi ≠ p.gm
section
variable {w w' : World} {base : Nat} {q : RDiskP} {D : DiskV}
theorem r_write (h : RDiskS w base q D) (hs : base ≤ w.heap.size) (n : Int) (B : Option Addr) (d : Nat) (b : List UInt8) (hb : b.length = 128) (hr : RB w B 128 b) (hw : D.waits.length < 1000000) :
    Calls Tryz.prog 191 #[.pointer (some ⟨q.d, 0, none⟩), .int .i64 n, .slice B 128 d] w fun e w' => e = .returned (.int .i64 (writeV D n b).2) ∧ RDiskS w' base q (writeV D n b).1 ∧ RStep base q w w' := by
  obtain ⟨A, c, ck, ci, h⟩ := h
  exact (rwrite_any h hs n B d b hb hr hw).mono fun e w' ⟨h1, A', c', h2, k⟩ => ⟨h1, ⟨A', c', ck, ci, h2⟩, RStep.of_keep h hs k⟩
theorem r_flush (h : RDiskS w base q D) (hs : base ≤ w.heap.size) : Calls Tryz.prog 58 #[.pointer (some ⟨q.d, 0, none⟩)] w fun e w' => e = .returned (.int .i64 (flushV D).2) ∧ RDiskS w' base q (flushV D).1 ∧ RStep base q w w' := by
  obtain ⟨A, c, ck, ci, h⟩ := h
  exact (rflush_any h).mono fun e w' ⟨h1, A', c', h2, k⟩ => ⟨h1, ⟨A', c', ck, ci, h2⟩, RStep.of_keep h hs k⟩
theorem r_crash (h : RDiskS w base q D) (hs : base ≤ w.heap.size) (B : Option Addr) (n d : Nat) (cs : List UInt8) (hr : RB w B n cs) (hB : 0 < n → ∀ g, B.map (·.block) = some g → g < base) (hn : n ≤ maxLen) :
    Calls Tryz.prog 33 #[.pointer (some ⟨q.d, 0, none⟩), .slice B n d] w fun e w' => e = .returned (.tuple #[]) ∧ RDiskS w' base q (crashV D cs) ∧ RStep base q w w' := by
  obtain ⟨A, c, ck, ci, h⟩ := h
  exact (rcrash_any h hs B n d cs hr hB hn).mono fun e w' ⟨h1, A', c', h2, k⟩ => ⟨h1, ⟨A', c', ck, ci, h2⟩, RStep.of_keep h hs k⟩
theorem r_cut (h : RDiskS w base q D) (hs : base ≤ w.heap.size) (n : Int) (hn : n ≤ 9223372036854775807) : Calls Tryz.prog 31 #[.pointer (some ⟨q.d, 0, none⟩), .int .i64 n] w fun e w' => e = .returned (.tuple #[]) ∧ RDiskS w' base q { D with cut := max n (-1) } ∧ RStep base q w w' := by
  obtain ⟨A, c, ck, ci, h⟩ := h
  exact (rcut_any h n hn).mono fun e w' ⟨h1, h2, k⟩ => ⟨h1, ⟨A, c, ck, ci, h2⟩, RStep.of_keep h hs (k.mono (fun g _ e => by rcases e with e | e; exact .inl e; exact .inr (.inr (.inr (.inl e)))))⟩
/-- Where a sector is read it is that of a disk; else nothing. -/
theorem r_read (h : RDiskS w base q D) (hs : base ≤ w.heap.size) (n : Int) : Calls Tryz.prog 205 #[.pointer (some ⟨q.d, 0, none⟩), .int .i64 n] w fun e w' => ∃ x : SlV, e = .returned (.tuple #[slV x, .int .i64 (readV D n).2.2]) ∧ (mayV D n ≠ 0 → x = ⟨none, 0, 0⟩) ∧ (mayV D n = 0 → Whole x ∧ BytesAt w' base x (secOf D.now n)) ∧ RDiskS w' base q (readV D n).1 ∧ RStep base q w w' := by
  obtain ⟨A, c, ck, ci, h⟩ := h
  unfold readV
  by_cases hm : mayV D n = 0
  · rw [if_neg (by omega)]
    obtain ⟨ho, h0, h1⟩ := mayV_zero hm
    obtain ⟨k, rfl⟩ : ∃ k : Nat, n = (k : Int) := ⟨n.toNat, by omega⟩
    exact (rread_yes h k ho (by omega)).mono fun e w' ⟨x, h1, h2, h3, h4, k⟩ => ⟨x, h1, fun e => absurd hm e, fun _ => ⟨h2, h3⟩, ⟨A, c, ck, ci, h4⟩, RStep.of_keep h hs (k.mono (fun g _ e => by rcases e with e | e; exact .inl e; exact .inr (.inr (.inr (.inl e)))))⟩
  · rw [if_pos hm]
    exact (rread_no h n hm).mono fun e w' ⟨h1, h2⟩ => by subst h2; exact ⟨⟨none, 0, 0⟩, h1, fun _ => rfl, fun e => absurd e hm, ⟨A, c, ck, ci, h⟩, RStep.refl _ _ _⟩
theorem r_image (h : RDiskS w base q D) (hs : base ≤ w.heap.size) : Calls Tryz.prog 18 #[.pointer (some ⟨q.d, 0, none⟩)] w fun e w' => ∃ B N d, e = .returned (.slice B N d) ∧ OB w' w.heap.size 5 B N d D.kept ∧ Below w.heap.size w w' := by
  obtain ⟨A, c, ck, ci, h⟩ := h; exact rimage_any h
theorem r_read_yes (h : RDiskS w base q D) (hs : base ≤ w.heap.size) (n : Int) (hm : mayV D n = 0) : Calls Tryz.prog 205 #[.pointer (some ⟨q.d, 0, none⟩), .int .i64 n] w fun e w' => ∃ ya yc, e = .returned (.tuple #[.slice ya 128 yc, .int .i64 0]) ∧ 128 ≤ yc ∧ yc ≤ maxLen ∧ BytesAt w' base ⟨ya, 128, yc⟩ (secOf D.now n) ∧ RDiskS w' base q (readV' D) ∧ RStep base q w w' := by
  have := r_read h hs n
  unfold readV at this
  rw [if_neg (by omega)] at this
  exact this.mono fun e w' ⟨⟨ya, yn, yc⟩, h1, _, h3, h4, h5⟩ => by
    obtain ⟨⟨e1, e2, e3⟩, hb⟩ := h3 hm
    simp only at e1 e2 e3
    subst e1
    exact ⟨ya, yc, h1, e2, e3, hb, h4, h5⟩
theorem r_read_no (h : RDiskS w base q D) (hs : base ≤ w.heap.size) (n : Int) (hm : mayV D n ≠ 0) : Calls Tryz.prog 205 #[.pointer (some ⟨q.d, 0, none⟩), .int .i64 n] w fun e w' => e = .returned (.tuple #[.slice none 0 0, .int .i64 (mayV D n)]) ∧ RDiskS w' base q D ∧ RStep base q w w' := by
  have := r_read h hs n
  unfold readV at this
  rw [if_pos hm] at this
  exact this.mono fun e w' ⟨y, h1, h2, _, h4, h5⟩ => by
    have := h2 hm
    subst this
    exact ⟨h1, h4, h5⟩
end
end Go.Proofs.YtalmdccgpigppaaGreat
namespace Go.Proofs.YtalmdccgpigppaaGreat

theorem xor_div2 (x y : Nat) : (x ^^^ y) / 2 = (x / 2) ^^^ (y / 2) := by
  have h := Nat.shiftRight_xor_distrib (a := x) (b := y) (i := 1)
  simpa [Nat.shiftRight_eq_div_pow] using h
theorem xor_mod2 (x y : Nat) : (x ^^^ y) % 2 = (x % 2 + y % 2) % 2 := by
  have h := Nat.testBit_xor x y 0
  simp only [Nat.testBit_zero] at h
  rcases Nat.mod_two_eq_zero_or_one x with hx | hx <;> rcases Nat.mod_two_eq_zero_or_one y with hy | hy <;> rcases Nat.mod_two_eq_zero_or_one (x ^^^ y) with hz | hz <;> simp [hx, hy, hz] at h ⊢
theorem crcBit_xor (x y : Nat) : crcBit (x ^^^ y) = crcBit x ^^^ crcBit y := by
  unfold crcBit
  rw [xor_div2, xor_mod2]
  have hk : ∀ a b k : Nat, a ^^^ k ^^^ (b ^^^ k) = a ^^^ b := fun a b k => by
    rw [Nat.xor_comm b k, Nat.xor_assoc, ← Nat.xor_assoc k k b, Nat.xor_self, Nat.zero_xor]
  have hk2 : ∀ a b k : Nat, a ^^^ b ^^^ k = a ^^^ k ^^^ b := fun a b k => by rw [Nat.xor_assoc, Nat.xor_comm b k, ← Nat.xor_assoc]
  rcases Nat.mod_two_eq_zero_or_one x with hx | hx <;> rcases Nat.mod_two_eq_zero_or_one y with hy | hy <;> simp only [hx, hy] <;> simp
  · rw [Nat.xor_assoc]
  · rw [hk2]
  · rw [hk]
theorem crcBits_xor (k : Nat) : ∀ x y : Nat, crcBits k (x ^^^ y) = crcBits k x ^^^ crcBits k y := by
  induction k with
  | zero => intro x y; rfl
  | succ k ih => intro x y; show crcBits k _ = crcBits k _ ^^^ crcBits k _; rw [crcBit_xor, ih]
theorem sub_eq_xor (x : Nat) (h : x < 4294967296) : 4294967295 - x = 4294967295 ^^^ x := by
  have h1 := u32_not x h
  have h2 := u32_xor 4294967295 x (by omega) h
  have h3 : (IntKind.u32.max) = ((4294967295 : Nat) : Int) := by decide
  rw [h3, h2] at h1
  omega
theorem crcMore_xor (s : Nat) (hs : s < 4294967296) (l : List UInt8) : crcMore s l = 4294967295 ^^^ crcFold (4294967295 ^^^ s) l := by
  unfold crcMore
  rw [sub_eq_xor s hs, sub_eq_xor _ (crcFold_lt l (u32_lt_xor (by omega) hs))]
theorem crcSum_one (l : List UInt8) : crcSum [l] = 4294967295 ^^^ crcFold 4294967295 l := by
  have := crcMore_xor 0 (by omega) l
  simpa [crcSum] using this

/-! ### What was turned within four bytes is told -/
theorem crcBits_shift (k x : Nat) : crcBits k (x * 2 ^ k) = x := by
  induction k with
  | zero => show x * 1 = x; omega
  | succ k ih =>
    show crcBits k (crcBit (x * 2 ^ (k + 1))) = x
    have : crcBit (x * 2 ^ (k + 1)) = x * 2 ^ k := by
      unfold crcBit
      rw [Nat.pow_succ, ← Nat.mul_assoc, if_neg (by omega)]; omega
    rw [this, ih]
theorem crcBits_add (j k : Nat) : ∀ x, crcBits j (crcBits k x) = crcBits (k + j) x := by
  induction k with
  | zero => intro x; rw [Nat.zero_add]; rfl
  | succ k ih => intro x; rw [show k + 1 + j = (k + j) + 1 from by omega]; exact ih _
/-- The differences of two runs over four bytes. -/
theorem four (x0 x1 x2 x3 : Nat) : crcStep (crcStep (crcStep (crcStep 0 x0) x1) x2) x3 = crcBits 32 (x0 ^^^ x1 * 2 ^ 8 ^^^ x2 * 2 ^ 16 ^^^ x3 * 2 ^ 24) := by
  have s : ∀ (k u x : Nat), crcStep (crcBits k u) x = crcBits (k + 8) (u ^^^ x * 2 ^ k) := fun k u x => by
    unfold crcStep
    rw [← crcBits_add 8 k, crcBits_xor k, crcBits_shift]
  have h0 : crcStep 0 x0 = crcBits 8 x0 := by unfold crcStep; rw [Nat.zero_xor]
  rw [h0, s, s, s]
end Go.Proofs.YtalmdccgpigppaaGreat
