/- Parts: BothA, PlainCrc, RefCrc. -/
import Derived.Test.YtpmkpckldnnigaaGreatPr02
import Derived.Test.YtpmkpckldnnigaaGreatPr30
import Derived.Test.YtpmkpckldnnigaaGreatPr19
import Derived.Test.YtpmkpckldnnigaaGreatPr11
import Derived.Test.YtpmkpckldnnigaaGreatPr04
set_option linter.unusedVariables false
set_option linter.unusedSimpArgs false
set_option maxRecDepth 100000
set_option maxHeartbeats 40000000
namespace Go.Proofs.YtpmkpckldnnigaaGreat
open Go.RowKit
structure qd4 (base : Nat) (q : qf0) (w w' : World) : Prop where
  bel : Below base w w'
  tch : ∃ F : Nat → Prop, Keep F w w' ∧ ∀ g t cs, F g → Blk w g t cs → t = 124 ∨ t = 156 ∨ g = q.gk ∨ g = q.gi ∨ g = q.go
section
variable {M : List TypeId} {w w' w'' : World} {base : Nat} {p : qe3} {q : qf0} {A : Option Addr} {c ck ci : Nat} {D D' E : qa3}
theorem qd4.size (k : qd4 base q w w') : w.heap.size ≤ w'.heap.size := k.bel.size
theorem qd4.of_below (hb : Below w.heap.size w w') (hs : base ≤ w.heap.size) : qd4 base q w w' := ⟨hb.mono hs, fun _ => False, Keep.of_below hb, fun _ _ _ e => e.elim⟩
theorem qd4.refl (base : Nat) (q : qf0) (w : World) : qd4 base q w w := ⟨Below.refl _ _, fun _ => False, Keep.refl _ _, fun _ _ _ e => e.elim⟩
theorem qd4.of_keep (h : qc0 w base q A c ck ci D) (hs : base ≤ w.heap.size) (k : Keep (fun g => vj6 q A g) w w') : qd4 base q w w' :=
  ⟨k.below (fun g hg => h.bs g hg) hs, _, k, fun g t cs hg hb => h.foot_ty hb hg⟩
theorem qd4.trans (h : qd4 base q w w') (k : qd4 base q w' w'') : qd4 base q w w'' := by
  obtain ⟨F, hF, tF⟩ := h.tch; obtain ⟨G, hG, tG⟩ := k.tch; refine ⟨h.bel.trans k.bel, fun g => F g ∨ G g, (hF.mono (fun g _ e => .inl e)).trans hG (fun g _ e => .inr e), fun g t cs hfg hb => ?_⟩
  by_cases hf : F g
  · exact tF g t cs hf hb
  · rcases hfg with e | e
    · exact absurd e hf
    · exact tG g t cs e (hb.keep hF hf)
theorem qb5.kinds (h : qb5 w base q D) : (∃ cs, Blk w q.d 124 cs) ∧ (∃ cs, Blk w q.gk 22 cs) ∧ (∃ cs, Blk w q.gi 4 cs) ∧ ∃ cs, Blk w q.go 3 cs := by
  obtain ⟨A, c, ck, ci, h⟩ := h; obtain ⟨hs, ho, _⟩ := h.kept; exact ⟨⟨_, h.st⟩, ho.blk rfl, h.inu.blk rfl, ⟨_, h.op⟩⟩
theorem qb5.blk (h : qb5 w base q D) {g : Nat} {t : TypeId} {cs : List Value} (hb : Blk w g t cs) (k : qd4 base q w w') (ht : t ∉ [124, 156, 22, 4, 3]) : Blk w' g t cs := by
  obtain ⟨F, hF, tF⟩ := k.tch; obtain ⟨_, ⟨c1, b1⟩, ⟨c2, b2⟩, ⟨c3, b3⟩⟩ := h.kinds; simp only [List.mem_cons, List.not_mem_nil, or_false, not_or] at ht; refine hb.keep hF (fun e => ?_); rcases tF g t cs e hb with q1 | q1 | q1 | q1 | q1
  · exact ht.1 q1
  · exact ht.2.1 q1
  · exact hb.ne_ b1 ht.2.2.1 q1
  · exact hb.ne_ b2 ht.2.2.2.1 q1
  · exact hb.ne_ b3 ht.2.2.2.2 q1
theorem qc4.rstep (h : qc4 w base p E) (r : qb5 w base q D) (k : qd4 base q w w') (h1 : q.gi ≠ p.gi) (h2 : q.gi ≠ p.gm) : qc4 w' base p E := by
  obtain ⟨A, c, h⟩ := h; refine ⟨A, c, ?_⟩; obtain ⟨F, hF, tF⟩ := k.tch; obtain ⟨_, ⟨c1, b1⟩, ⟨c2, b2⟩, ⟨c3, b3⟩⟩ := r.kinds; have no : ∀ {g : Nat} {t : TypeId} {cs : List Value}, Blk w g t cs → t ∉ [124, 156, 22, 4, 3] → ¬ F g := fun {g t cs} hb ht e => by
    simp only [List.mem_cons, List.not_mem_nil, or_false, not_or] at ht; rcases tF g t cs e hb with q1 | q1 | q1 | q1 | q1
    · exact ht.1 q1
    · exact ht.2.1 q1
    · exact hb.ne_ b1 ht.2.2.1 q1
    · exact hb.ne_ b2 ht.2.2.2.1 q1
    · exact hb.ne_ b3 ht.2.2.2.2 q1
  have nob : ∀ {g : Nat} {cs : List Value}, Blk w g 4 cs → q.gi ≠ g → ¬ F g := fun {g cs} hb hg e => by
    rcases tF g _ cs e hb with q1 | q1 | q1 | q1 | q1
    · exact absurd q1 dcd
    · exact absurd q1 dcd
    · exact hb.ne_ b1 dcd q1
    · exact hg q1.symm
    · exact hb.ne_ b3 dcd q1
  refine h.keep hF (fun g hg e => ?_); rcases hg with e1 | e1 | e1 | e1 | e1 | e1 | e1
  · subst e1; exact no h.st dcd e
  · subst e1; exact no h.bk dcd e
  · subst e1; exact no h.bn dcd e
  · subst e1; exact nob h.bi h1 e
  · subst e1; exact nob h.bm h2 e
  · subst e1; exact no h.mt.2 dcd e
  · rcases h.wa.2 with ⟨hv, _⟩ | ⟨g', cap, cur, hv, _, hh, _⟩
    · injection hv with hv; subst hv; cases e1
    · injection hv with hv; subst hv; simp only [Option.map_some, Option.some.injEq] at e1; subst e1; exact no (g := g') (t := 154) (cs := cur.toList) (by unfold Blk; rw [hh]) dcd e
theorem qb5.step (r : qb5 w base q D) (h : qc4 w base p E) (k : Step M base p w w') (h1 : q.gi ≠ p.gi) (h2 : q.gi ≠ p.gm) (hM : ∀ t ∈ [124, 156, 22, 3, 5], t ∉ 4 :: M) (hb : 4 ∉ M) : qb5 w' base q D := by
  obtain ⟨A, c, ck, ci, r⟩ := r; have m1 := hM 124 dcd; have m2 := hM 156 dcd; have m3 := hM 22 dcd; have m4 := hM 3 dcd; have m5 := hM 5 dcd; refine ⟨A, c, ck, ci, r.ok, r.cons, r.ops, h.blk r.st k.tch m1, ?_, ?_, ?_, h.blk r.op k.tch m4, r.bd, r.bo⟩
  · obtain ⟨hs, ho, hk⟩ := r.kept; exact ⟨hs, h.ow ho k.tch m3, fun j x hx => ⟨(hk j x hx).1, (hk j x hx).2.step h k m5⟩⟩
  · obtain ⟨F, hF, tF⟩ := k.tch; obtain ⟨cs, hbk⟩ := r.inu.blk (g := q.gi) rfl; refine ⟨r.inu.1, qe7 r.inu.2 hF (fun g e e2 => ?_)⟩; have : q.gi = g := by simpa [Value.ownBlock] using e
    subst this; rcases tF _ _ _ e2 hbk with q1 | q1 | q1
    · exact hb q1
    · exact h1 q1
    · exact h2 q1
  · obtain ⟨ps, ho, hk⟩ := r.wts; refine ⟨ps, ?_, fun j x hx => by obtain ⟨L, e1, e2, e3⟩ := hk j x hx; exact ⟨L, e1, e2, e3.step h k m5⟩⟩; obtain ⟨F, hF, tF⟩ := k.tch; refine ⟨ho.1, qe7 ho.2 hF (fun g hg hf => ?_)⟩; rcases ho.2.2 with ⟨hv, _⟩ | ⟨g', cap, cur, hv, _, hh, _⟩
    · rw [hv] at hg; cases hg
    · rw [hv] at hg; have : g' = g := by simpa [Value.ownBlock] using hg
      subst this; have hbk : Blk w g' 156 cur.toList := by unfold Blk; rw [hh]
      obtain ⟨n1, n2⟩ := h.notBool hbk dcd; rcases tF _ _ _ hf hbk with q1 | q1 | q1
      · exact m2 (List.mem_cons_of_mem _ q1)
      · exact n1 q1
      · exact n2 q1
theorem qb5.below (h : qb5 w base q D) (hb : Below w.heap.size w w') : qb5 w' base q D := by
  obtain ⟨A, c, ck, ci, h⟩ := h; exact ⟨A, c, ck, ci, h.below hb⟩
end
structure Both (w : World) (base : Nat) (p : qe3) (q : qf0) (D : qa3) : Prop where
  d : qc4 w base p D
  r : qb5 w base q D
  n1 : q.gi ≠ p.gi
  n2 : q.gi ≠ p.gm
section
variable {w w' : World} {base : Nat} {q : qf0} {D : qa3}
theorem r_write (h : qb5 w base q D) (hs : base ≤ w.heap.size) (n : Int) (B : Option Addr) (d : Nat) (b : List UInt8) (hb : b.length = 128) (hr : RB w B 128 b) (hw : D.waits.length < 1000000) :
    Calls Tryz.prog 215 #[.pointer (some ⟨q.d, 0, none⟩), .int .i64 n, .slice B 128 d] w fun e w' => e = .returned (.int .i64 (qm8 D n b).2) ∧ qb5 w' base q (qm8 D n b).1 ∧ qd4 base q w w' := by
  obtain ⟨A, c, ck, ci, h⟩ := h; exact (rwrite_any h hs n B d b hb hr hw).mono fun e w' ⟨h1, A', c', h2, k⟩ => ⟨h1, ⟨A', c', ck, ci, h2⟩, qd4.of_keep h hs k⟩
theorem qz4 (h : qb5 w base q D) (hs : base ≤ w.heap.size) : Calls Tryz.prog 155 #[.pointer (some ⟨q.d, 0, none⟩)] w fun e w' => e = .returned (.int .i64 (qc1 D).2) ∧ qb5 w' base q (qc1 D).1 ∧ qd4 base q w w' := by
  obtain ⟨A, c, ck, ci, h⟩ := h; exact (rflush_any h).mono fun e w' ⟨h1, A', c', h2, k⟩ => ⟨h1, ⟨A', c', ck, ci, h2⟩, qd4.of_keep h hs k⟩
theorem r_crash (h : qb5 w base q D) (hs : base ≤ w.heap.size) (B : Option Addr) (n d : Nat) (cs : List UInt8) (hr : RB w B n cs) (hB : 0 < n → ∀ g, B.map (·.block) = some g → g < base) (hn : n ≤ maxLen) :
    Calls Tryz.prog 24 #[.pointer (some ⟨q.d, 0, none⟩), .slice B n d] w fun e w' => e = .returned (.tuple #[]) ∧ qb5 w' base q (qr4 D cs) ∧ qd4 base q w w' := by
  obtain ⟨A, c, ck, ci, h⟩ := h; exact (rcrash_any h hs B n d cs hr hB hn).mono fun e w' ⟨h1, A', c', h2, k⟩ => ⟨h1, ⟨A', c', ck, ci, h2⟩, qd4.of_keep h hs k⟩
theorem r_cut (h : qb5 w base q D) (hs : base ≤ w.heap.size) (n : Int) (hn : n ≤ 9223372036854775807) : Calls Tryz.prog 22 #[.pointer (some ⟨q.d, 0, none⟩), .int .i64 n] w fun e w' => e = .returned (.tuple #[]) ∧ qb5 w' base q { D with cut := max n (-1) } ∧ qd4 base q w w' := by
  obtain ⟨A, c, ck, ci, h⟩ := h; exact (rcut_any h n hn).mono fun e w' ⟨h1, h2, k⟩ => ⟨h1, ⟨A, c, ck, ci, h2⟩, qd4.of_keep h hs (k.mono (fun g _ e => by rcases e with e | e; exact .inl e; exact .inr (.inr (.inr (.inl e)))))⟩
theorem r_read (h : qb5 w base q D) (hs : base ≤ w.heap.size) (n : Int) : Calls Tryz.prog 232 #[.pointer (some ⟨q.d, 0, none⟩), .int .i64 n] w fun e w' => ∃ x : SlV, e = .returned (.tuple #[slV x, .int .i64 (qn3 D n).2.2]) ∧ (mayV D n ≠ 0 → x = ⟨none, 0, 0⟩) ∧ (mayV D n = 0 → vb6 x ∧ qb8 w' base x (qc7 D.now n)) ∧ qb5 w' base q (qn3 D n).1 ∧ qd4 base q w w' := by
  obtain ⟨A, c, ck, ci, h⟩ := h; unfold qn3
  by_cases hm : mayV D n = 0
  · rw [if_neg omg]; obtain ⟨ho, h0, h1⟩ := qp4 hm; obtain ⟨k, rfl⟩ : ∃ k : Nat, n = (k : Int) := ⟨n.toNat, omg⟩; exact (rread_yes h k ho omg).mono fun e w' ⟨x, h1, h2, h3, h4, k⟩ => ⟨x, h1, fun e => absurd hm e, fun _ => ⟨h2, h3⟩, ⟨A, c, ck, ci, h4⟩, qd4.of_keep h hs (k.mono (fun g _ e => by rcases e with e | e; exact .inl e; exact .inr (.inr (.inr (.inl e)))))⟩
  · rw [if_pos hm]; exact (rread_no h n hm).mono fun e w' ⟨h1, h2⟩ => by subst h2; exact ⟨⟨none, 0, 0⟩, h1, fun _ => rfl, fun e => absurd e hm, ⟨A, c, ck, ci, h⟩, qd4.refl _ _ _⟩
theorem r_image (h : qb5 w base q D) (hs : base ≤ w.heap.size) : Calls Tryz.prog 28 #[.pointer (some ⟨q.d, 0, none⟩)] w fun e w' => ∃ B N d, e = .returned (.slice B N d) ∧ OB w' w.heap.size 5 B N d D.kept ∧ Below w.heap.size w w' := by
  obtain ⟨A, c, ck, ci, h⟩ := h; exact rimage_any h
theorem r_read_yes (h : qb5 w base q D) (hs : base ≤ w.heap.size) (n : Int) (hm : mayV D n = 0) : Calls Tryz.prog 232 #[.pointer (some ⟨q.d, 0, none⟩), .int .i64 n] w fun e w' => ∃ ya yc, e = .returned (.tuple #[.slice ya 128 yc, .int .i64 0]) ∧ 128 ≤ yc ∧ yc ≤ maxLen ∧ qb8 w' base ⟨ya, 128, yc⟩ (qc7 D.now n) ∧ qb5 w' base q (qt1 D) ∧ qd4 base q w w' := by
  have := r_read h hs n; unfold qn3 at this; rw [if_neg omg] at this; exact this.mono fun e w' ⟨⟨ya, yn, yc⟩, h1, _, h3, h4, h5⟩ => by
    obtain ⟨⟨e1, e2, e3⟩, hb⟩ := h3 hm; simp only at e1 e2 e3; subst e1; exact ⟨ya, yc, h1, e2, e3, hb, h4, h5⟩
theorem r_read_no (h : qb5 w base q D) (hs : base ≤ w.heap.size) (n : Int) (hm : mayV D n ≠ 0) : Calls Tryz.prog 232 #[.pointer (some ⟨q.d, 0, none⟩), .int .i64 n] w fun e w' => e = .returned (.tuple #[.slice none 0 0, .int .i64 (mayV D n)]) ∧ qb5 w' base q D ∧ qd4 base q w w' := by
  have := r_read h hs n; unfold qn3 at this; rw [if_pos hm] at this; exact this.mono fun e w' ⟨y, h1, h2, _, h4, h5⟩ => by
    have := h2 hm; subst this; exact ⟨h1, h4, h5⟩
end
theorem qu9 (x : Nat) (h : x < 4294967296) : 4294967295 - x = 4294967295 ^^^ x := by
  have h1 := u32_not x h; have h2 := u32_xor 4294967295 x (by omega) h; have h3 : (IntKind.u32.max) = ((4294967295 : Nat) : Int) := by decide
  rw [h3, h2] at h1; omega
theorem crcMore_xor (s : Nat) (hs : s < 4294967296) (l : List UInt8) : qp9 s l = 4294967295 ^^^ qm7 (4294967295 ^^^ s) l := by
  unfold qp9; rw [qu9 s hs, qu9 _ (vi7 l (qq7 (by omega) hs))]
theorem crcSum_one (l : List UInt8) : qh4 [l] = 4294967295 ^^^ qm7 4294967295 l := by
  have := crcMore_xor 0 (by omega) l; simpa [qh4] using this
/-! ### What was turned within four bytes is told -/
theorem bit_ones : ∀ i, i < 32 → bit 4294967295 i = 1 := by decide
def dig (k : Nat) : Nat := [0, 2, 3, 8, 8, 11, 13, 14].getD k 0
theorem dig_bit : ∀ k, k < 8 → ∀ j, j < 4 → bit 3988292384 (4 * k + j) = dig k / 2 ^ j % 2 := by decide
theorem turn_any (w : World) : Calls Tryz.prog 274 #[] w fun e w' => ∃ A c, e = .returned (.slice A 32 c) ∧ Ow iv w' w.heap.size 3 A 32 c (tab 32 (bit 3988292384)) ∧ Below w.heap.size w w' := by
  go_enter Tryz.func274, Tryz.ntmps274; go_wp2; have hx := qb7 w (Obj.cells #[.int .i64 14, .int .i64 13, .int .i64 11, .int .i64 8, .int .i64 8, .int .i64 3, .int .i64 2, .int .i64 0] 3) rfl; have hb0 : Below w.heap.size w (w.alloc (Obj.cells #[.int .i64 14, .int .i64 13, .int .i64 11, .int .i64 8, .int .i64 8, .int .i64 3, .int .i64 2, .int .i64 0] 3)) := gwn; have hlt : w.heap.size < (w.alloc (Obj.cells #[.int .i64 14, .int .i64 13, .int .i64 11, .int .i64 8, .int .i64 8, .int .i64 3, .int .i64 2, .int .i64 0] 3)).heap.size := by simp
  generalize w.alloc (Obj.cells #[.int .i64 14, .int .i64 13, .int .i64 11, .int .i64 8, .int .i64 8, .int .i64 3, .int .i64 2, .int .i64 0] 3) = w0 at *; have hcell : ∀ k, k < 8 → Hid (w0.cell? ⟨w.heap.size, 7 - k, none⟩ = some (.int .i64 (dig k : Nat))) := by
    intro k hk
    show w0.cell? ⟨w.heap.size, 7 - k, none⟩ = some (.int .i64 (dig k : Nat))
    rw [cell_of_row w0 w.heap.size (7 - k) _ _ _ hx]; rcases (by omega : k = 0 ∨ k = 1 ∨ k = 2 ∨ k = 3 ∨ k = 4 ∨ k = 5 ∨ k = 6 ∨ k = 7) with rfl | rfl | rfl | rfl | rfl | rfl | rfl | rfl <;> rfl
  have hws := hb0.size; go_loopw [2, 3] (fun v i wr => ∃ k A c, k ≤ 8 ∧ i = .int .i64 (7 - (k : Nat)) ∧ v = .slice A (4 * k) c ∧ Ow iv wr w0.heap.size 3 A (4 * k) c (tab (4 * k) (bit 3988292384)) ∧ Below w0.heap.size w0 wr) (fun _ i _ => (intOf i + 1).toNat)
  case atStart => exact ⟨0, none, 0, omg, rfl, rfl, Ow.nil _ _ _ _, Below.refl _ _⟩
  case round =>
    obtain ⟨k, A, c, hk, rfl, rfl, hown, hb⟩ := hrel
    by_cases hk8 : k < 8
    · have hc := (hb.cell (p := ⟨w.heap.size, 7 - k, none⟩) hlt).trans (hcell k hk8).out; clear hcell hx; have hd := hdd (dig_bit k hk8); have hd0 : dig k ≤ 15 := by
        rcases (by omega : k = 0 ∨ k = 1 ∨ k = 2 ∨ k = 3 ∨ k = 4 ∨ k = 5 ∨ k = 6 ∨ k = 7) with rfl | rfl | rfl | rfl | rfl | rfl | rfl | rfl <;> decide
      generalize dig k = d at *; go_wp2; obtain ⟨wo, rfl⟩ : ∃ wo : World, wo = wr := ⟨_, rfl⟩; go_loopw [2, 4, 5] (fun v n j wi => ∃ m e A c, m ≤ 4 ∧ j = .int .i64 (m : Nat) ∧ Hid (e = d / 2 ^ m) ∧ e ≤ 15 ∧ n = .int .i64 (e : Nat) ∧ v = .slice A (4 * k + m) c ∧ Ow iv wi w0.heap.size 3 A (4 * k + m) c (tab (4 * k + m) (bit 3988292384)) ∧ Below w0.heap.size w0 wi) (fun _ _ j _ => 4 - (intOf j).toNat)
      case atStart => exact ⟨0, d, A, c, omg, rfl, by show d = d / 2 ^ 0; omega, hd0, rfl, rfl, hown, hb⟩
      case round =>
        obtain ⟨m, e, A, c, hm, rfl, he, he15, rfl, rfl, hown, hb⟩ := hrel; have hbs := hb.size
        by_cases hm4 : m < 4
        · have hL : Hid (tab (4 * k + m) (bit 3988292384) ++ [((e : Nat) : Int) % 2] = tab (4 * k + (m + 1)) (bit 3988292384)) := by
            show _ = tab (4 * k + m + 1) _
            rw [← qu8, hd.out m hm4, ← he.out]; rfl
          have he2 : Hid (e / 2 = d / 2 ^ (m + 1)) := by
            show e / 2 = _
            rw [he.out, Nat.div_div_eq_div_mul, Nat.pow_succ]
          go_wp2_with (at_builtin; refine qa6 rfl rfl qk5 qr8 (s := .tmp 19) (N := 4 * k + (m + 1)) (L := tab (4 * k + (m + 1)) (bit 3988292384)) rfl (hown.below (b := wr.heap.size) gwn szz) rfl (k := [((e : Nat) : Int) % 2]) (Rd.of_block (l := [((e : Nat) : Int) % 2]) (qb7 _ _ smp) rfl) rfl (hL.out) uml omg szz ?_; intro A5 c5 w5 hown5 hg5 hat5 hb5); replace hb5 := qa0 (a := w0) (B := w0.heap.size) gwn hb5 szz; have hb5s := hb5.size; exact ⟨⟨_, _, _, ⟨m + 1, omg, by go_num, e / 2, he2, omg, by go_num, A5, c5, rfl, hown5, hb5⟩, rfl, rfl, rfl⟩, by simp [intOf]; omega⟩
        · have hm5 : m = 4 := omg; subst hm5; go_wp2; go_roundw
          case rel => exact ⟨k + 1, A, c, omg, by go_num, rfl, hown, hb⟩
          case measure => simp [intOf]; omega
    · have hk9 : k = 8 := omg; subst hk9; go_wp2; go_ret; exact ⟨A, c, rfl, hown.rebase hws, qa0 hb0 hb hws⟩
theorem bits_any (A : Option Addr) (n d : Nat) (l : List UInt8) (w : World) (hl : RB w A n l) (hn : n ≤ maxLen) :
    Calls Tryz.prog 258 #[.slice A n d] w fun e w' => ∃ B c, e = .returned (.slice B 32 c) ∧ Ow iv w' w.heap.size 3 B 32 c (tab 32 (bit (qh4 [l]))) ∧ Below w.heap.size w w' := by
  unfold maxLen at hn; have hlen := hdd hl.1; generalize hzz : qh4 [l] = zz; have Hz := hdd hzz; clear hzz; go_enter Tryz.func258, Tryz.ntmps258; go_wp2_with (go_at_call 274; (with_reducible refine (turn_any _).mono ?_); rintro e w1 ⟨At, ct, rfl, hownt, hb1⟩); have hb1s := hb1.size; obtain ⟨gt, rfl, _, hgt⟩ := hownt.addr omg; have ht : ∀ k, k < 32 → w1.cell? ⟨gt, k, none⟩ = some (.int .i64 (bit 3988292384 k : Nat)) := fun k hk => hownt.tab_cell hk
  have Ht := hdd ht; clear ht hownt; have hl1 := hl.below hb1 nlr; go_loopw [4, 5] (fun v i wr => ∃ k A c, k ≤ 32 ∧ i = .int .i64 (k : Nat) ∧ v = .slice A k c ∧ Ow iv wr w1.heap.size 3 A k c (tab k (fun _ => 1)) ∧ Below w1.heap.size w1 wr) (fun _ i _ => 32 - (intOf i).toNat)
  case atStart => exact ⟨0, none, 0, omg, rfl, rfl, Ow.nil _ _ _ _, Below.refl _ _⟩
  case round =>
    obtain ⟨k, A2, c, hk, rfl, rfl, hown, hb⟩ := hrel; have hbs := hb.size
    by_cases hk32 : k < 32
    · go_wp2_with (at_builtin; refine qa6 rfl rfl qk5 qr8 (s := .tmp 19) (N := k + 1) (L := tab (k + 1) (fun _ => 1)) rfl (hown.below (b := wr.heap.size) gwn szz) rfl (k := [1]) (Rd.of_block (l := [1]) (qb7 _ _ smp) rfl) rfl ((by simpa using qu8 k (fun _ => 1))) uml omg szz ?_; intro A5 c5 w5 hown5 hg5 hat5 hb5); replace hb5 := qa0 (a := w1) (B := w1.heap.size) gwn hb5 szz; have hb5s := hb5.size; go_roundw
      case rel => exact ⟨k + 1, A5, c5, omg, by go_num, rfl, hown5, hb5⟩
      case measure => simp [intOf]; omega
    · have hk9 : k = 32 := omg; subst hk9; obtain ⟨g, rfl, hgb, _⟩ := hown.addr omg; have hown : Ow iv wr w1.heap.size 3 (some ⟨g, 0, none⟩) 32 c (tab 32 (bit 4294967295)) := by
        rw [ql9 (g := bit 4294967295)] at hown
        · exact hown
        · decide
      obtain ⟨w2, rfl⟩ : ∃ w2 : World, w2 = wr := ⟨_, rfl⟩; go_wp2; go_loopw [6] (fun i wr => ∃ j x, j ≤ n ∧ i = .int .i64 (j : Nat) ∧ Hid (x = qm7 4294967295 (l.take j)) ∧ x < 4294967296 ∧ Ow iv wr w1.heap.size 3 (some ⟨g, 0, none⟩) 32 c (tab 32 (bit x)) ∧ Below w1.heap.size w1 wr) (fun i _ => n - (intOf i).toNat)
      case atStart => exact ⟨0, 4294967295, Nat.zero_le _, rfl, rfl, omg, hown, hb⟩
      case round =>
        obtain ⟨j, x, hj, rfl, hX, hx, hown, hb⟩ := hrel
        by_cases hjn : j < n
        · have hF : Hid (qm7 4294967295 (l.take (j + 1)) = qo9 x (qa2 l j)) := by
            show _ = _
            rw [qr5 l j (by rw [hlen.out]; exact hjn), vb5, ← hX.out]; rfl
          obtain ⟨b0, o0, rfl, hb0, hc0⟩ := hl1.at_ hjn; have hc0 := (hb.cell (p := ⟨b0, o0 + j, none⟩) hb0).trans hc0; have hby := qf9 l j; have hy0 := va1 hx hby; generalize qa2 l j = by_ at *; go_wp2; obtain ⟨w3, rfl⟩ : ∃ w3 : World, w3 = wr := ⟨_, rfl⟩; go_loopw [7, 8] (fun nn kk wr => ∃ m e, m ≤ 8 ∧ kk = .int .i64 (m : Nat) ∧ nn = .int .i64 (e : Nat) ∧ Hid (e = by_ / 2 ^ m) ∧ e ≤ 255 ∧ Ow iv wr w1.heap.size 3 (some ⟨g, 0, none⟩) 32 c (tab 32 (fun i => if i < m then (bit x i + bit by_ i) % 2 else bit x i)) ∧ Below w1.heap.size w1 wr) (fun _ kk _ => 8 - (intOf kk).toNat)
          case atStart => exact ⟨0, by_, omg, rfl, rfl, by show by_ = by_ / 2 ^ 0; omega, omg, by simpa using hown, hb⟩
          case round =>
            obtain ⟨m, e, hm, rfl, rfl, he, he255, hown, hb⟩ := hrel; have hbs := hb.size
            by_cases hm8 : m < 8
            · have hcell := hown.tab_cell (k := m) omg; simp only [Nat.lt_irrefl, if_false] at hcell; have hfree := hown.free m; have hbit : Hid (bit by_ m = e % 2) := by show _ = _; rw [he.out]; rfl
              have hset := fun u hu => hdd (hown.tab_set (f' := fun i => if i < m + 1 then (bit x i + bit by_ i) % 2 else bit x i) m ((bit x m + e % 2) % 2) u omg hu (fun i hi => by
                by_cases h1 : i = m
                · subst h1; simp [hbit.out]
                · by_cases h2 : i < m
                  · simp [h1, h2, Nat.lt_succ_of_lt h2]
                  · simp [h1, h2, show ¬ i < m + 1 from by omega]))
              have he2 : Hid (e / 2 = by_ / 2 ^ (m + 1)) := by
                show e / 2 = _
                rw [he.out, Nat.div_div_eq_div_mul, Nat.pow_succ]
              have hy := qp7 x m; generalize hgy : bit x m = y at hcell hy hset; clear hgy hbit hown hc0; go_wp2; go_roundw
              case rel => exact ⟨m + 1, e / 2, omg, by go_num, by go_num, he2, omg, (hset _ (by first | rfl | (congr 1; omega))).out, gwn⟩
              case measure => simp [intOf]; omega
            · have hm9 : m = 8 := omg; subst hm9; have hown : Ow iv wr w1.heap.size 3 (some ⟨g, 0, none⟩) 32 c (tab 32 (bit (x ^^^ by_))) := by
                rw [ql9 (g := bit (x ^^^ by_))] at hown
                · exact hown
                · intro i _; rw [vf1]
                  by_cases h8 : i < 8
                  · simp [h8]
                  · have hx1 := qp7 x i; rw [qy9 (x := by_) (n := 8) hby omg]; simp [h8]; omega
              have hX2 : Hid (qr1 (8 - 0) (x ^^^ by_) = qo9 x by_) := rfl; have hz : x ^^^ by_ < 4294967296 := qq7 hx omg; obtain ⟨w4, rfl⟩ : ∃ w4 : World, w4 = wr := ⟨_, rfl⟩; clear hc0 he; go_wp2; go_loopw [9] (fun rr wr => ∃ r y, r ≤ 8 ∧ rr = .int .i64 (r : Nat) ∧ Hid (qr1 (8 - r) y = qo9 x by_) ∧ y < 4294967296 ∧ Ow iv wr w1.heap.size 3 (some ⟨g, 0, none⟩) 32 c (tab 32 (bit y)) ∧ Below w1.heap.size w1 wr) (fun rr _ => 8 - (intOf rr).toNat)
              case atStart => exact ⟨0, _, omg, rfl, hX2, hz, hown, hb⟩
              case round =>
                obtain ⟨r, y, hr, rfl, hY, hy, hown, hb⟩ := hrel
                by_cases hr8 : r < 8
                · have hc0 := hown.tab_cell (k := 0) omg; go_wp2; obtain ⟨w5, rfl⟩ : ∃ w5 : World, w5 = wr := ⟨_, rfl⟩; have hb5 := hb; go_loopw [11] (fun kk wr => ∃ k, k ≤ 31 ∧ kk = .int .i64 (k : Nat) ∧ Ow iv wr w1.heap.size 3 (some ⟨g, 0, none⟩) 32 c (tab 32 (fun i => if i < k then bit y (i + 1) else bit y i)) ∧ Below w1.heap.size w1 wr) (fun kk _ => 31 - (intOf kk).toNat)
                  case atStart => exact ⟨0, omg, rfl, by simpa using hown, hb⟩
                  case round =>
                    obtain ⟨k, hk, rfl, hown, hb⟩ := hrel; have hbs := hb.size
                    by_cases hk31 : k < 31
                    · have hcell := hown.tab_cell (k := k + 1) omg; have hcell0 := hown.tab_cell (k := k) omg; simp only [show ¬ k + 1 < k from by omega, if_false, Nat.lt_irrefl] at hcell hcell0; have hfree := hown.free k; have hset := fun u hu => hdd (hown.tab_set (f' := fun i => if i < k + 1 then bit y (i + 1) else bit y i) k (bit y (k + 1)) u omg hu (fun i hi => by
                        by_cases h1 : i = k
                        · subst h1; simp
                        · by_cases h2 : i < k
                          · simp [h1, h2, Nat.lt_succ_of_lt h2]
                          · simp [h1, h2, show ¬ i < k + 1 from by omega]))
                      clear hown hc0; go_wp2; go_roundw
                      case rel => exact ⟨k + 1, omg, by go_num, (hset _ rfl).out, gwn⟩
                      case measure => simp [intOf]; omega
                    · have hk9 : k = 31 := omg; subst hk9; have hfree := hown.free 31; have hcell0 := hown.tab_cell (k := 31) omg; have hset := fun u hu => hdd (hown.tab_set (f' := bit (y / 2)) 31 0 u omg hu (fun i hi => by
                        rw [bit_half]
                        by_cases h1 : i = 31
                        · subst h1; rw [if_pos rfl, qy9 (n := 32) hy omg]
                        · simp [h1, show i < 31 from by omega]))
                      have hy2 : Hid (bit y 0 = y % 2) := by show y / 2 ^ 0 % 2 = _; omega
                      have hb0 := qp7 y 0; generalize hgo : bit y 0 = out at *; clear hc0 hown; go_wp2; have hown := (hset (.int .i64 0) rfl).out; have hb : Below w1.heap.size w1 (wr.setCell ⟨g, 31, none⟩ (.int .i64 0)) := gwn; clear hset hfree hcell0 hb5; generalize wr.setCell ⟨g, 31, none⟩ (.int .i64 0) = w6 at *
                      by_cases ho : out = 1
                      · have hcb : Hid (qo4 y = y / 2 ^^^ 3988292384) := by
                          show qo4 y = _
                          unfold qo4; rw [if_pos (by rw [← hy2.out]; exact ho)]
                        have ho2 : (((out : Nat) : Int) == 1) = true := by rw [ho]; rfl
                        clear hgo hy2; go_loopw [12] (fun kk wr => ∃ k, k ≤ 32 ∧ kk = .int .i64 (k : Nat) ∧ Ow iv wr w1.heap.size 3 (some ⟨g, 0, none⟩) 32 c (tab 32 (fun i => if i < k then (bit (y / 2) i + bit 3988292384 i) % 2 else bit (y / 2) i)) ∧ Below w1.heap.size w1 wr) (fun kk _ => 32 - (intOf kk).toNat)
                        case atStart => exact ⟨0, omg, rfl, by simpa using hown, hb⟩
                        case round =>
                          obtain ⟨k, hk, rfl, hown, hb⟩ := hrel; have hbs := hb.size
                          by_cases hk32 : k < 32
                          · have hcell := hown.tab_cell (k := k) omg; simp only [if_false, Nat.lt_irrefl] at hcell; have hct := (hb.cell (p := ⟨gt, k, none⟩) hgt).trans (Ht.out k hk32); have hfree := hown.free k; have hset := fun u hu => hdd (hown.tab_set (f' := fun i => if i < k + 1 then (bit (y / 2) i + bit 3988292384 i) % 2 else bit (y / 2) i) k ((bit (y / 2) k + bit 3988292384 k) % 2) u omg hu (fun i hi => by
                              by_cases h1 : i = k
                              · subst h1; simp
                              · by_cases h2 : i < k
                                · simp [h1, h2, Nat.lt_succ_of_lt h2]
                                · simp [h1, h2, show ¬ i < k + 1 from by omega]))
                            have hk32' : ((k : Nat) : Int) < 32 := omg; have l1 := qp7 (y / 2) k; have l2 := qp7 3988292384 k; generalize bit (y / 2) k = p at hcell hset l1; generalize bit 3988292384 k = q at hct hset l2; clear hown; go_wp2; refine qb6 13 (by kernel_rfl) (by kernel_rfl) ?_; simp only [List.take_succ_cons, List.take_zero, List.drop_succ_cons, List.drop_zero]
                            repeat (go_big_quiet_step (fail))
                            refine wpQuiet_nil ?_; go_wp2; go_roundw
                            case rel => exact ⟨k + 1, omg, by go_num, (hset _ (by first | rfl | (congr 1; omega))).out.drew', gwn⟩
                            case measure => simp [intOf]; omega
                          · have hk9 : k = 32 := omg; subst hk9; have hown : Ow iv wr w1.heap.size 3 (some ⟨g, 0, none⟩) 32 c (tab 32 (bit (qo4 y))) := by
                              rw [ql9 (g := bit (qo4 y))] at hown
                              · exact hown
                              · intro i hi; rw [hcb.out, vf1]; simp [hi]
                            have hy1 := qy5 hy; have hY2 : Hid (qr1 (8 - (r + 1)) (qo4 y) = qo9 x by_) := by
                              show _ = _
                              rw [← hY.out, show 8 - r = (8 - (r + 1)) + 1 from by omega]; rfl
                            go_wp2; go_roundw
                            case rel => exact ⟨r + 1, qo4 y, omg, by go_num, hY2, hy1, hown, hb⟩
                            case measure => simp [intOf]; omega
                      · have hcb : Hid (qo4 y = y / 2) := by
                          show qo4 y = _
                          unfold qo4; rw [if_neg (by rw [← hy2.out]; exact ho)]
                        have ho2 : (((out : Nat) : Int) == 1) = false := by rw [beq_eq_false_iff_ne]; omega
                        clear hgo hy2; go_loopw [12] (fun kk wr => kk = .int .i64 0 ∧ Ow iv wr w1.heap.size 3 (some ⟨g, 0, none⟩) 32 c (tab 32 (bit (y / 2))) ∧ Below w1.heap.size w1 wr) (fun kk _ => 0)
                        case atStart => exact ⟨rfl, hown, hb⟩
                        case round =>
                          obtain ⟨rfl, hown, hb⟩ := hrel; have hy1 := qy5 hy; rw [← hcb.out] at hown; have hY2 : Hid (qr1 (8 - (r + 1)) (qo4 y) = qo9 x by_) := by
                            show _ = _
                            rw [← hY.out, show 8 - r = (8 - (r + 1)) + 1 from by omega]; rfl
                          go_wp2; go_roundw
                          case rel => exact ⟨r + 1, qo4 y, omg, by go_num, hY2, hy1, hown, hb⟩
                          case measure => simp [intOf]; omega
                · have hr9 : r = 8 := omg; subst hr9; have hX3 : Hid (y = qm7 4294967295 (l.take (j + 1))) := by
                    show y = _
                    rw [hF.out, ← hY.out]; rfl
                  go_wp2; go_roundw
                  case rel => exact ⟨j + 1, y, omg, by go_num, hX3, hy, hown, hb⟩
                  case measure => simp [intOf]; omega
        · have hX3 : Hid (zz = 4294967295 - x) := by
            show _ = _
            rw [← Hz.out, crcSum_one, hX.out, List.take_of_length_le (by rw [hlen.out]; omega), qu9]; exact vi7 _ omg
          clear hl1 hl hX Ht; go_wp2; go_loopw [13] (fun kk wr => ∃ k, k ≤ 32 ∧ kk = .int .i64 (k : Nat) ∧ Ow iv wr w1.heap.size 3 (some ⟨g, 0, none⟩) 32 c (tab 32 (fun i => if i < k then 1 - bit x i else bit x i)) ∧ Below w1.heap.size w1 wr) (fun kk _ => 32 - (intOf kk).toNat)
          case atStart => exact ⟨0, omg, rfl, by simpa using hown, hb⟩
          case round =>
            obtain ⟨k, hk, rfl, hown, hb⟩ := hrel; have hbs := hb.size
            by_cases hk32 : k < 32
            · have hcell := hown.tab_cell (k := k) omg; simp only [if_false, Nat.lt_irrefl] at hcell; have hfree := hown.free k; have l1 := qp7 x k; have hset := fun u hu => hdd (hown.tab_set (f' := fun i => if i < k + 1 then 1 - bit x i else bit x i) k (1 - bit x k) u omg hu (fun i hi => by
                by_cases h1 : i = k
                · subst h1; simp
                · by_cases h2 : i < k
                  · simp [h1, h2, Nat.lt_succ_of_lt h2]
                  · simp [h1, h2, show ¬ i < k + 1 from by omega]))
              generalize bit x k = p at hcell hset l1; clear hown; go_wp2; go_roundw
              case rel => exact ⟨k + 1, omg, by go_num, (hset _ (by first | rfl | (congr 1; omega))).out, gwn⟩
              case measure => simp [intOf]; omega
            · have hk9 : k = 32 := omg; subst hk9; have hown : Ow iv wr w1.heap.size 3 (some ⟨g, 0, none⟩) 32 c (tab 32 (bit (4294967295 - x))) := by
                rw [ql9 (g := bit (4294967295 - x))] at hown
                · exact hown
                · intro i hi; rw [qu9 x hx, vf1, bit_ones i hi]; have := qp7 x i; simp [hi]; omega
              go_wp2; go_ret; rw [hX3.out]; exact ⟨_, c, rfl, hown.rebase hb1s, qa0 hb1 hb hb1s⟩
theorem sum_ref (A : Option Addr) (n d : Nat) (l : List UInt8) (w : World) (hl : RB w A n l) (hn : n ≤ maxLen) :
    Calls Tryz.prog 218 #[.slice A n d] w fun e w' => e = .returned (.int .i64 (qh4 [l] : Nat)) ∧ Below w.heap.size w w' := by
  have hx := qr9 [l]; have hb := fun w => bits_any A n d l w
  generalize qh4 [l] = x at *; go_enter Tryz.func218, Tryz.ntmps218; go_wp2_with (go_at_call 258; (with_reducible refine (hb _ hl hn).mono ?_); rintro e w1 ⟨B, c, rfl, hown, hb1⟩); obtain ⟨g, rfl, hgb, _⟩ := hown.addr omg; clear hb; go_loopw [4, 5] (fun nn kk wr => ∃ k y, k ≤ 32 ∧ kk = .int .i64 (31 - (k : Nat)) ∧ nn = .int .i64 (y : Nat) ∧ Hid (y = x / 2 ^ (32 - k)) ∧ y < 4294967296 ∧ wr = w1) (fun _ kk _ => (intOf kk + 1).toNat)
  case atStart => exact ⟨0, 0, omg, rfl, rfl, by show 0 = _; omega, omg, rfl⟩
  case round =>
    obtain ⟨k, y, hk, rfl, rfl, hy, hy2, rfl⟩ := hrel
    by_cases hk32 : k < 32
    · have hcell := hown.tab_cell (k := 31 - k) omg; have hbl := qp7 x (31 - k); have hy3 : Hid (2 * y + bit x (31 - k) = x / 2 ^ (32 - (k + 1))) := by
        show _ = _
        have e : 32 - k = (31 - k) + 1 := omg; rw [hy.out, e, show 32 - (k + 1) = 31 - k from by omega, Nat.pow_succ, ← Nat.div_div_eq_div_mul]; unfold bit; omega
      have hy4 : Hid (2 * y + bit x (31 - k) < 4294967296) := by
        show _ < _
        rw [hy3.out]; exact Nat.lt_of_le_of_lt (Nat.div_le_self _ _) hx
      generalize bit x (31 - k) = q at *; go_wp2; go_roundw
      case rel => exact ⟨k + 1, _, omg, by go_num, by go_num, hy3, hy4.out, trivial⟩
      case measure => simp [intOf]; omega
    · have hk9 : k = 32 := omg; subst hk9; go_wp2; go_ret; refine ⟨ret_nat ?_, hb1⟩; rw [hy.out]; simp
end Go.Proofs.YtpmkpckldnnigaaGreat
