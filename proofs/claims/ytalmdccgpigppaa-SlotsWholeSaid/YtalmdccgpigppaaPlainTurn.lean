/- Slots, plain, where the power stays: what saving leaves. -/
import Derived.Test.YtalmdccgpigppaaSlotA
import Derived.Test.YtalmdccgpigppaaPlainArea
namespace Go.Proofs.Ytalmdccgpigppaa
open Go.RowKit
set_option linter.unusedVariables false
set_option linter.unusedSimpArgs false
theorem calm_write {D : DiskV} (h : Calm D) {f m n : Nat} (hfm : f + m ≤ D.many) (hn : n < m) {b : List UInt8} (hb : b.length = 128) (hw : D.waits.length < 1000000) :
    (aWriteV D f m (n : Int) b).2 = 0 ∧ Calm (aWriteV D f m (n : Int) b).1 ∧ (aWriteV D f m (n : Int) b).1.many = D.many ∧ (aWriteV D f m (n : Int) b).1.waits.length ≤ D.waits.length + 1 ∧ ∀ k : Nat, k < D.many → secOf (aWriteV D f m (n : Int) b).1.now (k : Int) = if k = f + n then b else secOf D.now (k : Int) := by
  unfold aWriteV
  rw [if_neg (by omega)]
  obtain ⟨h1, h2, h3⟩ := h.write ((f : Int) + n) hb hw
  refine ⟨?_, h1, h2, h3, fun k hk => ?_⟩
  · rw [h.write_in (by omega) (by omega)]
  · rw [h.write_now hb hk]
    by_cases e : k = f + n
    · rw [if_pos (by omega), if_pos e]
    · rw [if_neg (by omega), if_neg e]
theorem calm_flush {D : DiskV} (h : Calm D) : (flushV D).2 = 0 ∧ Calm (flushV D).1 ∧ (flushV D).1.many = D.many ∧ (flushV D).1.waits = [] ∧ (flushV D).1.now = D.now := by
  obtain ⟨h1, h2⟩ := h.flush
  rw [h1]
  refine ⟨rfl, h2, ?_, ?_, ?_⟩
  · rw [h.goes]; rfl
  · rw [h.goes]; rfl
  · rw [h.goes]; rfl
theorem calm_fill {f m : Nat} {load : List UInt8} : ∀ (k i : Nat) {D : DiskV}, Calm D → f + m ≤ D.many → i + k + 1 ≤ m → D.waits.length + k < 1000000 →
    (fillK D f m load i k).2 = 0 ∧ Calm (fillK D f m load i k).1 ∧ (fillK D f m load i k).1.many = D.many ∧ (fillK D f m load i k).1.waits.length ≤ D.waits.length + k ∧ ∀ j : Nat, j < D.many → (j ≤ f ∨ f + m ≤ j) → secOf (fillK D f m load i k).1.now (j : Int) = secOf D.now (j : Int) := by
  intro k
  induction k with
  | zero => intro i D h hfm hi hw; exact ⟨rfl, h, rfl, Nat.le_refl _, fun _ _ _ => rfl⟩
  | succ k ih =>
    intro i D h hfm hi hw
    obtain ⟨a1, a2, a3, a4, a5⟩ := calm_write h hfm (n := 1 + i) (by omega) (padL_len load i) (by omega)
    rw [fillK_go a1]
    obtain ⟨b1, b2, b3, b4, b5⟩ := ih (i + 1) (D := (aWriteV D f m ((1 + i : Nat) : Int) (padL load i)).1) a2 (by rw [a3]; exact hfm) (by omega) (by omega)
    refine ⟨b1, b2, b3.trans a3, by omega, fun j hj hc => ?_⟩
    rw [b5 j (by rw [a3]; exact hj) hc, a5 j hj, if_neg (by omega)]
theorem headL_len (load : List UInt8) : (headL load).length = 12 := by unfold headL; rw [List.length_append, putL_len, sumL_len]
/-- Where the power stays a save goes well; the head is there; nothing else is changed. -/
theorem calm_save {D : DiskV} (h : Calm D) {f m : Nat} (hfm : f + m ≤ D.many) (hm : 5 ≤ m) (hw : D.waits.length < 900000) {number : Nat} (hn : number < 9223372036854775807) {load : List UInt8} (hl : load.length ≤ 512) :
    (saveA D f m (number : Int) load).2 = 0 ∧ Calm (saveA D f m (number : Int) load).1 ∧ (saveA D f m (number : Int) load).1.many = D.many ∧ (saveA D f m (number : Int) load).1.waits = [] ∧ secOf (saveA D f m (number : Int) load).1.now (f : Int) = sealL 2 number (headL load) ∧ ∀ j : Nat, j < D.many → (j < f ∨ f + m ≤ j) → secOf (saveA D f m (number : Int) load).1.now (j : Int) = secOf D.now (j : Int) := by
  have hk : secsN load.length ≤ 4 := by unfold secsN; omega
  obtain ⟨a1, a2, a3, a4, a5⟩ := calm_write h hfm (n := 0) (by omega) zerosL_len (by omega)
  rw [show ((0 : Nat) : Int) = 0 from rfl] at a1 a2 a3 a4 a5
  unfold saveA
  rw [if_neg (by rw [a1]; simp)]
  generalize (aWriteV D f m 0 zerosL).1 = D1 at *
  obtain ⟨b1, b2, b3, b4, b5⟩ := calm_flush a2
  rw [if_neg (by rw [b1]; simp)]
  generalize (flushV D1).1 = D2 at *
  obtain ⟨c1, c2, c3, c4, c5⟩ := calm_fill (f := f) (m := m) (load := load) (secsN load.length) 0 b2 (by rw [b3, a3]; exact hfm) (by omega) (by rw [b4]; simp; omega)
  have hfv : fillV D2 f m load = flushV (fillK D2 f m load 0 (secsN load.length)).1 := by unfold fillV; rw [if_neg (by rw [c1]; simp)]
  rw [hfv]
  generalize (fillK D2 f m load 0 (secsN load.length)).1 = D3 at *
  obtain ⟨d1, d2, d3, d4, d5⟩ := calm_flush c2
  rw [if_neg (by rw [d1]; simp)]
  generalize (flushV D3).1 = D4 at *
  have hmk : makeL 2 (number : Int) (headL load) = (sealL 2 number (headL load), 0) := by
    unfold makeL
    rw [if_neg (by omega), if_neg (by rw [headL_len]; omega)]
    simp
  have hpv : aPutV D4 f m 0 2 (number : Int) (headL load) = aWriteV D4 f m 0 (sealL 2 number (headL load)) := by
    unfold aPutV
    rw [hmk, if_neg (by simp)]
  rw [hpv]
  obtain ⟨e1, e2, e3, e4, e5⟩ := calm_write d2 (f := f) (m := m) (by rw [d3, c3, b3, a3]; exact hfm) (n := 0) (by omega) (sealL_len 2 number (headL load) (by rw [headL_len]; omega)) (by rw [d4]; simp)
  rw [show ((0 : Nat) : Int) = 0 from rfl] at e1 e2 e3 e4 e5
  rw [if_neg (by rw [e1]; simp)]
  generalize (aWriteV D4 f m 0 (sealL 2 number (headL load))).1 = D5 at *
  obtain ⟨g1, g2, g3, g4, g5⟩ := calm_flush e2
  have hall : D4.many = D.many := by rw [d3, c3, b3, a3]
  refine ⟨g1, g2, by rw [g3, e3, hall], g4, ?_, fun j hj hc => ?_⟩
  · rw [g5, e5 f (by rw [hall]; omega), if_pos (by omega)]
  · rw [g5, e5 j (by rw [hall]; exact hj), if_neg (by omega), d5, c5 j (by rw [b3, a3]; exact hj) (by omega), b5, a5 j hj, if_neg (by omega)]
end Go.Proofs.Ytalmdccgpigppaa
