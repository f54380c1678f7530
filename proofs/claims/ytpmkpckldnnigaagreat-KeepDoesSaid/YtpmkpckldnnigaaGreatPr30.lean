/- Parts: PlainCrash. -/
import Derived.Test.YtpmkpckldnnigaaGreatPr28
import Derived.Test.YtpmkpckldnnigaaGreatPr29
namespace Go.Proofs.YtpmkpckldnnigaaGreat
open Go.RowKit
set_option linter.unusedVariables false
set_option linter.unusedSimpArgs false
theorem headN_of {load : List UInt8} (hl : load.length ≤ 512) : headN (headL load) = (load.length : Int) ∧ (headL load).drop 8 = sumL load := by
  have h8 : (putL (un load.length)).length = 8 := putL_len _
  refine ⟨?_, ?_⟩
  · unfold headN headL
    rw [List.take_append_of_le_length (by omega), List.take_of_length_le (by omega), getL_putL _ (un_lt _), sg_un (by omega) (by omega)]
  · unfold headL
    rw [← h8, List.drop_left]
theorem padL_of {load : List UInt8} {i : Nat} (hi : i < secsN load.length) : padL load i = ((load ++ List.replicate (secsN load.length * 128 - load.length) 0).drop (i * 128)).take 128 := by
  have h1 : i * 128 < load.length := by unfold secsN at hi; omega
  have h2 : load.length ≤ secsN load.length * 128 := by unfold secsN; omega
  unfold padL
  rw [List.drop_append_of_le_length (by omega), List.take_append]
  congr 1
  rw [List.take_replicate, List.length_take, List.length_drop]
  congr 1
  omega
theorem bodyL_pads {now : List UInt8} {f : Nat} {load : List UInt8} (hb : ∀ i, i < secsN load.length → secOf now ((f + (1 + i) : Nat) : Int) = padL load i) : (bodyL now f (secsN load.length)).take load.length = load := by
  have h2 : load.length ≤ secsN load.length * 128 := by unfold secsN; omega
  have key : ∀ k, k ≤ secsN load.length → bodyL now f k = (load ++ List.replicate (secsN load.length * 128 - load.length) 0).take (k * 128) := by
    intro k
    induction k with
    | zero => intro _; rfl
    | succ k ih =>
      intro hk
      unfold bodyL
      rw [ih (by omega), hb k (by omega), padL_of (by omega), show (k + 1) * 128 = k * 128 + 128 by omega, List.take_add]
  have e : (load ++ List.replicate (secsN load.length * 128 - load.length) 0).take (secsN load.length * 128) = load ++ List.replicate (secsN load.length * 128 - load.length) 0 := List.take_of_length_le (by rw [List.length_append, List.length_replicate]; omega)
  rw [key _ (Nat.le_refl _), e, List.take_left]
/-- A slot that is whole. -/
theorem slot_of {D : DiskV} (hoff : D.off = false) {f n : Nat} (hf : f + 6 ≤ D.many) {load : List UInt8} (hl : load.length ≤ 512) (hn : n < 9223372036854775808) (h0 : secOf D.now (f : Int) = sealL 2 n (headL load))
    (hb : ∀ i, i < secsN load.length → secOf D.now ((f + (1 + i) : Nat) : Int) = padL load i) : (wholeV D f 6).2.1 = load ∧ (wholeV D f 6).2.2.1 = (n : Int) ∧ (wholeV D f 6).2.2.2 = 0 := by
  have hr : aReadV D f 6 0 = (readV' D, secOf D.now (f : Int), 0) := by
    have := onRead (D := D) (f := f) (m := 6) (k := 0) hoff hf (by omega)
    rw [Nat.add_zero] at this
    exact this
  have ht : aTakeV D f 6 0 2 = ((n : Int), headL load, 0) := by
    unfold aTakeV
    rw [hr, if_neg (by simp)]
    show openV (secOf D.now (f : Int)) 2 = _
    rw [h0]
    obtain ⟨h1, h2, h3⟩ := opens_seal (kind := 2) (n := n) (load := headL load) (by omega) (by omega) hn (by rw [headL_len]; omega)
    have e : (2 : Int).toNat = 2 := rfl
    rw [e] at h1 h2 h3
    unfold openV
    rw [if_pos h1, h2, h3]
    unfold sg
    rw [if_pos hn]
  obtain ⟨a1, a2⟩ := headN_of hl
  unfold wholeV
  rw [ht, if_neg (by simp), if_neg (by rw [headL_len]; simp)]
  simp only
  rw [a1, if_neg (by omega), Int.toNat_natCast, bodyL_pads hb, a2, if_pos rfl]
  exact ⟨rfl, rfl, rfl⟩
/-- A slot whose head is none. -/
theorem slot_not {D : DiskV} (hoff : D.off = false) {f : Nat} (hf : f + 6 ≤ D.many) (h0 : opens (secOf D.now (f : Int)) 2 = false) : (wholeV D f 6).2.2.2 = 53 := by
  have hr : aReadV D f 6 0 = (readV' D, secOf D.now (f : Int), 0) := by
    have := onRead (D := D) (f := f) (m := 6) (k := 0) hoff hf (by omega)
    rw [Nat.add_zero] at this
    exact this
  have ht : aTakeV D f 6 0 2 = (0, [], 53) := by
    unfold aTakeV
    rw [hr, if_neg (by simp)]
    show openV (secOf D.now (f : Int)) 2 = _
    unfold openV
    rw [h0, if_neg (by simp)]
  unfold wholeV
  rw [ht, if_pos (by simp)]
/-- What a slot has hangs on its sectors alone. -/
theorem slot_same {D E : DiskV} (h1 : D.off = false) (h2 : E.off = false) {f : Nat} (hf : f + 6 ≤ D.many) (hE : E.many = D.many) (hs : ∀ j : Nat, f ≤ j → j < f + 6 → secOf E.now (j : Int) = secOf D.now (j : Int)) : (wholeV E f 6).2 = (wholeV D f 6).2 := by
  have r : ∀ X : DiskV, X.off = false → f + 6 ≤ X.many → aReadV X f 6 0 = (readV' X, secOf X.now (f : Int), 0) := fun X hX hm => by
    have := onRead (D := X) (f := f) (m := 6) (k := 0) hX hm (by omega)
    rw [Nat.add_zero] at this
    exact this
  have t : ∀ X : DiskV, X.off = false → f + 6 ≤ X.many → aTakeV X f 6 0 2 = openV (secOf X.now (f : Int)) 2 := fun X hX hm => by
    unfold aTakeV
    rw [r X hX hm, if_neg (by simp)]
  have hb : ∀ k, k ≤ 5 → bodyL E.now f k = bodyL D.now f k := by
    intro k
    induction k with
    | zero => intro _; rfl
    | succ k ih =>
      intro hk
      unfold bodyL
      rw [ih (by omega), hs (f + (1 + k)) (by omega) (by omega)]
  unfold wholeV
  rw [t D h1 hf, t E h2 (by rw [hE]; exact hf), hs f (by omega) (by omega)]
  by_cases q1 : (openV (secOf D.now (f : Int)) 2).2.2 ≠ 0
  · rw [if_pos q1, if_pos q1]
  · rw [if_neg q1, if_neg q1]
    by_cases q2 : (openV (secOf D.now (f : Int)) 2).2.1.length ≠ 12
    · rw [if_pos q2, if_pos q2]
    · rw [if_neg q2, if_neg q2]
      by_cases q3 : headN (openV (secOf D.now (f : Int)) 2).2.1 < 0 ∨ 512 < headN (openV (secOf D.now (f : Int)) 2).2.1
      · rw [if_pos q3, if_pos q3]
      · rw [if_neg q3, if_neg q3, hb _ (by unfold secsN; omega)]
        split <;> rfl
/-- The power is gone: what is kept, sector by sector, and what waits. -/
structure Brk (D : DiskV) (K : Nat → List UInt8) (W : Nat × List UInt8 → Prop) : Prop where
  ok : D.Ok
  room : D.room = D.many
  many : D.many = 12
  kept : ∀ s : Nat, s < 12 → secOf D.kept (s : Int) = K s
  waits : ∀ p ∈ D.waits, W p
/-- The power is on: the same, and what is read. -/
structure On (D : DiskV) (K N : Nat → List UInt8) (W : Nat × List UInt8 → Prop) : Prop where
  fit : Fit D
  many : D.many = 12
  kept : ∀ s : Nat, s < 12 → secOf D.kept (s : Int) = K s
  now : ∀ s : Nat, s < 12 → secOf D.now (s : Int) = N s
  waits : ∀ p ∈ D.waits, W p
theorem On.brk {D : DiskV} {K N : Nat → List UInt8} {W : Nat × List UInt8 → Prop} (h : On D K N W) : Brk D K W := ⟨h.fit.ok, h.fit.room, h.many, h.kept, h.waits⟩
theorem On.write {D : DiskV} {K N : Nat → List UInt8} {W : Nat × List UInt8 → Prop} (h : On D K N W) {f n : Nat} (hf : f + 6 ≤ 12) (hn : n < 6) {b : List UInt8} (hb : b.length = 128) (hw : D.waits.length < 1000000) (hW : W (f + n, b)) :
    (aWriteV D f 6 (n : Int) b).1.waits.length = D.waits.length + 1 ∧ (((aWriteV D f 6 (n : Int) b).2 = 0 ∧ On (aWriteV D f 6 (n : Int) b).1 K (fun s => if s = f + n then b else N s) W) ∨ ((aWriteV D f 6 (n : Int) b).2 = 50 ∧ Brk (aWriteV D f 6 (n : Int) b).1 K W)) := by
  have hm := h.many
  have e : aWriteV D f 6 (n : Int) b = (goesV (putD D ((f : Int) + n) b) 2, if D.cut = 0 then 50 else 0) := by
    unfold aWriteV; rw [if_neg (by omega)]; exact h.fit.write_in (by omega) (by omega) _
  have hmem : ∀ p ∈ (goesV (putD D ((f : Int) + n) b) 2).waits, W p := fun p hp => by
    rcases List.mem_append.1 (show p ∈ D.waits ++ [(((f : Int) + n).toNat, b)] from hp) with q | q
    · exact h.waits p q
    · obtain rfl : p = (((f : Int) + n).toNat, b) := by simpa using q
      rw [show ((f : Int) + n).toNat = f + n by omega]
      exact hW
  have hokp := goesV_ok (putD_ok h.fit.ok (n := (f : Int) + n) (by omega) (by omega) hb (by omega)) 2
  rw [e]
  refine ⟨by show (D.waits ++ [_]).length = _; simp, ?_⟩
  by_cases hc : D.cut = 0
  · right
    rw [if_pos hc]
    exact ⟨rfl, hokp, h.fit.room, h.many, h.kept, hmem⟩
  · left
    rw [if_neg hc]
    refine ⟨rfl, h.fit.put (by omega) (by omega) hb hw hc, h.many, h.kept, fun s hs => ?_, hmem⟩
    have := h.fit.put_now (n := (f : Int) + n) (by omega) (by omega) hb (k := s) (by omega)
    show secOf (goesV (putD D ((f : Int) + n) b) 2).now (s : Int) = if s = f + n then b else N s
    rw [this]
    by_cases q : s = f + n
    · rw [if_pos (by omega), if_pos q]
    · rw [if_neg (by omega), if_neg q]
      exact h.now s hs
theorem On.flush {D : DiskV} {K N : Nat → List UInt8} {W : Nat × List UInt8 → Prop} (h : On D K N W) (W' : Nat × List UInt8 → Prop) :
    ((flushV D).2 = 0 ∧ On (flushV D).1 N N W' ∧ (flushV D).1.waits = []) ∨ ((flushV D).2 = 50 ∧ Brk (flushV D).1 K W) := by
  by_cases hc : D.cut = 0
  · right
    rw [h.fit.flush_cut hc]
    exact ⟨rfl, goesV_ok h.fit.ok 3, h.fit.room, h.many, h.kept, h.waits⟩
  · left
    obtain ⟨e, f1, f2, f3⟩ := h.fit.flush_ok hc
    rw [e]
    refine ⟨rfl, ⟨f1, h.many, fun s hs => ?_, fun s hs => ?_, fun p hp => ?_⟩, rfl⟩
    · show secOf (flushD (goesV D 3)).kept (s : Int) = N s
      rw [f2]; exact h.now s hs
    · show secOf (flushD (goesV D 3)).now (s : Int) = N s
      rw [f3]; exact h.now s hs
    · exact absurd (show p ∈ ([] : List (Nat × List UInt8)) from hp) (by simp)
/-- The sectors of a load, the first k of them laid. -/
def laid (N : Nat → List UInt8) (f : Nat) (load : List UInt8) (k : Nat) : Nat → List UInt8 := fun s => if f + 1 ≤ s ∧ s < f + 1 + k then padL load (s - (f + 1)) else N s
def pieceW (f : Nat) (load : List UInt8) (p : Nat × List UInt8) : Prop := ∃ i, i < 5 ∧ p = (f + (1 + i), padL load i)
theorem On.fill {f : Nat} (hf : f + 6 ≤ 12) {load : List UInt8} {K N : Nat → List UInt8} : ∀ (k i : Nat) {D : DiskV}, On D K (laid N f load i) (pieceW f load) → i + k ≤ 5 → D.waits.length + k < 1000000 →
    (fillK D f 6 load i k).1.waits.length ≤ D.waits.length + k ∧ (((fillK D f 6 load i k).2 = 0 ∧ On (fillK D f 6 load i k).1 K (laid N f load (i + k)) (pieceW f load)) ∨ ((fillK D f 6 load i k).2 = 50 ∧ Brk (fillK D f 6 load i k).1 K (pieceW f load))) := by
  intro k
  induction k with
  | zero => intro i D h _ _; exact ⟨Nat.le_refl _, .inl ⟨rfl, h⟩⟩
  | succ k ih =>
    intro i D h hi hw
    obtain ⟨hl, hc⟩ := h.write hf (n := 1 + i) (by omega) (padL_len load i) (by omega) ⟨i, by omega, rfl⟩
    rcases hc with ⟨e, ho⟩ | ⟨e, hb⟩
    · rw [fillK_go e]
      have ho2 : On (aWriteV D f 6 ((1 + i : Nat) : Int) (padL load i)).1 K (laid N f load (i + 1)) (pieceW f load) := by
        refine ⟨ho.fit, ho.many, ho.kept, fun s hs => ?_, ho.waits⟩
        rw [ho.now s hs]
        unfold laid
        by_cases q : s = f + (1 + i)
        · rw [if_pos q, if_pos (by omega), show s - (f + 1) = i by omega]
        · rw [if_neg q]
          by_cases q2 : f + 1 ≤ s ∧ s < f + 1 + i
          · rw [if_pos q2, if_pos (by omega)]
          · rw [if_neg q2, if_neg (by omega)]
      obtain ⟨hl2, hc2⟩ := ih (i + 1) ho2 (by omega) (by omega)
      rw [show i + 1 + k = i + (k + 1) by omega] at hc2
      exact ⟨by omega, hc2⟩
    · rw [fillK_stop (by rw [e]; simp)]
      exact ⟨by omega, .inr ⟨e, hb⟩⟩
def zeroAt (K : Nat → List UInt8) (f : Nat) : Nat → List UInt8 := fun s => if s = f then zerosL else K s
def savedAt (K : Nat → List UInt8) (f number : Nat) (load : List UInt8) : Nat → List UInt8 := fun s => if s = f then sealL 2 number (headL load) else laid (zeroAt K f) f load (secsN load.length) s
theorem On.congr {D : DiskV} {K K' N N' : Nat → List UInt8} {W W' : Nat × List UInt8 → Prop} (h : On D K N W) (hK : ∀ s, K s = K' s) (hN : ∀ s, N s = N' s) (hW : ∀ p, W p → W' p) : On D K' N' W' :=
  ⟨h.fit, h.many, fun s hs => (h.kept s hs).trans (hK s), fun s hs => (h.now s hs).trans (hN s), fun p hp => hW p (h.waits p hp)⟩
/-- A save, wherever the power goes. -/
theorem On.save {D : DiskV} {K : Nat → List UInt8} {W0 : Nat × List UInt8 → Prop} (h : On D K K W0) (hw : D.waits = []) {f : Nat} (hf : f + 6 ≤ 12) {number : Nat} (hn : number < 9223372036854775807) {load : List UInt8} (hl : load.length ≤ 512) :
    ((saveA D f 6 (number : Int) load).2 = 0 ∧ On (saveA D f 6 (number : Int) load).1 (savedAt K f number load) (savedAt K f number load) W0 ∧ (saveA D f 6 (number : Int) load).1.waits = []) ∨
    ((saveA D f 6 (number : Int) load).2 = 50 ∧ (Brk (saveA D f 6 (number : Int) load).1 K (fun p => p = (f, zerosL)) ∨ Brk (saveA D f 6 (number : Int) load).1 (zeroAt K f) (pieceW f load) ∨ Brk (saveA D f 6 (number : Int) load).1 (laid (zeroAt K f) f load (secsN load.length)) (fun p => p = (f, sealL 2 number (headL load))))) := by
  have hk : secsN load.length ≤ 4 := by unfold secsN; omega
  have h0 : On D K K (fun p => p = (f, zerosL)) := ⟨h.fit, h.many, h.kept, h.now, fun p hp => by rw [hw] at hp; simp at hp⟩
  obtain ⟨l1, c1⟩ := h0.write hf (n := 0) (by omega) zerosL_len (by rw [hw]; simp) rfl
  rw [show ((0 : Nat) : Int) = 0 from rfl] at l1 c1
  unfold saveA
  rcases c1 with ⟨e1, o1⟩ | ⟨e1, b1⟩
  rotate_left 1
  · right
    rw [if_pos (by rw [e1]; simp)]
    exact ⟨e1, .inl b1⟩
  rw [if_neg (by rw [e1]; simp)]
  generalize (aWriteV D f 6 0 zerosL).1 = D1 at *
  rcases o1.flush (pieceW f load) with ⟨e2, o2, w2⟩ | ⟨e2, b2⟩
  rotate_left 1
  · right
    rw [if_pos (by rw [e2]; simp)]
    exact ⟨e2, .inl b2⟩
  rw [if_neg (by rw [e2]; simp)]
  generalize (flushV D1).1 = D2 at *
  have o2' : On D2 (zeroAt K f) (laid (zeroAt K f) f load 0) (pieceW f load) := o2.congr (fun s => by unfold zeroAt; rw [Nat.add_zero]) (fun s => Eq.symm (show laid (zeroAt K f) f load 0 s = zeroAt K f s from if_neg (by omega))) (fun _ h => h)
  obtain ⟨l3, c3⟩ := On.fill hf (secsN load.length) 0 o2' (by omega) (by rw [w2]; simp; omega)
  rw [Nat.zero_add] at c3
  unfold fillV
  rcases c3 with ⟨e3, o3⟩ | ⟨e3, b3⟩
  rotate_left 1
  · right
    rw [if_pos (show (if (fillK D2 f 6 load 0 (secsN load.length)).2 ≠ 0 then fillK D2 f 6 load 0 (secsN load.length) else flushV (fillK D2 f 6 load 0 (secsN load.length)).1).2 ≠ 0 by rw [if_pos (by rw [e3]; simp), e3]; simp), if_pos (by rw [e3]; simp)]
    exact ⟨e3, .inr (.inl b3)⟩
  have hfv : (if (fillK D2 f 6 load 0 (secsN load.length)).2 ≠ 0 then fillK D2 f 6 load 0 (secsN load.length) else flushV (fillK D2 f 6 load 0 (secsN load.length)).1) = flushV (fillK D2 f 6 load 0 (secsN load.length)).1 := by rw [if_neg (by rw [e3]; simp)]
  rw [hfv]
  generalize (fillK D2 f 6 load 0 (secsN load.length)).1 = D3 at *
  rcases o3.flush (fun p => p = (f, sealL 2 number (headL load))) with ⟨e4, o4, w4⟩ | ⟨e4, b4⟩
  rotate_left 1
  · right
    rw [if_pos (by rw [e4]; simp)]
    exact ⟨e4, .inr (.inl b4)⟩
  rw [if_neg (by rw [e4]; simp)]
  generalize (flushV D3).1 = D4 at *
  have hmk : makeL 2 (number : Int) (headL load) = (sealL 2 number (headL load), 0) := by
    unfold makeL
    rw [if_neg (by omega), if_neg (by rw [headL_len]; omega)]
    simp
  have hpv : aPutV D4 f 6 0 2 (number : Int) (headL load) = aWriteV D4 f 6 0 (sealL 2 number (headL load)) := by
    unfold aPutV
    rw [hmk, if_neg (by simp)]
  rw [hpv]
  obtain ⟨l5, c5⟩ := o4.write hf (n := 0) (by omega) (sealL_len 2 number (headL load) (by rw [headL_len]; omega)) (by rw [w4]; simp) rfl
  rw [show ((0 : Nat) : Int) = 0 from rfl] at l5 c5
  rcases c5 with ⟨e5, o5⟩ | ⟨e5, b5⟩
  rotate_left 1
  · right
    rw [if_pos (by rw [e5]; simp)]
    exact ⟨e5, .inr (.inr b5)⟩
  rw [if_neg (by rw [e5]; simp)]
  generalize (aWriteV D4 f 6 0 (sealL 2 number (headL load))).1 = D5 at *
  rcases o5.flush W0 with ⟨e6, o6, w6⟩ | ⟨e6, b6⟩
  · left
    refine ⟨e6, o6.congr (fun s => ?_) (fun s => ?_) (fun _ h => h), w6⟩ <;> (unfold savedAt; rw [Nat.add_zero])
  · right
    exact ⟨e6, .inr (.inr b6)⟩
theorem Brk.on {D : DiskV} {K : Nat → List UInt8} {W : Nat × List UInt8 → Prop} (h : Brk D K W) (cs : List UInt8) {N : Nat → List UInt8} (hN : ∀ s : Nat, s < 12 → secOf (crashV D cs).kept (s : Int) = N s) (W' : Nat × List UInt8 → Prop) : On (crashV D cs) N N W' ∧ (crashV D cs).waits = [] := by
  obtain ⟨c1, c2, c3, c4⟩ := crash_fit h.ok h.room cs
  exact ⟨⟨c1.fit, c3.trans h.many, hN, fun s hs => by rw [c4]; exact hN s hs, fun p hp => by rw [c2] at hp; simp at hp⟩, c2⟩
/-- A head is being wiped. -/
theorem Brk.crashA {D : DiskV} {K : Nat → List UInt8} {f : Nat} (h : Brk D K (fun p => p = (f, zerosL))) (cs : List UInt8) : ∀ s : Nat, s < 12 → (s ≠ f → secOf (crashV D cs).kept (s : Int) = K s) ∧ (s = f → secOf (crashV D cs).kept (s : Int) = K f ∨ byteAt (secOf (crashV D cs).kept (s : Int)) 0 = 0) := by
  intro s hs
  refine crash_closed h.ok cs (fun s S => (s ≠ f → S = K s) ∧ (s = f → S = K f ∨ byteAt S 0 = 0)) (fun s hs => ?_) (fun p hp S c hc hS hP => ?_) s (by rw [h.many]; exact hs)
  · rw [h.many] at hs
    rw [h.kept s hs]
    exact ⟨fun _ => rfl, fun e => .inl (by rw [e])⟩
  · have e := h.waits p hp
    try simp only at e
    subst e
    refine ⟨fun e => absurd rfl e, fun _ => ?_⟩
    rcases Nat.eq_zero_or_pos c with q | q
    · subst q
      have e : splice S 0 (zerosL.take 0) = S := by simp [splice]
      show splice S 0 (zerosL.take 0) = K f ∨ byteAt (splice S 0 (zerosL.take 0)) 0 = 0
      rw [e]; exact hP.2 rfl
    · right
      have hl : (zerosL.take c).length = c := by rw [List.length_take, zerosL_len]; omega
      show byteAt (splice S 0 (zerosL.take c)) 0 = 0
      rw [byteAt_splice (by rw [hl, hS]; omega), if_pos (by rw [hl]; omega), Nat.sub_zero, byteAt_take' (by omega)]
      decide
/-- A load is being written. -/
theorem Brk.crashB {D : DiskV} {K : Nat → List UInt8} {f : Nat} {load : List UInt8} (h : Brk D K (pieceW f load)) (cs : List UInt8) : ∀ s : Nat, s < 12 → (s < f + 1 ∨ f + 6 ≤ s) → secOf (crashV D cs).kept (s : Int) = K s := by
  intro s hs
  refine crash_closed h.ok cs (fun s S => (s < f + 1 ∨ f + 6 ≤ s) → S = K s) (fun s hs => ?_) (fun p hp S c hc hS hP => ?_) s (by rw [h.many]; exact hs)
  · rw [h.many] at hs
    intro _
    exact h.kept s hs
  · obtain ⟨i, hi, rfl⟩ := h.waits p hp
    intro e
    (try simp only at e)
    omega
/-- A head is being written. -/
theorem Brk.crashC {D : DiskV} {K : Nat → List UInt8} {f : Nat} {S0 : List UInt8} (hS0 : S0.length = 128) (h : Brk D K (fun p => p = (f, S0))) (hf : byteAt (K f) 127 = 0) (cs : List UInt8) : ∀ s : Nat, s < 12 → (s ≠ f → secOf (crashV D cs).kept (s : Int) = K s) ∧ (s = f → secOf (crashV D cs).kept (s : Int) = S0 ∨ byteAt (secOf (crashV D cs).kept (s : Int)) 127 = 0) := by
  intro s hs
  refine crash_closed h.ok cs (fun s S => (s ≠ f → S = K s) ∧ (s = f → S = S0 ∨ byteAt S 127 = 0)) (fun s hs => ?_) (fun p hp S c hc hS hP => ?_) s (by rw [h.many]; exact hs)
  · rw [h.many] at hs
    rw [h.kept s hs]
    exact ⟨fun _ => rfl, fun e => .inr (by rw [e]; exact hf)⟩
  · have e := h.waits p hp
    try simp only at e
    subst e
    refine ⟨fun e => absurd rfl e, fun _ => ?_⟩
    have hl : (S0.take c).length = c := by rw [List.length_take]; omega
    show splice S 0 (S0.take c) = S0 ∨ byteAt (splice S 0 (S0.take c)) 127 = 0
    by_cases hc8 : c = 128
    · left
      subst hc8
      rw [List.take_of_length_le (by omega)]
      unfold splice
      rw [List.take_zero, List.nil_append, Nat.zero_add, List.drop_of_length_le (by omega), List.append_nil]
    · rcases hP.2 rfl with e | e
      · left
        subst e
        unfold splice
        rw [List.take_zero, List.nil_append, Nat.zero_add, hl, List.take_append_drop]
      · right
        rw [byteAt_splice (by rw [hl, hS]; omega), if_neg (by rw [hl]; omega)]
        exact e
theorem not_head0 {S : List UInt8} (h : byteAt S 0 = 0) : opens S 2 = false := by
  cases ho : opens S 2 with
  | false => rfl
  | true => have := (opens_kind ho).1; omega
theorem not_head127 {S : List UInt8} (h : byteAt S 127 = 0) : opens S 2 = false := by
  cases ho : opens S 2 with
  | false => rfl
  | true => have := (opens_kind ho).2.1; omega
/-- The power is on and nothing waits; the newest slot is whole, the other one is not, or is older. -/
structure SInv (D : DiskV) (s : SlV3) (n : Nat) : Prop where
  fit : Fit D
  many : D.many = 12
  waits : D.waits = []
  num : s.number = (n : Int)
  none_ : n = 0 → s = ⟨2, 0, []⟩ ∧ (wholeV D 0 6).2.2.2 = 53 ∧ (wholeV D 6 6).2.2.2 = 53
  some_ : 0 < n → (s.now = 0 ∨ s.now = 1) ∧ (wholeV D (6 * s.now) 6).2 = (s.load, (n : Int), 0) ∧ ((wholeV D (6 * (1 - s.now)) 6).2.2.2 = 53 ∨ ((wholeV D (6 * (1 - s.now)) 6).2.2.2 = 0 ∧ (wholeV D (6 * (1 - s.now)) 6).2.2.1 < (n : Int)))
def othS (s : SlV3) : Nat := if s.now = 0 then 1 else 0
section
variable {D E : DiskV} {s : SlV3} {n : Nat}
theorem SInv.keep (h : SInv D s n) (fe : Fit E) (me : E.many = 12) (we : E.waits = []) (hout : ∀ j : Nat, j < 12 → (j < 6 * othS s ∨ 6 * othS s + 6 ≤ j) → secOf E.now (j : Int) = secOf D.now (j : Int))
    (hf : (wholeV E (6 * othS s) 6).2 = (wholeV D (6 * othS s) 6).2 ∨ (wholeV E (6 * othS s) 6).2.2.2 = 53) : SInv E s n := by
  refine ⟨fe, me, we, h.num, fun h0 => ?_, fun h1 => ?_⟩
  · obtain ⟨e1, e2, e3⟩ := h.none_ h0
    subst e1
    have ho : othS ⟨2, 0, []⟩ = 0 := rfl
    rw [ho] at hout hf
    refine ⟨rfl, ?_, ?_⟩
    · rcases hf with e | e
      · rw [show (wholeV E 0 6).2 = (wholeV D 0 6).2 from e]; exact e2
      · exact e
    · rw [slot_same (D := D) (E := E) h.fit.off fe.off (f := 6) (by rw [h.many]; omega) (by rw [me, h.many]) (fun j j1 j2 => hout j (by omega) (by omega))]
      exact e3
  · obtain ⟨e1, e2, e3⟩ := h.some_ h1
    have ho : othS s = 1 - s.now := by unfold othS; rcases e1 with e | e <;> rw [e] <;> rfl
    rw [ho] at hout hf
    refine ⟨e1, ?_, ?_⟩
    · rw [slot_same (D := D) (E := E) h.fit.off fe.off (f := 6 * s.now) (by rw [h.many]; omega) (by rw [me, h.many]) (fun j j1 j2 => hout j (by omega) (by omega))]
      exact e2
    · rcases hf with e | e
      · rw [e]; exact e3
      · exact .inl e
theorem SInv.next (h : SInv D s n) (fe : Fit E) (me : E.many = 12) (we : E.waits = []) (hout : ∀ j : Nat, j < 12 → (j < 6 * othS s ∨ 6 * othS s + 6 ≤ j) → secOf E.now (j : Int) = secOf D.now (j : Int)) {load : List UInt8}
    (hf : (wholeV E (6 * othS s) 6).2 = (load, ((n + 1 : Nat) : Int), 0)) : SInv E ⟨othS s, ((n + 1 : Nat) : Int), load⟩ (n + 1) := by
  refine ⟨fe, me, we, rfl, fun h0 => absurd h0 (by omega), fun _ => ?_⟩
  have ho : othS s = 0 ∨ othS s = 1 := by unfold othS; split <;> simp
  refine ⟨ho, hf, ?_⟩
  show (wholeV E (6 * (1 - othS s)) 6).2.2.2 = 53 ∨ _
  have hsame : (wholeV E (6 * (1 - othS s)) 6).2 = (wholeV D (6 * (1 - othS s)) 6).2 := slot_same (D := D) (E := E) h.fit.off fe.off (f := 6 * (1 - othS s)) (by rw [h.many]; omega) (by rw [me, h.many]) (fun j j1 j2 => hout j (by omega) (by omega))
  show (wholeV E (6 * (1 - othS s)) 6).2.2.2 = 53 ∨ ((wholeV E (6 * (1 - othS s)) 6).2.2.2 = 0 ∧ (wholeV E (6 * (1 - othS s)) 6).2.2.1 < ((n + 1 : Nat) : Int))
  rw [hsame]
  rcases Nat.eq_zero_or_pos n with q | q
  · obtain ⟨e1, e2, e3⟩ := h.none_ q
    subst e1
    exact .inl e3
  · obtain ⟨e1, e2, _⟩ := h.some_ q
    have e4 : 1 - othS s = s.now := by unfold othS; rcases e1 with e | e <;> rw [e] <;> rfl
    rw [e4, e2]
    exact .inr ⟨rfl, by show (n : Int) < _; omega⟩
theorem wholeV_disk (D : DiskV) (f : Nat) : ∃ o, (wholeV D f 6).1 = { D with ops := o } := by
  have h : ∃ o, (aReadV D f 6 0).1 = { D with ops := o } := by
    unfold aReadV readV
    split
    · exact ⟨D.ops, rfl⟩
    · split
      · exact ⟨D.ops, rfl⟩
      · exact ⟨mAdd D.ops 1 1, rfl⟩
  obtain ⟨o, e⟩ := h
  have h2 : ∀ k, ∃ o, rdK (aReadV D f 6 0).1 k = { D with ops := o } := fun k => by
    obtain ⟨o2, e2⟩ := rdK_ops (aReadV D f 6 0).1 k
    exact ⟨o2, by rw [e2, e]⟩
  unfold wholeV
  split
  · exact ⟨o, e⟩
  split
  · exact ⟨o, e⟩
  split
  · exact ⟨o, e⟩
  split
  · exact h2 _
  · exact h2 _
theorem SInv.ops (h : SInv D s n) (o : List Int) : SInv { D with ops := o } s n :=
  h.keep (h.fit.ops o) h.many h.waits (fun _ _ _ => rfl) (.inl (slot_same (D := D) (E := { D with ops := o }) h.fit.off h.fit.off (by rw [h.many]; unfold othS; split <;> omega) rfl (fun _ _ _ => rfl)))
theorem SInv.open_ (h : SInv D s n) : ∃ o, openSV D 0 6 6 6 = ({ D with ops := o }, s, 0) := by
  obtain ⟨o1, d1⟩ := wholeV_disk D 0
  obtain ⟨o2, d2⟩ := wholeV_disk { D with ops := o1 } 6
  have hs2 : (wholeV { D with ops := o1 } 6 6).2 = (wholeV D 6 6).2 := slot_same (D := D) (E := { D with ops := o1 }) h.fit.off h.fit.off (by rw [h.many]; omega) rfl (fun _ _ _ => rfl)
  refine ⟨o2, ?_⟩
  unfold openSV
  rw [d1, d2, hs2]
  rcases Nat.eq_zero_or_pos n with q | q
  · obtain ⟨e1, e2, e3⟩ := h.none_ q
    rw [e2, e3, e1]
    rfl
  · obtain ⟨e1, e2, e3⟩ := h.some_ q
    obtain ⟨now, number, load⟩ := s
    have hn := h.num
    simp only at hn e1 e2 e3
    subst hn
    rcases e1 with rfl | rfl
    · simp only [Nat.mul_zero, Nat.sub_zero, Nat.mul_one] at e2 e3
      rw [e2]
      rcases e3 with e3 | ⟨e3, e4⟩
      · rw [e3]; simp
      · rw [e3]
        have : (wholeV D 6 6).2.2.1 ≤ (n : Int) := by omega
        simp [this]
    · simp only [Nat.mul_one, Nat.sub_self, Nat.mul_zero] at e2 e3
      rw [e2]
      rcases e3 with e3 | ⟨e3, e4⟩
      · rw [e3]; simp
      · rw [e3]
        have : ¬ ((n : Int) ≤ (wholeV D 0 6).2.2.1) := by omega
        simp [this]
theorem SInv.same_ (h : SInv D s n) (fe : Fit E) (me : E.many = 12) (we : E.waits = []) (hs : ∀ j : Nat, j < 12 → secOf E.now (j : Int) = secOf D.now (j : Int)) : SInv E s n :=
  h.keep fe me we (fun j hj _ => hs j hj) (.inl (slot_same (D := D) (E := E) h.fit.off fe.off (by rw [h.many]; unfold othS; split <;> omega) (by rw [me, h.many]) (fun j _ j2 => hs j (by have : othS s ≤ 1 := (by unfold othS; split <;> omega); omega))))
theorem Fit.nowKept (h : Fit D) (hw : D.waits = []) : D.now = D.kept := by
  have := h.now
  rw [hw] at this
  exact this
def secK (D : DiskV) (k : Nat) : List UInt8 := secOf D.now (k : Int)
theorem SInv.on (h : SInv D s n) (W : Nat × List UInt8 → Prop) : On D (secK D) (secK D) W :=
  ⟨h.fit, h.many, fun k _ => by unfold secK; rw [h.fit.nowKept h.waits], fun _ _ => rfl, fun p hp => by rw [h.waits] at hp; simp at hp⟩
theorem SInv.crash (h : SInv D s n) (cs : List UInt8) : SInv (crashV D cs) s n := by
  have hk : ∀ k : Nat, k < 12 → secOf (crashV D cs).kept (k : Int) = secK D k := by
    intro k hk
    refine crash_closed h.fit.ok cs (fun k S => S = secK D k) (fun k hk => ?_) (fun p hp S c hc hS hP => ?_) k (by rw [h.many]; exact hk)
    · unfold secK; rw [h.fit.nowKept h.waits]
    · rw [h.waits] at hp; simp at hp
  obtain ⟨o, ow⟩ := (h.on (fun _ => False)).brk.on cs hk (fun _ => False)
  exact h.same_ o.fit o.many ow (fun j hj => o.now j hj)
theorem othS_le (s : SlV3) : othS s ≤ 1 := by unfold othS; split <;> omega
/-- A save: it goes well, or the power goes; a crash then leaves the one or the other. -/
theorem SInv.save (h : SInv D s n) (hn : n < 9223372036854775806) {L : List UInt8} (hL : L.length ≤ 512) :
    ((saveSV D 0 6 6 6 s L).2.2 = 0 ∧ SInv (saveSV D 0 6 6 6 s L).1 ⟨othS s, ((n + 1 : Nat) : Int), L⟩ (n + 1) ∧ (saveSV D 0 6 6 6 s L).2.1 = ⟨othS s, ((n + 1 : Nat) : Int), L⟩) ∨
    ((saveSV D 0 6 6 6 s L).2.2 = 50 ∧ (saveSV D 0 6 6 6 s L).2.1 = s ∧ ∀ cs, SInv (crashV (saveSV D 0 6 6 6 s L).1 cs) s n ∨ SInv (crashV (saveSV D 0 6 6 6 s L).1 cs) ⟨othS s, ((n + 1 : Nat) : Int), L⟩ (n + 1)) := by
  have hf : (if s.now = 0 then 6 else 0) = 6 * othS s := by unfold othS; split <;> rfl
  have ho : (if s.now = 0 then 1 else 0) = othS s := by unfold othS; rfl
  have hm6 : (if s.now = 0 then 6 else 6) = 6 := by split <;> rfl
  have hle := othS_le s
  have hfm : 6 * othS s + 6 ≤ 12 := by omega
  have hnum := h.num
  have e : saveSV D 0 6 6 6 s L = if (saveA D (6 * othS s) 6 ((n + 1 : Nat) : Int) L).2 ≠ 0 then ((saveA D (6 * othS s) 6 ((n + 1 : Nat) : Int) L).1, s, (saveA D (6 * othS s) 6 ((n + 1 : Nat) : Int) L).2) else ((saveA D (6 * othS s) 6 ((n + 1 : Nat) : Int) L).1, ⟨othS s, ((n + 1 : Nat) : Int), L⟩, 0) := by
    unfold saveSV
    rw [if_neg (by rw [hnum]; omega), hf, ho, hm6, hnum, show (n : Int) + 1 = ((n + 1 : Nat) : Int) by omega]
  rw [e]
  have hout : ∀ (j : Nat) (load : List UInt8) (k : Nat), (j < 6 * othS s ∨ 6 * othS s + 6 ≤ j) → k ≤ 4 → laid (zeroAt (secK D) (6 * othS s)) (6 * othS s) load k j = secK D j := fun j load k hj hk => by
    unfold laid zeroAt
    rw [if_neg (by omega), if_neg (by omega)]
  have hk4 : secsN L.length ≤ 4 := by unfold secsN; omega
  generalize hF : 6 * othS s = f at *
  have hslot : ∀ {X : DiskV}, Fit X → X.many = 12 → secOf X.now (f : Int) = sealL 2 (n + 1) (headL L) → (∀ i, i < secsN L.length → secOf X.now ((f + (1 + i) : Nat) : Int) = padL L i) → (wholeV X f 6).2 = (L, ((n + 1 : Nat) : Int), 0) := fun {X} fx mx h0 hb => by
    obtain ⟨a1, a2, a3⟩ := slot_of fx.off (by rw [mx]; omega) hL (by omega) h0 hb
    rw [← a1, ← a2, ← a3]
  have hlaid : ∀ (i : Nat), i < secsN L.length → laid (zeroAt (secK D) f) f L (secsN L.length) (f + (1 + i)) = padL L i := fun i hi => by
    unfold laid
    rw [if_pos (by omega), show f + (1 + i) - (f + 1) = i by omega]
  have hlen := sealL_len 2 (n + 1) (headL L) (by rw [headL_len]; omega)
  rcases (h.on (fun _ => True)).save h.waits hfm (number := n + 1) (by omega) hL with ⟨e1, o1, w1⟩ | ⟨e1, hb⟩
  · left
    rw [if_neg (by rw [e1]; simp)]
    refine ⟨rfl, h.next o1.fit o1.many w1 (fun j hj hc => ?_) ?_, rfl⟩
    · rw [o1.now j hj]
      unfold savedAt
      rw [hF] at hc
      rw [if_neg (by omega)]
      exact hout j L _ hc hk4
    · rw [hF]
      refine hslot o1.fit o1.many ?_ (fun i hi => ?_)
      · rw [o1.now f (by omega)]; unfold savedAt; rw [if_pos rfl]
      · rw [o1.now (f + (1 + i)) (by omega)]; unfold savedAt; rw [if_neg (by omega), hlaid i hi]
  · right
    rw [if_pos (by rw [e1]; simp)]
    refine ⟨e1, rfl, fun cs => ?_⟩
    generalize (saveA D f 6 ((n + 1 : Nat) : Int) L).1 = E at *
    have hnot : ∀ {X : DiskV}, Fit X → X.many = 12 → opens (secOf X.now (f : Int)) 2 = false → (wholeV X f 6).2.2.2 = 53 := fun {X} fx mx h0 => slot_not fx.off (by rw [mx]; omega) h0
    rcases hb with hb | hb | hb
    · have hc := hb.crashA cs
      obtain ⟨o, ow⟩ := hb.on cs (N := fun j => secOf (crashV E cs).kept (j : Int)) (fun _ _ => rfl) (fun _ => True)
      have hn : ∀ j : Nat, j < 12 → secOf (crashV E cs).now (j : Int) = secOf (crashV E cs).kept (j : Int) := o.now
      left
      refine h.keep o.fit o.many ow (fun j hj hq => ?_) ?_
      · rw [hF] at hq
        rw [hn j hj, (hc j hj).1 (by omega)]; rfl
      · rw [hF]
        rcases (hc f (by omega)).2 rfl with q | q
        · left
          refine slot_same h.fit.off o.fit.off (by rw [h.many]; omega) (by rw [o.many, h.many]) (fun j j1 j2 => ?_)
          by_cases qj : j = f
          · subst qj; rw [hn _ (by omega), q]; rfl
          · rw [hn j (by omega), (hc j (by omega)).1 qj]; rfl
        · right
          exact hnot o.fit o.many (by rw [hn f (by omega)]; exact not_head0 q)
    · have hc := hb.crashB cs
      obtain ⟨o, ow⟩ := hb.on cs (N := fun j => secOf (crashV E cs).kept (j : Int)) (fun _ _ => rfl) (fun _ => True)
      have hn : ∀ j : Nat, j < 12 → secOf (crashV E cs).now (j : Int) = secOf (crashV E cs).kept (j : Int) := o.now
      left
      refine h.keep o.fit o.many ow (fun j hj hq => ?_) ?_
      · rw [hF] at hq
        rw [hn j hj, hc j hj (by omega)]
        unfold zeroAt
        rw [if_neg (by omega)]; rfl
      · rw [hF]
        right
        refine hnot o.fit o.many ?_
        rw [hn f (by omega), hc f (by omega) (by omega)]
        unfold zeroAt
        rw [if_pos rfl]
        exact not_head0 (by decide)
    · have hz : byteAt (laid (zeroAt (secK D) f) f L (secsN L.length) f) 127 = 0 := by
        unfold laid zeroAt
        rw [if_neg (by omega), if_pos rfl]
        decide
      have hc := hb.crashC hlen hz cs
      obtain ⟨o, ow⟩ := hb.on cs (N := fun j => secOf (crashV E cs).kept (j : Int)) (fun _ _ => rfl) (fun _ => True)
      have hn : ∀ j : Nat, j < 12 → secOf (crashV E cs).now (j : Int) = secOf (crashV E cs).kept (j : Int) := o.now
      have hrest : ∀ (j : Nat), j < 12 → (j < 6 * othS s ∨ 6 * othS s + 6 ≤ j) → secOf (crashV E cs).now (j : Int) = secOf D.now (j : Int) := fun j hj hq => by
        rw [hF] at hq
        rw [hn j hj, (hc j hj).1 (by omega)]
        exact hout j L _ hq hk4
      rcases (hc f (by omega)).2 rfl with q | q
      · right
        refine h.next o.fit o.many ow hrest ?_
        rw [hF]
        refine hslot o.fit o.many (by rw [hn f (by omega)]; exact q) (fun i hi => ?_)
        rw [hn _ (by omega), (hc (f + (1 + i)) (by omega)).1 (by omega), hlaid i hi]
      · left
        refine h.keep o.fit o.many ow hrest ?_
        rw [hF]
        right
        exact hnot o.fit o.many (by rw [hn f (by omega)]; exact not_head127 q)
end
end Go.Proofs.YtpmkpckldnnigaaGreat
