/- Parts: PlainJrn. -/
import Derived.Test.YtpmkpckldnnigaaGreatPr24
import Derived.Test.YtpmkpckldnnigaaGreatPr25
namespace Go.Proofs.YtpmkpckldnnigaaGreat
open Go.RowKit
set_option linter.unusedVariables false
/-- Is the n-th sector the n-th record? -/
def recN (now : List UInt8) (f : Nat) (kind : Int) (n : Nat) : Prop := recB (secOf now ((f + n : Nat) : Int)) kind n = true
structure ScanIs (now : List UInt8) (f : Nat) (kind : Int) (k : Nat) (s : Bool × Nat × List Int) : Prop where
  yes : s.1 = true → s.2.1 = k
  no : s.1 = false → s.2.1 < k ∧ ¬ recN now f kind s.2.1
  recs : ∀ n, n < s.2.1 → recN now f kind n
  le : s.2.1 ≤ k
  dirty : ∀ x ∈ s.2.2, ∃ n : Nat, x = (n : Int) ∧ s.2.1 ≤ n ∧ n < k
  all : ∀ n : Nat, s.2.1 ≤ n → n < k → secOf now ((f + n : Nat) : Int) ≠ zerosL → (n : Int) ∈ s.2.2
theorem scan_is (now : List UInt8) (f : Nat) (kind : Int) : ∀ k, ScanIs now f kind k (scanK now f kind k) := by
  intro k
  induction k with
  | zero => exact ⟨fun _ => rfl, fun h => (by cases h), fun n h => absurd h (by show ¬ n < 0; omega), Nat.le_refl _, fun x h => (by cases h), fun n _ h => absurd h (by omega)⟩
  | succ k ih =>
    unfold scanK
    generalize scanK now f kind k = s at *
    obtain ⟨o, nx, dl⟩ := s
    obtain ⟨h1, h2, h3, h4, h5, h6⟩ := ih
    simp only at h1 h2 h3 h4 h5 h6 ⊢
    split
    · rename_i hc
      have := h1 hc.1
      subst this
      refine ⟨fun _ => rfl, fun h => (by cases h), fun n hn => ?_, Nat.le_refl _, fun x hx => ?_, fun n hn hk hz => ?_⟩
      · simp only at hn
        rcases Nat.lt_or_ge n nx with q | q
        · exact h3 n q
        · have : n = nx := by omega
          subst this; exact hc.2
      · obtain ⟨n, e, q1, q2⟩ := h5 x hx
        omega
      · simp only at hn; omega
    · rename_i hc
      have hlt : nx < k + 1 := by omega
      refine ⟨fun h => (by cases h), fun _ => ⟨hlt, ?_⟩, h3, by simp only; omega, fun x hx => ?_, fun n hn hk hz => ?_⟩
      · simp only
        cases o with
        | false => exact (h2 rfl).2
        | true =>
          have := h1 rfl
          subst this
          exact fun h => hc ⟨rfl, h⟩
      · simp only at hx
        split at hx
        · obtain ⟨n, e, q1, q2⟩ := h5 x hx
          exact ⟨n, e, q1, by omega⟩
        · rcases List.mem_append.1 hx with q | q
          · obtain ⟨n, e, q1, q2⟩ := h5 x q
            exact ⟨n, e, q1, by omega⟩
          · have : x = (k : Int) := by simpa using q
            exact ⟨k, this, by simp only; omega, by omega⟩
      · simp only at hn ⊢
        rcases Nat.lt_or_ge n k with q | q
        · have := h6 n hn q hz
          split
          · exact this
          · exact List.mem_append_left _ this
        · have : n = k := by omega
          subst this
          rw [if_neg hz]
          exact List.mem_append_right _ (by simp)
theorem rdK_calm {D : DiskV} (h : Calm D) (k : Nat) : Calm (rdK D k) ∧ (rdK D k).many = D.many ∧ (rdK D k).waits = D.waits ∧ (rdK D k).now = D.now ∧ (rdK D k).kept = D.kept := by
  obtain ⟨o, e⟩ := rdK_ops D k
  rw [e]; exact ⟨h.ops o, rfl, rfl, rfl, rfl⟩
theorem wipe_calm {f m : Nat} : ∀ (l : List Int) {D : DiskV}, Calm D → f + m ≤ D.many → (∀ x ∈ l, ∃ n : Nat, x = (n : Int) ∧ n < m) → D.waits.length + l.length < 1000000 →
    (wipeK D f m l).2 = 0 ∧ Calm (wipeK D f m l).1 ∧ (wipeK D f m l).1.many = D.many ∧ ∀ k, k < D.many → secOf (wipeK D f m l).1.now (k : Int) = if f ≤ k ∧ ((k : Int) - f) ∈ l then zerosL else secOf D.now (k : Int) := by
  intro l
  induction l with
  | nil => intro D h _ _ _; exact ⟨rfl, h, rfl, fun k _ => by rw [if_neg (by simp)]; rfl⟩
  | cons x l ih =>
    intro D h hfm hx hw
    simp only [List.length_cons] at hw
    obtain ⟨n, rfl, hn⟩ := hx x (List.mem_cons_self ..)
    have e : aWriteV D f m (n : Int) zerosL = writeV D ((f : Int) + n) zerosL := by unfold aWriteV; rw [if_neg (by omega)]
    have e0 : (aWriteV D f m (n : Int) zerosL).2 = 0 := by rw [e, h.write_in (by omega) (by omega)]
    rw [wipeK_step e0, e]
    obtain ⟨c1, c2, c3⟩ := h.write ((f : Int) + n) zerosL_len (by omega)
    obtain ⟨i1, i2, i3, i4⟩ := ih c1 (by rw [c2]; exact hfm) (fun y hy => hx y (List.mem_cons_of_mem _ hy)) (by omega)
    refine ⟨i1, i2, i3.trans c2, fun k hk => ?_⟩
    rw [i4 k (by rw [c2]; exact hk), h.write_now zerosL_len hk]
    by_cases q : f ≤ k ∧ ((k : Int) - f) ∈ l
    · rw [if_pos q, if_pos ⟨q.1, List.mem_cons_of_mem _ q.2⟩]
    · rw [if_neg q]
      by_cases q2 : (f : Int) + n = (k : Int)
      · rw [if_pos q2, if_pos ⟨by omega, by rw [show ((k : Int) - f) = (n : Int) by omega]; exact List.mem_cons_self ..⟩]
      · rw [if_neg q2, if_neg]
        rintro ⟨q3, q4⟩
        rcases List.mem_cons.1 q4 with q5 | q5
        · omega
        · exact q ⟨q3, q5⟩
/-- A journal is opened on a disk whose power stays. -/
theorem open_calm {D : DiskV} {f m : Nat} {kind : Int} (h : Calm D) (hw : D.waits = []) (k1 : 1 ≤ kind) (k2 : kind ≤ 255) (hfm : f + m ≤ D.many) :
    ∃ D1 nx, jOpenV D f m kind = (D1, nx, 0) ∧ nx ≤ m ∧ Calm D1 ∧ D1.waits = [] ∧ D1.many = D.many ∧ (∀ n, n < nx → recN D1.now f kind n) ∧ (∀ n, nx ≤ n → n < m → secOf D1.now ((f + n : Nat) : Int) = zerosL) ∧
      (∀ n, n < nx → secOf D1.now ((f + n : Nat) : Int) = secOf D.now ((f + n : Nat) : Int)) ∧ nx = (scanK D.now f kind m).2.1 := by
  obtain ⟨r1, r2, r3, r4, r5⟩ := rdK_calm h m
  have hs := scan_is D.now f kind m
  have hle := scanK_le D.now f kind m
  have hm4 := h.ok.many1
  have hun : jOpenV D f m kind = if (jWipe D f m kind).2 ≠ 0 then ((jWipe D f m kind).1, 0, (jWipe D f m kind).2)
      else if (scanK D.now f kind m).2.2 = [] then ((jWipe D f m kind).1, (scanK D.now f kind m).2.1, 0)
      else if (flushV (jWipe D f m kind).1).2 ≠ 0 then ((flushV (jWipe D f m kind).1).1, 0, (flushV (jWipe D f m kind).1).2)
      else ((flushV (jWipe D f m kind).1).1, (scanK D.now f kind m).2.1, 0) := by
    unfold jOpenV
    rw [if_neg (by omega), if_neg (by rw [h.off]; simp)]
  unfold jWipe at hun
  generalize scanK D.now f kind m = s at *
  obtain ⟨o, nx, dl⟩ := s
  obtain ⟨h1, h2, h3, h4, h5, h6⟩ := hs
  simp only at h1 h2 h3 h4 h5 h6 hun hle
  obtain ⟨w1, w2, w3, w4⟩ := wipe_calm (f := f) (m := m) dl r1 (by rw [r2]; exact hfm) (fun x hx => by obtain ⟨n, e, _, q⟩ := h5 x hx; exact ⟨n, e, q⟩) (by rw [r3, hw]; simp; omega)
  rw [if_neg (by omega)] at hun
  have sec : ∀ n, n < m → secOf (wipeK (rdK D m) f m dl).1.now ((f + n : Nat) : Int) = if (n : Int) ∈ dl then zerosL else secOf D.now ((f + n : Nat) : Int) := fun n hn => by
    rw [w4 (f + n) (by rw [r2]; omega), r4]
    by_cases q : (n : Int) ∈ dl
    · rw [if_pos ⟨by omega, by rw [show (((f + n : Nat) : Int) - f) = (n : Int) by omega]; exact q⟩, if_pos q]
    · rw [if_neg (fun e => q (by rw [show (n : Int) = (((f + n : Nat) : Int) - f) by omega]; exact e.2)), if_neg q]
  have lo : ∀ n, n < nx → (n : Int) ∉ dl := fun n hn hd => by obtain ⟨n', e, q, _⟩ := h5 _ hd; omega
  have sec1 : ∀ n, n < nx → secOf (wipeK (rdK D m) f m dl).1.now ((f + n : Nat) : Int) = secOf D.now ((f + n : Nat) : Int) := fun n hn => by rw [sec n (by omega), if_neg (lo n hn)]
  have sec2 : ∀ n, nx ≤ n → n < m → secOf (wipeK (rdK D m) f m dl).1.now ((f + n : Nat) : Int) = zerosL := fun n hn hm => by
    rw [sec n hm]
    split
    · rfl
    · rename_i q
      apply Classical.byContradiction
      intro hz
      exact q (h6 n hn hm hz)
  have rec1 : ∀ n, n < nx → recN (wipeK (rdK D m) f m dl).1.now f kind n := fun n hn => by
    have := h3 n hn
    unfold recN at this ⊢
    rw [sec1 n hn]; exact this
  by_cases hd : dl = []
  · rw [if_pos hd] at hun
    refine ⟨_, nx, hun, h4, w2, ?_, w3.trans r2, rec1, sec2, sec1, rfl⟩
    rw [hd]; exact r3.trans hw
  · rw [if_neg hd] at hun
    obtain ⟨fl, fc⟩ := w2.flush
    rw [fl, if_neg (by simp)] at hun
    exact ⟨_, nx, hun, h4, fc, rfl, w3.trans r2, rec1, sec2, sec1, rfl⟩
end Go.Proofs.YtpmkpckldnnigaaGreat
namespace Go.Proofs.YtpmkpckldnnigaaGreat
open Go.RowKit
set_option linter.unusedVariables false
theorem secOf_part {l b : List UInt8} {n k many : Nat} (hl : l.length = many * 128) (hb : b.length ≤ 128) (hn : n < many) (hk : k < many) : secOf (splice l (n * 128) b) (k : Int) = if k = n then splice (secOf l (k : Int)) 0 b else secOf l (k : Int) := by
  have h1 : (secOf (splice l (n * 128) b) (k : Int)).length = 128 := secOf_len (s := many) (by rw [splice_len (by rw [hl]; omega), hl]) (by omega) (by omega)
  have h2 : (secOf l (k : Int)).length = 128 := secOf_len (s := many) hl (by omega) (by omega)
  split
  · rename_i e
    subst e
    have h3 : (splice (secOf l (k : Int)) 0 b).length = 128 := by rw [splice_len (by omega), h2]
    refine byte_ext (by omega) (fun i hi => ?_)
    rw [byteAt_sec (by omega), byteAt_splice (by rw [hl]; omega), byteAt_splice (by omega)]
    by_cases q : i < b.length
    · rw [if_pos (by omega), if_pos (by omega), Nat.add_sub_cancel_left, Nat.sub_zero]
    · rw [if_neg (by omega), if_neg (by omega), byteAt_sec (by omega)]
  · rename_i e
    refine byte_ext (by omega) (fun i hi => ?_)
    rw [byteAt_sec (by omega), byteAt_sec (by omega), byteAt_splice (by rw [hl]; omega), if_neg (by omega)]
/-- What a crash cannot break: what holds of a sector however much of a piece comes over it. -/
theorem crash_closed {D : DiskV} (h : D.Ok) (cs : List UInt8) (P : Nat → List UInt8 → Prop) (h0 : ∀ s, s < D.many → P s (secOf D.kept (s : Int)))
    (hp : ∀ p ∈ D.waits, ∀ (S : List UInt8) (c : Nat), c ≤ 128 → S.length = 128 → P p.1 S → P p.1 (splice S 0 (p.2.take c))) : ∀ s, s < D.many → P s (secOf (crashV D cs).kept (s : Int)) := by
  have key : ∀ k, k ≤ D.waits.length → ∀ s, s < D.many → P s (secOf (crashK D.waits cs (D.kept, D.inuse) k).1 (s : Int)) := by
    intro k
    induction k with
    | zero => intro _ s hs; exact h0 s hs
    | succ k ih =>
      intro hk s hs
      obtain ⟨p1, p2⟩ := pieceAt_ok h (show k < D.waits.length by omega)
      have hl := (crashK_len h cs k (by omega)).1
      have hmem : pieceAt D.waits k ∈ D.waits := by unfold pieceAt; rw [List.getD_eq_getElem?_getD, List.getElem?_eq_getElem (by omega)]; exact List.getElem_mem _
      show P s (secOf (splice (crashK D.waits cs (D.kept, D.inuse) k).1 ((pieceAt D.waits k).1 * 128) ((pieceAt D.waits k).2.take (min (byteAt cs k) 128))) (s : Int))
      rw [secOf_part hl (by rw [List.length_take]; omega) p1 hs]
      split
      · rename_i e
        subst e
        exact hp _ hmem _ _ (by omega) (secOf_len (s := D.many) hl (by omega) (by omega)) (ih (by omega) _ hs)
      · exact ih (by omega) s hs
  exact key _ (Nat.min_le_left _ _)
/-- A record's sector. -/
def seal3 (n : Nat) (l : List UInt8) : List UInt8 := sealL 3 n l
theorem seal3_rec {now : List UInt8} {n : Nat} {l : List UInt8} (hl : l.length ≤ 113) (hn : n < 9223372036854775808) (h : secOf now ((1 + n : Nat) : Int) = seal3 n l) : recN now 1 3 n ∧ openLoad (secOf now ((1 + n : Nat) : Int)) = l := by
  obtain ⟨q1, q2, q3⟩ := opens_seal (kind := 3) (n := n) (load := l) (by omega) (by omega) hn hl
  unfold recN recB
  rw [h]
  unfold seal3
  refine ⟨?_, q3⟩
  rw [show opens (sealL 3 n l) 3 = true from q1, show openNum (sealL 3 n l) = n from q2, Bool.true_and, decide_eq_true_iff]
  unfold sg
  omega
/-- A sector of a journal behind a crash: what was flushed stands; behind it is a record that was added, or none. -/
def SecP (sure all : List (List UInt8)) (n : Nat) (S : List UInt8) : Prop :=
  (n < sure.length → S = seal3 n (all.getD n [])) ∧ (sure.length ≤ n → byteAt S 127 = 0 ∨ byteAt S 0 = 0 ∨ (n < all.length ∧ S = seal3 n (all.getD n [])))
theorem SecP.rec_ {sure all : List (List UInt8)} {now : List UInt8} {n : Nat} (h : SecP sure all n (secOf now ((1 + n : Nat) : Int))) (hs : sure.length ≤ all.length) (hr : recN now 1 3 n) : n < all.length ∧ secOf now ((1 + n : Nat) : Int) = seal3 n (all.getD n []) := by
  rcases Nat.lt_or_ge n sure.length with q | q
  · exact ⟨by omega, h.1 q⟩
  · unfold recN recB at hr
    rw [Bool.and_eq_true] at hr
    obtain ⟨k0, k1, _⟩ := opens_kind hr.1
    rcases h.2 q with e | e | e
    · omega
    · omega
    · exact e
/-- Noughts over a part of a sector. -/
theorem SecP.wiped {sure all : List (List UInt8)} {n c : Nat} {S : List UInt8} (hn : sure.length ≤ n) (hS : S.length = 128) (hc : c ≤ 128) (h : SecP sure all n S) : SecP sure all n (splice S 0 (zerosL.take c)) := by
  refine ⟨fun q => absurd q (by omega), fun _ => ?_⟩
  have hl : (zerosL.take c).length = c := by rw [List.length_take, zerosL_len]; omega
  rcases Nat.eq_zero_or_pos c with q | q
  · subst q
    have e : splice S 0 (zerosL.take 0) = S := by simp [splice]
    rw [e]; exact h.2 hn
  · right; left
    rw [byteAt_splice (by rw [hl, hS]; omega), if_pos (by rw [hl]; omega), Nat.sub_zero, byteAt_take' (by omega)]
    decide
/-- The power is on; there is room for all; what is read is what waits, over what is kept. -/
structure Fit (D : DiskV) : Prop where
  ok : D.Ok
  off : D.off = false
  room : D.room = D.many
  now : D.now = (keepK D.waits (D.kept, D.inuse) D.waits.length).1
  might : D.might = (keepK D.waits (D.kept, D.inuse) D.waits.length).2
theorem Calm.fit {D : DiskV} (h : Calm D) : Fit D := ⟨h.ok, h.off, h.room, h.now, h.might⟩
section
variable {D : DiskV}
theorem Fit.full (h : Fit D) {n : Int} (h0 : 0 ≤ n) (h1 : n < D.many) : fullB D n = false := by
  unfold fullB
  cases hb : D.might.getD n.toNat false with
  | true => rfl
  | false =>
    have := trues_all (by rw [h.ok.might]; omega) hb
    rw [h.ok.might] at this
    have hr := h.room
    have : (D.room - (trues D.might : Nat) == 0) = false := by rw [beq_eq_false_iff_ne]; omega
    rw [this]; rfl
theorem Fit.may (h : Fit D) (n : Int) : mayV D n = if n < 0 ∨ (D.many : Int) ≤ n then 51 else 0 := by
  unfold mayV; rw [h.off]; simp
theorem Fit.write_in (h : Fit D) {n : Int} (h0 : 0 ≤ n) (h1 : n < D.many) (b : List UInt8) : writeV D n b = (goesV (putD D n b) 2, if D.cut = 0 then 50 else 0) := by
  unfold writeV
  have hm : mayV D n = 0 := by rw [h.may, if_neg (by omega)]
  rw [if_neg (by omega), if_neg (by rw [h.full h0 h1]; simp)]
theorem Fit.put (h : Fit D) {n : Int} (h0 : 0 ≤ n) (h1 : n < D.many) {b : List UInt8} (hb : b.length = 128) (hw : D.waits.length < 1000000) (hc : D.cut ≠ 0) : Fit (goesV (putD D n b) 2) := by
  have hok := goesV_ok (putD_ok h.ok h0 h1 hb hw) 2
  refine ⟨hok, ?_, h.room, ?_, ?_⟩
  · show (D.cut == 0) = false
    rw [beq_eq_false_iff_ne]; exact hc
  · show splice D.now (n.toNat * 128) b = (keepK (D.waits ++ [(n.toNat, b)]) (D.kept, D.inuse) (D.waits ++ [(n.toNat, b)]).length).1
    rw [keepK_app, ← h.now]
  · show D.might.set n.toNat true = (keepK (D.waits ++ [(n.toNat, b)]) (D.kept, D.inuse) (D.waits ++ [(n.toNat, b)]).length).2
    rw [keepK_app, ← h.might]
theorem Fit.put_now (h : Fit D) {n : Int} (h0 : 0 ≤ n) (h1 : n < D.many) {b : List UInt8} (hb : b.length = 128) {k : Nat} (hk : k < D.many) : secOf (goesV (putD D n b) 2).now (k : Int) = if n = (k : Int) then b else secOf D.now (k : Int) := by
  show secOf (splice D.now (n.toNat * 128) b) (k : Int) = _
  rw [secOf_splice h.ok.now hb (by omega) hk]
  by_cases e : k = n.toNat
  · rw [if_pos e, if_pos (by omega)]
  · rw [if_neg e, if_neg (by omega)]
theorem Fit.ops (h : Fit D) (o : List Int) : Fit { D with ops := o } := ⟨⟨h.ok.many0, h.ok.many1, h.ok.kept, h.ok.now, h.ok.inuse, h.ok.might, h.ok.waits, h.ok.room, h.ok.cut, h.ok.few⟩, h.off, h.room, h.now, h.might⟩
theorem Fit.flush_ok (h : Fit D) (hc : D.cut ≠ 0) : flushV D = (flushD (goesV D 3), 0) ∧ Fit (flushD (goesV D 3)) ∧ (flushD (goesV D 3)).kept = D.now ∧ (flushD (goesV D 3)).now = D.now := by
  have hm : mayV D 0 = 0 := by rw [h.may, if_neg (by have := h.ok.many0; omega)]
  refine ⟨by unfold flushV; rw [if_neg (by omega), if_neg hc], ⟨flushD_ok (goesV_ok h.ok 3), ?_, h.room, ?_, ?_⟩, h.now.symm, rfl⟩
  · show (D.cut == 0) = false
    rw [beq_eq_false_iff_ne]; exact hc
  · show D.now = _; rw [h.now]; rfl
  · show D.might = _; rw [h.might]; rfl
theorem Fit.flush_cut (h : Fit D) (hc : D.cut = 0) : flushV D = (goesV D 3, 50) := by
  have hm : mayV D 0 = 0 := by rw [h.may, if_neg (by have := h.ok.many0; omega)]
  unfold flushV; rw [if_neg (by omega), if_pos hc]
end
/-- What waits besides are noughts for some sectors. -/
def Zeros (D D' : DiskV) (f : Nat) (l : List Int) : Prop := ∀ p ∈ D'.waits, p ∈ D.waits ∨ (p.2 = zerosL ∧ ∃ n : Nat, p.1 = f + n ∧ (n : Int) ∈ l)
theorem wipe_fit {f m : Nat} : ∀ (l : List Int) {D : DiskV}, Fit D → f + m ≤ D.many → (∀ x ∈ l, ∃ n : Nat, x = (n : Int) ∧ n < m) → D.waits.length + l.length < 1000000 →
    (wipeK D f m l).1.Ok ∧ (wipeK D f m l).1.many = D.many ∧ (wipeK D f m l).1.kept = D.kept ∧ (wipeK D f m l).1.waits.length ≤ D.waits.length + l.length ∧ Zeros D (wipeK D f m l).1 f l ∧
    (((wipeK D f m l).2 = 0 ∧ Fit (wipeK D f m l).1 ∧ ∀ k, k < D.many → secOf (wipeK D f m l).1.now (k : Int) = if f ≤ k ∧ ((k : Int) - f) ∈ l then zerosL else secOf D.now (k : Int)) ∨
      ((wipeK D f m l).2 = 50 ∧ (wipeK D f m l).1.off = true)) := by
  intro l
  induction l with
  | nil => intro D h _ _ _; exact ⟨h.ok, rfl, rfl, by simp [wipeK], fun p hp => .inl hp, .inl ⟨rfl, h, fun k _ => by rw [if_neg (by simp)]; rfl⟩⟩
  | cons x l ih =>
    intro D h hfm hx hw
    simp only [List.length_cons] at hw
    obtain ⟨n, rfl, hn⟩ := hx x (List.mem_cons_self ..)
    have e : aWriteV D f m (n : Int) zerosL = (goesV (putD D ((f : Int) + n) zerosL) 2, if D.cut = 0 then 50 else 0) := by
      unfold aWriteV; rw [if_neg (by omega)]; exact h.write_in (by omega) (by omega) _
    have hmem : ∀ p ∈ (goesV (putD D ((f : Int) + n) zerosL) 2).waits, p ∈ D.waits ∨ (p.2 = zerosL ∧ p.1 = f + n) := fun p hp => by
      rcases List.mem_append.1 (show p ∈ D.waits ++ [(((f : Int) + n).toNat, zerosL)] from hp) with q | q
      · exact .inl q
      · obtain rfl : p = (((f : Int) + n).toNat, zerosL) := by simpa using q
        exact .inr ⟨rfl, by show ((f : Int) + n).toNat = f + n; omega⟩
    have hokp := goesV_ok (putD_ok h.ok (n := (f : Int) + n) (by omega) (by omega) zerosL_len (by omega)) 2
    by_cases hc : D.cut = 0
    · have e2 : (aWriteV D f m (n : Int) zerosL).2 ≠ 0 := by rw [e, if_pos hc]; simp
      rw [wipeK_stop e2, e]
      refine ⟨hokp, rfl, rfl, by simp [goesV, putD], fun p hp => ?_, .inr ⟨by simp only; rw [if_pos hc], by show (D.cut == 0) = true; rw [hc]; rfl⟩⟩
      rcases hmem p hp with q | ⟨q1, q2⟩
      · exact .inl q
      · exact .inr ⟨q1, n, q2, List.mem_cons_self ..⟩
    · have e2 : (aWriteV D f m (n : Int) zerosL).2 = 0 := by rw [e, if_neg hc]
      rw [wipeK_step e2, e]
      have hf := h.put (n := (f : Int) + n) (by omega) (by omega) zerosL_len (by omega) hc
      have hwl : (goesV (putD D ((f : Int) + n) zerosL) 2).waits.length = D.waits.length + 1 := by simp [goesV, putD]
      obtain ⟨i1, i2, i3, i4, i5, i6⟩ := ih hf hfm (fun y hy => hx y (List.mem_cons_of_mem _ hy)) (by omega)
      refine ⟨i1, i2, i3, by simp only [List.length_cons]; omega, fun p hp => ?_, ?_⟩
      · rcases i5 p hp with q | ⟨q1, n', q2, q3⟩
        · rcases hmem p q with q | ⟨q1, q2⟩
          · exact .inl q
          · exact .inr ⟨q1, n, q2, List.mem_cons_self ..⟩
        · exact .inr ⟨q1, n', q2, List.mem_cons_of_mem _ q3⟩
      · rcases i6 with ⟨j1, j2, j3⟩ | j
        · refine .inl ⟨j1, j2, fun k hk => ?_⟩
          rw [j3 k hk, h.put_now (by omega) (by omega) zerosL_len hk]
          by_cases q : f ≤ k ∧ ((k : Int) - f) ∈ l
          · rw [if_pos q, if_pos ⟨q.1, List.mem_cons_of_mem _ q.2⟩]
          · rw [if_neg q]
            by_cases q2 : (f : Int) + n = (k : Int)
            · rw [if_pos q2, if_pos ⟨by omega, by rw [show ((k : Int) - f) = (n : Int) by omega]; exact List.mem_cons_self ..⟩]
            · rw [if_neg q2, if_neg]
              rintro ⟨q3, q4⟩
              rcases List.mem_cons.1 q4 with q5 | q5
              · omega
              · exact q ⟨q3, q5⟩
        · exact .inr j
theorem rdK_fit {D : DiskV} (h : Fit D) (k : Nat) : Fit (rdK D k) ∧ (rdK D k).many = D.many ∧ (rdK D k).waits = D.waits ∧ (rdK D k).now = D.now ∧ (rdK D k).kept = D.kept := by
  obtain ⟨o, e⟩ := rdK_ops D k
  rw [e]; exact ⟨h.ops o, rfl, rfl, rfl, rfl⟩
/-- A journal is opened while the power may go. -/
theorem open_fit {D : DiskV} {f m : Nat} {kind : Int} (h : Fit D) (hw : D.waits = []) (k1 : 1 ≤ kind) (k2 : kind ≤ 255) (hfm : f + m ≤ D.many) :
    ∃ D1 nx er, jOpenV D f m kind = (D1, nx, er) ∧ D1.Ok ∧ D1.many = D.many ∧ D1.waits.length ≤ m ∧
      ((er = 0 ∧ nx = (scanK D.now f kind m).2.1 ∧ nx ≤ m ∧ Fit D1 ∧ D1.waits = [] ∧ (∀ n, n < nx → recN D1.now f kind n ∧ secOf D1.now ((f + n : Nat) : Int) = secOf D.now ((f + n : Nat) : Int)) ∧ (∀ n, nx ≤ n → n < m → secOf D1.now ((f + n : Nat) : Int) = zerosL)) ∨
        (er = 50 ∧ D1.off = true ∧ D1.kept = D.kept ∧ ∀ p ∈ D1.waits, p.2 = zerosL ∧ ∃ n : Nat, p.1 = f + n ∧ (scanK D.now f kind m).2.1 ≤ n ∧ n < m)) := by
  obtain ⟨r1, r2, r3, r4, r5⟩ := rdK_fit h m
  have hs := scan_is D.now f kind m
  have hle := scanK_le D.now f kind m
  have hm4 := h.ok.many1
  have hun : jOpenV D f m kind = if (jWipe D f m kind).2 ≠ 0 then ((jWipe D f m kind).1, 0, (jWipe D f m kind).2)
      else if (scanK D.now f kind m).2.2 = [] then ((jWipe D f m kind).1, (scanK D.now f kind m).2.1, 0)
      else if (flushV (jWipe D f m kind).1).2 ≠ 0 then ((flushV (jWipe D f m kind).1).1, 0, (flushV (jWipe D f m kind).1).2)
      else ((flushV (jWipe D f m kind).1).1, (scanK D.now f kind m).2.1, 0) := by
    unfold jOpenV
    rw [if_neg (by omega), if_neg (by rw [h.off]; simp)]
  unfold jWipe at hun
  generalize scanK D.now f kind m = s at *
  obtain ⟨o, nx, dl⟩ := s
  obtain ⟨h1, h2, h3, h4, h5, h6⟩ := hs
  simp only at h1 h2 h3 h4 h5 h6 hun hle ⊢
  obtain ⟨w1, w2, w3, w4, w5, w6⟩ := wipe_fit (f := f) (m := m) dl r1 (by rw [r2]; exact hfm) (fun x hx => by obtain ⟨n, e, _, q⟩ := h5 x hx; exact ⟨n, e, q⟩) (by rw [r3, hw]; simp; omega)
  have hlen : (wipeK (rdK D m) f m dl).1.waits.length ≤ m := by rw [r3, hw] at w4; simp at w4; omega
  have hzw : ∀ p ∈ (wipeK (rdK D m) f m dl).1.waits, p.2 = zerosL ∧ ∃ n : Nat, p.1 = f + n ∧ nx ≤ n ∧ n < m := fun p hp => by
    rcases w5 p hp with q | ⟨q1, n, q2, q3⟩
    · rw [r3, hw] at q; cases q
    · obtain ⟨n', e1, e2, e3⟩ := h5 _ q3
      have : n = n' := by omega
      subst this
      exact ⟨q1, n, q2, e2, e3⟩
  rcases w6 with ⟨v1, v2, v3⟩ | ⟨v1, v2⟩
  · rw [if_neg (by omega)] at hun
    have sec : ∀ n, n < m → secOf (wipeK (rdK D m) f m dl).1.now ((f + n : Nat) : Int) = if (n : Int) ∈ dl then zerosL else secOf D.now ((f + n : Nat) : Int) := fun n hn => by
      rw [v3 (f + n) (by rw [r2]; omega), r4]
      by_cases q : (n : Int) ∈ dl
      · rw [if_pos ⟨by omega, by rw [show (((f + n : Nat) : Int) - f) = (n : Int) by omega]; exact q⟩, if_pos q]
      · rw [if_neg (fun e => q (by rw [show (n : Int) = (((f + n : Nat) : Int) - f) by omega]; exact e.2)), if_neg q]
    have lo : ∀ n, n < nx → (n : Int) ∉ dl := fun n hn hd => by obtain ⟨n', e, q, _⟩ := h5 _ hd; omega
    have sec1 : ∀ n, n < nx → secOf (wipeK (rdK D m) f m dl).1.now ((f + n : Nat) : Int) = secOf D.now ((f + n : Nat) : Int) := fun n hn => by rw [sec n (by omega), if_neg (lo n hn)]
    have sec2 : ∀ n, nx ≤ n → n < m → secOf (wipeK (rdK D m) f m dl).1.now ((f + n : Nat) : Int) = zerosL := fun n hn hm => by
      rw [sec n hm]
      split
      · rfl
      · rename_i q
        apply Classical.byContradiction
        intro hz
        exact q (h6 n hn hm hz)
    have rec1 : ∀ n, n < nx → recN (wipeK (rdK D m) f m dl).1.now f kind n ∧ secOf (wipeK (rdK D m) f m dl).1.now ((f + n : Nat) : Int) = secOf D.now ((f + n : Nat) : Int) := fun n hn => by
      have := h3 n hn
      refine ⟨?_, sec1 n hn⟩
      unfold recN at this ⊢
      rw [sec1 n hn]; exact this
    by_cases hd : dl = []
    · rw [if_pos hd] at hun
      have hw0 : (wipeK (rdK D m) f m dl).1.waits = [] := by rw [hd]; exact r3.trans hw
      exact ⟨_, nx, 0, hun, w1, w2.trans r2, hlen, .inl ⟨rfl, rfl, h4, v2, hw0, rec1, sec2⟩⟩
    · rw [if_neg hd] at hun
      by_cases hc : (wipeK (rdK D m) f m dl).1.cut = 0
      · rw [v2.flush_cut hc, if_pos (by simp)] at hun
        refine ⟨_, 0, 50, hun, goesV_ok w1 3, w2.trans r2, hlen, .inr ⟨rfl, ?_, w3.trans r5, hzw⟩⟩
        show ((wipeK (rdK D m) f m dl).1.cut == 0) = true
        rw [hc]; rfl
      · obtain ⟨fl, fc, fk, fn⟩ := v2.flush_ok hc
        rw [fl, if_neg (by simp)] at hun
        exact ⟨_, nx, 0, hun, fc.ok, w2.trans r2, by show ([] : List (Nat × List UInt8)).length ≤ m; simp, .inl ⟨rfl, rfl, h4, fc, rfl, rec1, sec2⟩⟩
  · rw [v1, if_pos (by simp)] at hun
    exact ⟨_, 0, 50, hun, w1, w2.trans r2, hlen, .inr ⟨rfl, v2, w3.trans r5, hzw⟩⟩
/-- While the power is on: what was added stands, what was flushed is kept. -/
structure PhA (D : DiskV) (sure all : List (List UInt8)) : Prop where
  fit : Fit D
  many : D.many = 10
  le : sure.length ≤ all.length
  le8 : all.length ≤ 8
  pre : all.take sure.length = sure
  len : ∀ l ∈ all, l.length ≤ 113
  now : ∀ n, n < 8 → secOf D.now ((1 + n : Nat) : Int) = if n < all.length then seal3 n (all.getD n []) else zerosL
  kept : ∀ n, n < 8 → secOf D.kept ((1 + n : Nat) : Int) = if n < sure.length then seal3 n (all.getD n []) else zerosL
  waits : ∀ p ∈ D.waits, ∃ n : Nat, p.1 = 1 + n ∧ sure.length ≤ n ∧ n < all.length ∧ p.2 = seal3 n (all.getD n [])
  few : D.waits.length + sure.length ≤ all.length
/-- Behind a crash. -/
structure PhC (D : DiskV) (sure all : List (List UInt8)) : Prop where
  fit : Fit D
  many : D.many = 10
  le : sure.length ≤ all.length
  le8 : all.length ≤ 8
  pre : all.take sure.length = sure
  len : ∀ l ∈ all, l.length ≤ 113
  waits : D.waits = []
  secs : ∀ n, n < 8 → SecP sure all n (secOf D.now ((1 + n : Nat) : Int))
theorem crash_fit {D : DiskV} (h : D.Ok) (hr : D.room = D.many) (cs : List UInt8) : Calm (crashV D cs) ∧ (crashV D cs).waits = [] ∧ (crashV D cs).many = D.many ∧ (crashV D cs).now = (crashV D cs).kept :=
  ⟨⟨crashV_ok h cs, rfl, rfl, hr, rfl, rfl⟩, rfl, rfl, rfl⟩
/-- The power is on, or went at the last operation. -/
structure PhX (D : DiskV) (sure all : List (List UInt8)) : Prop where
  ok : D.Ok
  room : D.room = D.many
  many : D.many = 10
  le : sure.length ≤ all.length
  le8 : all.length ≤ 8
  pre : all.take sure.length = sure
  len : ∀ l ∈ all, l.length ≤ 113
  kept : ∀ n, n < 8 → secOf D.kept ((1 + n : Nat) : Int) = if n < sure.length then seal3 n (all.getD n []) else zerosL
  waits : ∀ p ∈ D.waits, ∃ n : Nat, p.1 = 1 + n ∧ sure.length ≤ n ∧ n < all.length ∧ p.2 = seal3 n (all.getD n [])
theorem PhA.x {D : DiskV} {sure all : List (List UInt8)} (h : PhA D sure all) : PhX D sure all := ⟨h.fit.ok, h.fit.room, h.many, h.le, h.le8, h.pre, h.len, h.kept, h.waits⟩
theorem seal3_len {n : Nat} {l : List UInt8} (h : l.length ≤ 113) : (seal3 n l).length = 128 := sealL_len 3 n l h
theorem PhX.crash {D : DiskV} {sure all : List (List UInt8)} (h : PhX D sure all) (cs : List UInt8) : PhC (crashV D cs) sure all := by
  obtain ⟨c1, c2, c3, c4⟩ := crash_fit h.ok h.room cs
  have key := crash_closed h.ok cs (fun s S => ∀ n, s = 1 + n → n < 8 → (n < sure.length → S = seal3 n (all.getD n [])) ∧ (sure.length ≤ n → byteAt S 127 = 0 ∨ (n < all.length ∧ S = seal3 n (all.getD n []))))
    (fun s hs n hn h8 => by
      subst hn
      rw [h.kept n h8]
      refine ⟨fun q => by rw [if_pos q], fun q => .inl ?_⟩
      rw [if_neg (by omega)]; decide)
    (fun p hp S c hc hS hP n hn h8 => by
      obtain ⟨n', e1, e2, e3, e4⟩ := h.waits p hp
      have : n = n' := by omega
      subst this
      obtain ⟨h1, h2⟩ := hP n hn h8
      have hmem : all.getD n [] ∈ all := by rw [List.getD_eq_getElem?_getD, List.getElem?_eq_getElem e3]; exact List.getElem_mem _
      have hsl := seal3_len (n := n) (h.len _ hmem)
      refine ⟨fun q => absurd q (by omega), fun _ => ?_⟩
      rw [e4]
      have hl : ((seal3 n (all.getD n [])).take c).length = c := by rw [List.length_take]; omega
      by_cases q : c = 128
      · right
        refine ⟨e3, ?_⟩
        rw [List.take_of_length_le (by omega), splice_all _ _ (by omega)]
      · rcases h2 e2 with z | ⟨_, z⟩
        · left
          rw [byteAt_splice (by omega), if_neg (by omega)]; exact z
        · right
          refine ⟨e3, ?_⟩
          rw [z]
          unfold splice
          rw [List.take_zero, hl, Nat.zero_add]
          show _ ++ _ = _
          first
            | rw [List.nil_append, List.take_append_drop]
            | simp)
  refine ⟨c1.fit, c3.trans h.many, h.le, h.le8, h.pre, h.len, c2, fun n hn => ?_⟩
  rw [c4]
  obtain ⟨k1, k2⟩ := key (1 + n) (by rw [h.many]; omega) n rfl hn
  exact ⟨k1, fun q => by rcases k2 q with z | z; exact .inl z; exact .inr (.inr z)⟩
theorem writeV_room (D : DiskV) (n : Int) (b : List UInt8) : (writeV D n b).1.room = D.room := by
  unfold writeV
  split
  · rfl
  · split
    · rfl
    · rfl
theorem aWriteV_room (D : DiskV) (f m : Nat) (n : Int) (b : List UInt8) : (aWriteV D f m n b).1.room = D.room := by
  unfold aWriteV
  split
  · rfl
  · exact writeV_room _ _ _
theorem wipeK_room (f m : Nat) : ∀ (l : List Int) (D : DiskV), (wipeK D f m l).1.room = D.room := by
  intro l
  induction l with
  | nil => intro D; rfl
  | cons x l ih =>
    intro D
    by_cases h : (aWriteV D f m x zerosL).2 = 0
    · rw [wipeK_step h, ih]; exact aWriteV_room _ _ _ _ _
    · rw [wipeK_stop h]; exact aWriteV_room _ _ _ _ _
theorem flushV_room (D : DiskV) : (flushV D).1.room = D.room := by
  unfold flushV
  split
  · rfl
  · split
    · rfl
    · rfl
theorem jWipe_room (D : DiskV) (f m : Nat) (kind : Int) : (jWipe D f m kind).1.room = D.room := by
  unfold jWipe
  rw [wipeK_room]
  obtain ⟨o, e⟩ := rdK_ops D m
  rw [e]
theorem jOpenV_room (D : DiskV) (f m : Nat) (kind : Int) : (jOpenV D f m kind).1.room = D.room := by
  have h1 := jWipe_room D f m kind
  have h2 := flushV_room (jWipe D f m kind).1
  unfold jOpenV
  split
  · rfl
  · split
    · rfl
    · split
      · exact h1
      · split
        · exact h1
        · split
          · exact h2.trans h1
          · exact h2.trans h1
/-- Opened behind a crash: it has all that was flushed, and behind it what was added; or the power goes, and then as behind a crash. -/
theorem PhC.open_ {D : DiskV} {sure all : List (List UInt8)} (h : PhC D sure all) :
    ∃ D1 nx er, jOpenV D 1 8 3 = (D1, nx, er) ∧ ((er = 0 ∧ sure.length ≤ nx ∧ nx ≤ all.length ∧ PhA D1 (all.take nx) (all.take nx)) ∨ (er = 50 ∧ D1.off = true ∧ ∀ cs, PhC (crashV D1 cs) sure all)) := by
  obtain ⟨D1, nx, er, e1, ok1, m1, w1, hc⟩ := open_fit (f := 1) (m := 8) (kind := 3) h.fit h.waits (by omega) (by omega) (by rw [h.many]; omega)
  have hs := scan_is D.now 1 3 8
  have hge : sure.length ≤ (scanK D.now 1 3 8).2.1 := by
    apply Classical.byContradiction
    intro hlt
    have hlt' : (scanK D.now 1 3 8).2.1 < sure.length := by omega
    have hno : (scanK D.now 1 3 8).1 = false := by
      cases q : (scanK D.now 1 3 8).1 with
      | false => rfl
      | true => have := hs.yes q; have := h.le; have := h.le8; omega
    have hsec := (h.secs _ (show (scanK D.now 1 3 8).2.1 < 8 by have := h.le; have := h.le8; omega)).1 hlt'
    refine (hs.no hno).2 (seal3_rec (h.len _ ?_) (by have := h.le; have := h.le8; omega) hsec).1
    rw [List.getD_eq_getElem?_getD, List.getElem?_eq_getElem (by have := h.le; omega)]; exact List.getElem_mem _
  have hrec : ∀ n, n < (scanK D.now 1 3 8).2.1 → n < all.length ∧ secOf D.now ((1 + n : Nat) : Int) = seal3 n (all.getD n []) := fun n hn =>
    (h.secs n (by have := hs.le; omega)).rec_ h.le (hs.recs n hn)
  have hle : (scanK D.now 1 3 8).2.1 ≤ all.length := by
    rcases Nat.eq_zero_or_pos (scanK D.now 1 3 8).2.1 with q | q
    · omega
    · have := (hrec ((scanK D.now 1 3 8).2.1 - 1) (by omega)).1; omega
  refine ⟨D1, nx, er, e1, ?_⟩
  rcases hc with ⟨a1, a2, a3, a4, a5, a6, a7⟩ | ⟨a1, a2, a3, a4⟩
  · left
    rw [← a2] at hge hrec hle
    refine ⟨a1, hge, hle, ?_⟩
    have htl : (all.take nx).length = nx := by rw [List.length_take]; omega
    have hgd : ∀ n, n < nx → (all.take nx).getD n [] = all.getD n [] := fun n hn => by rw [List.getD_eq_getElem?_getD, List.getD_eq_getElem?_getD, List.getElem?_take, if_pos hn]
    have hkn : D1.kept = D1.now := by rw [a4.now, a5]; rfl
    have hnow : ∀ n, n < 8 → secOf D1.now ((1 + n : Nat) : Int) = if n < (all.take nx).length then seal3 n ((all.take nx).getD n []) else zerosL := fun n hn => by
      rw [htl]
      split
      · rename_i q
        rw [(a6 n q).2, hgd n q]; exact (hrec n q).2
      · rename_i q
        exact a7 n (by omega) hn
    exact ⟨a4, m1.trans h.many, Nat.le_refl _, by omega, List.take_length, fun l hl => h.len l (List.mem_of_mem_take hl), hnow, fun n hn => by rw [hkn]; exact hnow n hn, fun p hp => (by rw [a5] at hp; cases hp), by rw [a5]; simp⟩
  · right
    refine ⟨a1, a2, fun cs => ?_⟩
    have hroom : D1.room = D1.many := by
      have := jOpenV_room D 1 8 3
      rw [e1] at this
      rw [show D1.room = D.room from this, h.fit.room, m1]
    obtain ⟨c1, c2, c3, c4⟩ := crash_fit ok1 hroom cs
    have hkn : D.kept = D.now := by rw [h.fit.now, h.waits]; rfl
    have key := crash_closed ok1 cs (fun s S => ∀ n, s = 1 + n → n < 8 → SecP sure all n S)
      (fun s hs' n hn h8 => by subst hn; rw [a3, hkn]; exact h.secs n h8)
      (fun p hp S c hc hS hP n hn h8 => by
        obtain ⟨z, n', e2, e3, e4⟩ := a4 p hp
        have : n = n' := by omega
        subst this
        rw [z]
        exact (hP n hn h8).wiped (by omega) hS hc)
    refine ⟨c1.fit, c3.trans (m1.trans h.many), h.le, h.le8, h.pre, h.len, c2, fun n hn => ?_⟩
    rw [c4]
    exact key (1 + n) (by rw [m1, h.many]; omega) n rfl hn
theorem PhA.flush {D : DiskV} {sure all : List (List UInt8)} (h : PhA D sure all) :
    ((flushV D).2 = 0 ∧ PhA (flushV D).1 all all) ∨ ((flushV D).2 = 50 ∧ (flushV D).1.off = true ∧ PhX (flushV D).1 sure all) := by
  by_cases hc : D.cut = 0
  · right
    rw [h.fit.flush_cut hc]
    have hx := h.x
    refine ⟨rfl, by show (D.cut == 0) = true; rw [hc]; rfl, ⟨goesV_ok hx.ok 3, hx.room, hx.many, hx.le, hx.le8, hx.pre, hx.len, hx.kept, hx.waits⟩⟩
  · left
    obtain ⟨e, f1, f2, f3⟩ := h.fit.flush_ok hc
    rw [e]
    refine ⟨rfl, ⟨f1, h.many, Nat.le_refl _, h.le8, List.take_length, h.len, fun n hn => ?_, fun n hn => ?_, fun p hp => (by cases hp), by show ([] : List (Nat × List UInt8)).length + all.length ≤ all.length; simp⟩⟩
    · simp only; rw [f3]; exact h.now n hn
    · simp only; rw [f2]; exact h.now n hn
theorem getD_app {all : List (List UInt8)} {b : List UInt8} {n : Nat} (hn : n < all.length) : (all ++ [b]).getD n [] = all.getD n [] := by
  rw [List.getD_eq_getElem?_getD, List.getD_eq_getElem?_getD, List.getElem?_append_left hn]
theorem getD_end {all : List (List UInt8)} {b : List UInt8} : (all ++ [b]).getD all.length [] = b := by
  rw [List.getD_eq_getElem?_getD, List.getElem?_append_right (Nat.le_refl _), Nat.sub_self]; rfl
/-- A record is added. -/
theorem PhA.add {D : DiskV} {sure all : List (List UInt8)} (h : PhA D sure all) {b : List UInt8} (hb : b.length ≤ 113) (hlt : all.length < 8) :
    ((jAddV D 1 8 3 all.length b).2 = (all.length + 1, (all.length : Int), 0) ∧ PhA (jAddV D 1 8 3 all.length b).1 sure (all ++ [b])) ∨
      ((jAddV D 1 8 3 all.length b).2 = (all.length, 0, 50) ∧ (jAddV D 1 8 3 all.length b).1.off = true ∧ PhX (jAddV D 1 8 3 all.length b).1 sure (all ++ [b])) := by
  have hw : D.waits.length < 8 := by have := h.few; omega
  have hmk : makeL 3 (all.length : Int) b = (seal3 all.length b, 0) := by
    unfold makeL
    rw [if_neg (by omega), if_neg (by omega)]; rfl
  have hsl := seal3_len (n := all.length) hb
  have hmany := h.many
  have hwr := h.fit.write_in (n := (1 : Int) + all.length) (by omega) (by omega) (seal3 all.length b)
  have hput : aPutV D 1 8 (all.length : Int) 3 (all.length : Int) b = (goesV (putD D ((1 : Int) + all.length) (seal3 all.length b)) 2, if D.cut = 0 then 50 else 0) := by
    unfold aPutV
    rw [hmk, if_neg (by simp)]
    unfold aWriteV
    rw [if_neg (by omega)]
    exact hwr
  have hwt : ∀ p ∈ (goesV (putD D ((1 : Int) + all.length) (seal3 all.length b)) 2).waits, ∃ n : Nat, p.1 = 1 + n ∧ sure.length ≤ n ∧ n < (all ++ [b]).length ∧ p.2 = seal3 n ((all ++ [b]).getD n []) := fun p hp => by
    rw [List.length_append, List.length_singleton]
    rcases List.mem_append.1 (show p ∈ D.waits ++ [(((1 : Int) + all.length).toNat, seal3 all.length b)] from hp) with q | q
    · obtain ⟨n, e1, e2, e3, e4⟩ := h.waits p q
      exact ⟨n, e1, e2, by omega, by rw [getD_app e3]; exact e4⟩
    · obtain rfl : p = (((1 : Int) + all.length).toNat, seal3 all.length b) := by simpa using q
      exact ⟨all.length, by show ((1 : Int) + all.length).toNat = 1 + all.length; omega, h.le, by omega, by rw [getD_end]⟩
  have hpre : (all ++ [b]).take sure.length = sure := by rw [List.take_append_of_le_length h.le]; exact h.pre
  have hlen : ∀ l ∈ all ++ [b], l.length ≤ 113 := fun l hl => by
    rcases List.mem_append.1 hl with q | q
    · exact h.len l q
    · rw [List.mem_singleton.1 q]; exact hb
  have hkept : ∀ n, n < 8 → secOf D.kept ((1 + n : Nat) : Int) = if n < sure.length then seal3 n ((all ++ [b]).getD n []) else zerosL := fun n hn => by
    rw [h.kept n hn]
    split
    · rename_i q
      rw [getD_app (by have := h.le; omega)]
    · rfl
  have hle : sure.length ≤ (all ++ [b]).length := by rw [List.length_append]; have := h.le; omega
  have hle8 : (all ++ [b]).length ≤ 8 := by rw [List.length_append, List.length_singleton]; omega
  have hokp := goesV_ok (putD_ok h.fit.ok (n := (1 : Int) + all.length) (by omega) (by omega) hsl (by omega)) 2
  unfold jAddV
  rw [if_neg (by omega), if_neg (by omega), hput]
  by_cases hc : D.cut = 0
  · right
    rw [if_pos hc, if_pos (by simp)]
    exact ⟨rfl, by show (D.cut == 0) = true; rw [hc]; rfl, ⟨hokp, h.fit.room, hmany, hle, hle8, hpre, hlen, hkept, hwt⟩⟩
  · left
    rw [if_neg hc, if_neg (by simp)]
    refine ⟨rfl, ⟨h.fit.put (by omega) (by omega) hsl (by omega) hc, hmany, hle, hle8, hpre, hlen, fun n hn => ?_, hkept, hwt, by show (D.waits ++ [_]).length + sure.length ≤ (all ++ [b]).length; rw [List.length_append, List.length_append, List.length_singleton, List.length_singleton]; have := h.few; omega⟩⟩
    show secOf (goesV (putD D ((1 : Int) + all.length) (seal3 all.length b)) 2).now _ = _
    rw [h.fit.put_now (by omega) (by omega) hsl (by omega), h.now n hn, List.length_append, List.length_singleton]
    by_cases q : n = all.length
    · subst q
      rw [if_pos (by omega), if_pos (by omega), getD_end]
    · rw [if_neg (by omega)]
      by_cases q2 : n < all.length
      · rw [if_pos q2, if_pos (by omega), getD_app q2]
      · rw [if_neg q2, if_neg (by omega)]
theorem PhA.loads {D : DiskV} {sure all : List (List UInt8)} (h : PhA D sure all) :
    (∀ n, n < all.length → recN D.now 1 3 n) ∧ (List.range all.length).map (fun k => openLoad (secOf D.now ((1 + k : Nat) : Int))) = all := by
  have hs : ∀ n (hn : n < all.length), recN D.now 1 3 n ∧ openLoad (secOf D.now ((1 + n : Nat) : Int)) = all[n] := fun n hn => by
    have h1 := h.now n (by have := h.le8; omega)
    rw [if_pos hn] at h1
    have hg : all.getD n [] = all[n] := by rw [List.getD_eq_getElem?_getD, List.getElem?_eq_getElem hn]; rfl
    rw [hg] at h1
    exact seal3_rec (h.len _ (List.getElem_mem _)) (by have := h.le8; omega) h1
  refine ⟨fun n hn => (hs n hn).1, ?_⟩
  apply List.ext_getElem (by simp)
  intro i h1 h2
  rw [List.getElem_map, List.getElem_range]
  exact (hs i h2).2
/-- Where the power stays, it goes well. -/
theorem PhC.again {D : DiskV} {sure all : List (List UInt8)} (h : PhC D sure all) (hc : D.cut = -1) :
    ∃ D1 nx, jOpenV D 1 8 3 = (D1, nx, 0) ∧ sure.length ≤ nx ∧ nx ≤ all.length ∧ PhA D1 (all.take nx) (all.take nx) := by
  obtain ⟨D1, nx, er, e1, hr⟩ := h.open_
  obtain ⟨D2, n2, e2, _⟩ := open_calm (f := 1) (m := 8) (kind := 3) ⟨h.fit.ok, hc, h.fit.off, h.fit.room, h.fit.now, h.fit.might⟩ h.waits (by omega) (by omega) (by rw [h.many]; omega)
  rw [e2] at e1
  injection e1 with a1 a2
  injection a2 with a2 a3
  subst a1 a2 a3
  rcases hr with ⟨_, q1, q2, q3⟩ | ⟨q, _⟩
  · exact ⟨D2, n2, e2, q1, q2, q3⟩
  · omega
end Go.Proofs.YtpmkpckldnnigaaGreat
