/- Parts: PlainZone. -/
import Derived.Test.YtpmkpckldnnigaaGreatPr29
namespace Go.Proofs.YtpmkpckldnnigaaGreat
open Go.RowKit
set_option linter.unusedVariables false
set_option linter.unusedSimpArgs false
/-- However much of a piece comes over a sector, what held of it holds. -/
def ShutAt (Q : List UInt8 → Prop) (b : List UInt8) : Prop := ∀ (S : List UInt8) (c : Nat), c ≤ 128 → S.length = 128 → Q S → Q (splice S 0 (b.take c))
abbrev Secs := Nat → List UInt8
abbrev Says := Nat → List UInt8 → Prop
/-- Whatever is kept of what waits, this holds sector by sector. -/
structure Safe (D : DiskV) (P : Says) : Prop where
  ok : D.Ok
  room : D.room = D.many
  kept : ∀ s : Nat, s < D.many → P s (secOf D.kept (s : Int))
  shut : ∀ p ∈ D.waits, ShutAt (P p.1) p.2
/-- The power is on: what is read; what holds whatever is kept. -/
structure Pow (D : DiskV) (N : Secs) (P : Says) : Prop where
  fit : Fit D
  now : ∀ s : Nat, s < D.many → secOf D.now (s : Int) = N s
  kept : ∀ s : Nat, s < D.many → P s (secOf D.kept (s : Int))
  shut : ∀ p ∈ D.waits, ShutAt (P p.1) p.2
/-- The power is on, and nothing waits. -/
structure Rest (D : DiskV) (N : Secs) : Prop where
  fit : Fit D
  waits : D.waits = []
  now : ∀ s : Nat, s < D.many → secOf D.now (s : Int) = N s
def putN (N : Secs) (n : Nat) (b : List UInt8) : Secs := fun s => if s = n then b else N s
section
variable {D : DiskV} {N N' : Secs} {P P' : Says}
theorem Rest.keeps (h : Rest D N) : D.kept = D.now := by rw [h.fit.now, h.waits]; rfl
theorem Rest.congr (h : Rest D N) (e : ∀ s : Nat, s < D.many → N s = N' s) : Rest D N' := ⟨h.fit, h.waits, fun s hs => (h.now s hs).trans (e s hs)⟩
theorem Pow.congr (h : Pow D N P) (e : ∀ s : Nat, s < D.many → N s = N' s) : Pow D N' P := ⟨h.fit, fun s hs => (h.now s hs).trans (e s hs), h.kept, h.shut⟩
/-- What is said may be weakened where nothing waits. -/
theorem Safe.mono (h : Safe D P) (h1 : ∀ s S, s < D.many → P s S → P' s S) (h2 : ∀ p ∈ D.waits, ShutAt (P' p.1) p.2) : Safe D P' :=
  ⟨h.ok, h.room, fun s hs => h1 s _ hs (h.kept s hs), h2⟩
theorem Pow.mono (h : Pow D N P) (h1 : ∀ s S, s < D.many → P s S → P' s S) (h2 : ∀ p ∈ D.waits, ShutAt (P' p.1) p.2) : Pow D N P' :=
  ⟨h.fit, h.now, fun s hs => h1 s _ hs (h.kept s hs), h2⟩
theorem Safe.crash (h : Safe D P) (cs : List UInt8) : Rest (crashV D cs) (fun s => secOf (crashV D cs).now (s : Int)) ∧ (crashV D cs).cut = -1 ∧ (crashV D cs).many = D.many ∧ ∀ s : Nat, s < D.many → P s (secOf (crashV D cs).now (s : Int)) := by
  obtain ⟨c1, c2, c3, c4⟩ := crash_fit h.ok h.room cs
  refine ⟨⟨c1.fit, c2, fun _ _ => rfl⟩, rfl, c3, fun s hs => ?_⟩
  rw [c4]
  exact crash_closed h.ok cs P h.kept (fun p hp S c hc hS hP => h.shut p hp S c hc hS hP) s hs
theorem Rest.ops (h : Rest D N) (o : List Int) : Rest { D with ops := o } N := ⟨h.fit.ops o, h.waits, h.now⟩
theorem Pow.ops (h : Pow D N P) (o : List Int) : Pow { D with ops := o } N P := ⟨h.fit.ops o, h.now, h.kept, h.shut⟩
/-- What became of an operation: it is done, or the power went. -/
theorem Pow.write (h : Pow D N P) {n : Nat} (hn : n < D.many) {b : List UInt8} (hb : b.length = 128) (hw : D.waits.length < 1000000) (hs : ShutAt (P n) b) :
    (writeV D (n : Int) b).1.many = D.many ∧ (writeV D (n : Int) b).1.waits = D.waits ++ [(n, b)] ∧
    (((writeV D (n : Int) b).2 = 0 ∧ Pow (writeV D (n : Int) b).1 (putN N n b) P ∧ (D.cut = -1 → (writeV D (n : Int) b).1.cut = -1)) ∨
      ((writeV D (n : Int) b).2 = 50 ∧ (writeV D (n : Int) b).1.off = true ∧ D.cut ≠ -1 ∧ Safe (writeV D (n : Int) b).1 P)) := by
  have hwr := h.fit.write_in (n := (n : Int)) (by omega) (by omega) b
  have hmem : ∀ p ∈ (goesV (putD D (n : Int) b) 2).waits, ShutAt (P p.1) p.2 := fun p hp => by
    rcases List.mem_append.1 (show p ∈ D.waits ++ [((n : Int).toNat, b)] from hp) with q | q
    · exact h.shut p q
    · obtain rfl : p = ((n : Int).toNat, b) := by simpa using q
      exact hs
  rw [hwr]
  refine ⟨rfl, rfl, ?_⟩
  by_cases hc : D.cut = 0
  · right
    rw [if_pos hc]
    exact ⟨rfl, by show (D.cut == 0) = true; rw [hc]; rfl, by omega, goesV_ok (putD_ok h.fit.ok (n := (n : Int)) (by omega) (by omega) hb (by omega)) 2, h.fit.room, h.kept, hmem⟩
  · left
    rw [if_neg hc]
    refine ⟨rfl, ⟨h.fit.put (by omega) (by omega) hb hw hc, fun s hs => ?_, h.kept, hmem⟩, fun e => by show (if 0 ≤ D.cut then D.cut - 1 else D.cut) = -1; rw [e]; rfl⟩
    rw [h.fit.put_now (by omega) (by omega) hb hs]
    unfold putN
    by_cases q : s = n
    · rw [if_pos (by omega), if_pos q]
    · rw [if_neg (by omega), if_neg q]
      exact h.now s hs
theorem Pow.flush (h : Pow D N P) :
    (flushV D).1.many = D.many ∧ (((flushV D).2 = 0 ∧ Rest (flushV D).1 N ∧ (D.cut = -1 → (flushV D).1.cut = -1)) ∨
      ((flushV D).2 = 50 ∧ (flushV D).1.off = true ∧ D.cut ≠ -1 ∧ Safe (flushV D).1 P)) := by
  by_cases hc : D.cut = 0
  · rw [h.fit.flush_cut hc]
    exact ⟨rfl, .inr ⟨rfl, by show (D.cut == 0) = true; rw [hc]; rfl, by omega, goesV_ok h.fit.ok 3, h.fit.room, h.kept, h.shut⟩⟩
  · obtain ⟨e, f1, f2, f3⟩ := h.fit.flush_ok hc
    rw [e]
    refine ⟨rfl, .inl ⟨rfl, ⟨f1, rfl, fun s hs => ?_⟩, fun e => by show (if 0 ≤ D.cut then D.cut - 1 else D.cut) = -1; rw [e]; rfl⟩⟩
    simp only
    rw [f3]
    exact h.now s hs
end
/-- Is the n-th sector of an area the n-th record? -/
def recS (N : Secs) (f : Nat) (kind : Int) (n : Nat) : Prop := recB (N (f + n)) kind n = true
/-- A record's sector. -/
theorem seal_rec {N : Secs} {f n kind : Nat} {l : List UInt8} (k1 : 1 ≤ kind) (k2 : kind ≤ 255) (hl : l.length ≤ 113) (hn : n < 9223372036854775808) (h : N (f + n) = sealL kind n l) : recS N f (kind : Int) n ∧ openLoad (N (f + n)) = l := by
  obtain ⟨q1, q2, q3⟩ := opens_seal (kind := (kind : Int)) (n := n) (load := l) (by omega) (by omega) hn hl
  rw [Int.toNat_natCast] at q1 q2 q3
  unfold recS recB
  rw [h]
  refine ⟨?_, q3⟩
  rw [q1, q2, Bool.true_and, decide_eq_true_iff]
  unfold sg
  omega
/-- What a journal has: its records' loads; noughts behind them. -/
structure Jrn (N : Secs) (f m kind : Nat) (all : List (List UInt8)) : Prop where
  le : all.length ≤ m
  len : ∀ l ∈ all, l.length ≤ 113
  recs : ∀ (n : Nat) (l : List UInt8), all[n]? = some l → N (f + n) = sealL kind n l
  zero : ∀ n, all.length ≤ n → n < m → N (f + n) = zerosL
/-- A sector of a journal, while records are added: the first k stand; behind them is a record that was added, or none that ends. -/
def SecA (kind k : Nat) (all : List (List UInt8)) (n : Nat) (S : List UInt8) : Prop :=
  (∀ l, n < k → all[n]? = some l → S = sealL kind n l) ∧ (k ≤ n → byteAt S 127 = 0 ∨ ∃ l, all[n]? = some l ∧ S = sealL kind n l)
/-- A sector of a journal behind a crash. -/
def SecJ (kind k : Nat) (all : List (List UInt8)) (n : Nat) (S : List UInt8) : Prop :=
  (∀ l, n < k → all[n]? = some l → S = sealL kind n l) ∧ (k ≤ n → byteAt S 127 = 0 ∨ byteAt S 0 = 0 ∨ ∃ l, all[n]? = some l ∧ S = sealL kind n l)
section
variable {kind k n : Nat} {all : List (List UInt8)} {S : List UInt8}
theorem SecA.j (h : SecA kind k all n S) : SecJ kind k all n S := ⟨h.1, fun q => by rcases h.2 q with e | e; exact .inl e; exact .inr (.inr e)⟩
theorem SecJ.wiped (hn : k ≤ n) : ShutAt (SecJ kind k all n) zerosL := by
  intro S c hc hS h
  refine ⟨fun l q => absurd q (by omega), fun _ => ?_⟩
  have hl : (zerosL.take c).length = c := by rw [List.length_take, zerosL_len]; omega
  rcases Nat.eq_zero_or_pos c with q | q
  · subst q
    have e : splice S 0 (zerosL.take 0) = S := by simp [splice]
    rw [e]; exact h.2 hn
  · right; left
    rw [byteAt_splice (by rw [hl, hS]; omega), if_pos (by rw [hl]; omega), Nat.sub_zero, byteAt_take' (by omega)]
    decide
theorem SecA.sealed {l : List UInt8} (hn : k ≤ n) (hl : all[n]? = some l) (h113 : l.length ≤ 113) : ShutAt (SecA kind k all n) (sealL kind n l) := by
  intro S c hc hS h
  have hsl := sealL_len kind n l h113
  refine ⟨fun l q => absurd q (by omega), fun _ => ?_⟩
  have hlc : ((sealL kind n l).take c).length = c := by rw [List.length_take]; omega
  by_cases q : c = 128
  · right
    refine ⟨l, hl, ?_⟩
    rw [List.take_of_length_le (by omega), splice_all _ _ (by omega)]
  · rcases h.2 hn with z | ⟨l', e, z⟩
    · left
      rw [byteAt_splice (by omega), if_neg (by omega)]; exact z
    · right
      rw [hl] at e
      injection e with e
      subst e
      refine ⟨l, hl, ?_⟩
      rw [z]
      unfold splice
      rw [List.take_zero, hlc, Nat.zero_add]
      show _ ++ _ = _
      first
        | rw [List.nil_append, List.take_append_drop]
        | simp
theorem recB_kind {S : List UInt8} {kind : Int} {n : Nat} (hk : 1 ≤ kind) (h : recB S kind n = true) : byteAt S 127 ≠ 0 ∧ byteAt S 0 ≠ 0 := by
  unfold recB at h
  rw [Bool.and_eq_true] at h
  obtain ⟨k0, k1, _⟩ := opens_kind h.1
  constructor <;> omega
theorem SecJ.rec_ (h : SecJ kind k all n S) (h1 : 1 ≤ kind) (hk : k ≤ all.length) (hr : recB S (kind : Int) n = true) : ∃ l, all[n]? = some l ∧ S = sealL kind n l := by
  rcases Nat.lt_or_ge n k with q | q
  · exact ⟨all[n]'(by omega), List.getElem?_eq_getElem (by omega), h.1 _ q (List.getElem?_eq_getElem (by omega))⟩
  · obtain ⟨k1, k2⟩ := recB_kind (by omega) hr
    rcases h.2 q with e | e | e
    · exact absurd e k1
    · exact absurd e k2
    · exact e
end
section
variable {N : Secs} {f m kind k : Nat} {all : List (List UInt8)}
theorem Jrn.rec_ (h : Jrn N f m kind all) (k1 : 1 ≤ kind) (k2 : kind ≤ 255) (hm : m ≤ 4096) {n : Nat} {l : List UInt8} (hn : all[n]? = some l) : recS N f (kind : Int) n ∧ openLoad (N (f + n)) = l := by
  have := h.le
  have hlt := (List.getElem?_eq_some_iff.1 hn).1
  exact seal_rec k1 k2 (h.len l (List.mem_of_getElem? hn)) (by omega) (h.recs n l hn)
theorem Jrn.put (h : Jrn N f m kind all) (hlt : all.length < m) {l : List UInt8} (hl : l.length ≤ 113) : Jrn (putN N (f + all.length) (sealL kind all.length l)) f m kind (all ++ [l]) := by
  refine ⟨by rw [List.length_append, List.length_singleton]; omega, fun l' hm => ?_, fun n l' e => ?_, fun n q1 q2 => ?_⟩
  · rcases List.mem_append.1 hm with q | q
    · exact h.len l' q
    · rw [List.mem_singleton.1 q]; exact hl
  · unfold putN
    rcases Nat.lt_or_ge n all.length with q | q
    · rw [if_neg (by omega)]
      rw [List.getElem?_append_left q] at e
      exact h.recs n l' e
    · rw [List.getElem?_append_right q] at e
      have hn : n - all.length = 0 := by
        apply Classical.byContradiction
        intro hne
        rw [List.getElem?_eq_none (by simp; omega)] at e
        cases e
      rw [hn] at e
      injection e with e
      have hnn : n = all.length := by omega
      subst hnn
      rw [if_pos rfl, ← e]
  · rw [List.length_append, List.length_singleton] at q1
    unfold putN
    rw [if_neg (by omega)]
    exact h.zero n (by omega) q2
theorem Jrn.congr {N' : Secs} (h : Jrn N f m kind all) (e : ∀ n, n < m → N' (f + n) = N (f + n)) : Jrn N' f m kind all := by
  have hle := h.le
  exact ⟨h.le, h.len, fun n l q => by rw [e n (by have := (List.getElem?_eq_some_iff.1 q).1; omega)]; exact h.recs n l q, fun n q1 q2 => by rw [e n q2]; exact h.zero n q1 q2⟩
end
end Go.Proofs.YtpmkpckldnnigaaGreat
