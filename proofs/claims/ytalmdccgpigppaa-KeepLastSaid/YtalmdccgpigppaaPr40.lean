/- Parts: KeepP, PlainZone. -/
import Derived.Test.YtalmdccgpigppaaPr36
import Derived.Test.YtalmdccgpigppaaPr37
import Derived.Test.YtalmdccgpigppaaPr39
import Derived.Test.YtalmdccgpigppaaPr34
namespace Go.Proofs.Ytalmdccgpigppaa
open Go.RowKit
set_option linter.unusedVariables false
set_option linter.unusedSimpArgs false
/-- What went in comes out a tick later. -/
def delayP : PV := ⟨[1], [1], 2, [(1, 0)], [⟨28, 0, 0, 0, 0⟩, ⟨21, 1, 0, 0, 0⟩, ⟨32, 0, 0, 0, 0⟩, ⟨29, 1, 0, 0, 0⟩]⟩
def delayH : Int := (fnv (progBs delayP) % 9223372036854775808 : Nat)
theorem delay_right : verifyB delayP = true := by decide +kernel
theorem delay_may : mayB delayP = true := by decide +kernel
theorem delay_wf : ProgWf delayP := ⟨by decide +kernel, by decide +kernel⟩
theorem delayH_i64 : 0 ≤ delayH ∧ delayH ≤ 9223372036854775807 := by unfold delayH; omega
theorem SInv.blank : SInv D10a ⟨2, 0, []⟩ 0 := by
  have hc : Calm D10a := by
    have := calm_new (many := 12) (by omega) (by omega)
    show Calm (loadD 12 12 [] 0)
    rw [loadD_zero]
    exact this
  have h3 : D10a.many = 12 ∧ D10a.waits.length = 0 ∧ (wholeV D10a 0 6).2.2.2 = 53 ∧ (wholeV D10a 6 6).2.2.2 = 53 := by decide +kernel
  obtain ⟨h4, h5, h7, h8⟩ := h3
  exact ⟨hc.fit, h4, List.eq_nil_of_length_eq_zero h5, rfl, fun _ => ⟨rfl, h7, h8⟩, fun e => absurd e (by omega)⟩
theorem KInv.blank (p : PV) (hash : Int) : KInv p hash D10a ⟨2, 0, []⟩ 0 (-1) [] := ⟨SInv.blank, fun _ => ⟨rfl, rfl⟩, fun e => absurd e (by omega)⟩
def K37a : DiskV × KpV × Int := kOpenV D10a 0 6 6 6 delayP delayH
def K37b : DiskV × KpV × Int := kSaveV K37a.1 0 6 6 6 delayP delayH K37a.2.1 5 [7]
def K37c : DiskV × KpV × Int := kOpenV K37b.1 0 6 6 6 delayP delayH
theorem k37_first : ∃ o, K37a = ({ D10a with ops := o }, kOf delayH ⟨2, 0, []⟩ 0 (-1) [], 0) := (KInv.blank delayP delayH).open_ delay_right
theorem k37_a : K37a.2.2 = 0 ∧ KInv delayP delayH K37a.1 K37a.2.1.s 0 (-1) [] := by
  obtain ⟨o, e⟩ := k37_first
  rw [e]
  exact ⟨rfl, (KInv.blank delayP delayH).ops o⟩
theorem snap37 (t : Int) (l : List Int) (ht : I64 t) (hl : ∀ z ∈ l, I64 z) : SnapAll ⟨t, delayH, l⟩ := ⟨ht, by have := delayH_i64; show I64 delayH; unfold I64; omega, hl⟩
theorem k37_b0 : K37b.2.2 = 0 := by decide +kernel
theorem k37_b_of (A R : DiskV × KpV × Int) (hA : KInv delayP delayH A.1 A.2.1.s 0 (-1) []) (hR : kSaveV A.1 0 6 6 6 delayP delayH A.2.1 5 [7] = R) (h0 : R.2.2 = 0) : KInv delayP delayH R.1 R.2.1.s 1 5 [7] := by
  have h := hA.saved (by omega) A.2.1 rfl (snap37 5 [7] (by unfold I64; omega) (fun z hz => by simp at hz; subst hz; unfold I64; omega))
  rw [hR] at h
  rcases h with ⟨_, h⟩ | ⟨h, _⟩
  · exact h
  · exact absurd h0 h
theorem k37_b : KInv delayP delayH K37b.1 K37b.2.1.s 1 5 [7] := k37_b_of K37a K37b k37_a.2 (by unfold K37b; rfl) k37_b0
theorem k37_c : ∃ o, K37c = ({ K37b.1 with ops := o }, kOf delayH K37b.2.1.s 1 5 [7], 0) := k37_b.open_ delay_right
end Go.Proofs.Ytalmdccgpigppaa
namespace Go.Proofs.Ytalmdccgpigppaa
open Go.RowKit
set_option linter.unusedVariables false
set_option linter.unusedSimpArgs false
/-- However much of a piece comes over a sector, what held of it holds. -/
def ShutAt (Q : List UInt8 → Prop) (b : List UInt8) : Prop := ∀ (S : List UInt8) (c : Nat), c ≤ 128 → S.length = 128 → Q S → Q (splice S 0 (b.take c))
abbrev Secs := Nat → List UInt8
abbrev Says := Nat → List UInt8 → Prop
/-- Whatever is kept of what waits, this holds sector by sector. -/
structure Safe (D : DiskV) (P : Says) : Prop where
  ok : D.Ok
  room : D.room = D.many
  kept : ∀ s : Nat, s < D.many → P s (secOf D.kept (s : Int))
  shut : ∀ p ∈ D.waits, ShutAt (P p.1) p.2
/-- The power is on: what is read; what holds whatever is kept. -/
structure Pow (D : DiskV) (N : Secs) (P : Says) : Prop where
  fit : Fit D
  now : ∀ s : Nat, s < D.many → secOf D.now (s : Int) = N s
  kept : ∀ s : Nat, s < D.many → P s (secOf D.kept (s : Int))
  shut : ∀ p ∈ D.waits, ShutAt (P p.1) p.2
/-- The power is on, and nothing waits. -/
structure Rest (D : DiskV) (N : Secs) : Prop where
  fit : Fit D
  waits : D.waits = []
  now : ∀ s : Nat, s < D.many → secOf D.now (s : Int) = N s
def putN (N : Secs) (n : Nat) (b : List UInt8) : Secs := fun s => if s = n then b else N s
section
variable {D : DiskV} {N N' : Secs} {P P' : Says}
theorem Rest.keeps (h : Rest D N) : D.kept = D.now := by rw [h.fit.now, h.waits]; rfl
theorem Rest.congr (h : Rest D N) (e : ∀ s : Nat, s < D.many → N s = N' s) : Rest D N' := ⟨h.fit, h.waits, fun s hs => (h.now s hs).trans (e s hs)⟩
theorem Pow.congr (h : Pow D N P) (e : ∀ s : Nat, s < D.many → N s = N' s) : Pow D N' P := ⟨h.fit, fun s hs => (h.now s hs).trans (e s hs), h.kept, h.shut⟩
/-- What is said may be weakened where nothing waits. -/
theorem Safe.mono (h : Safe D P) (h1 : ∀ s S, s < D.many → P s S → P' s S) (h2 : ∀ p ∈ D.waits, ShutAt (P' p.1) p.2) : Safe D P' :=
  ⟨h.ok, h.room, fun s hs => h1 s _ hs (h.kept s hs), h2⟩
theorem Pow.mono (h : Pow D N P) (h1 : ∀ s S, s < D.many → P s S → P' s S) (h2 : ∀ p ∈ D.waits, ShutAt (P' p.1) p.2) : Pow D N P' :=
  ⟨h.fit, h.now, fun s hs => h1 s _ hs (h.kept s hs), h2⟩
theorem Safe.crash (h : Safe D P) (cs : List UInt8) : Rest (crashV D cs) (fun s => secOf (crashV D cs).now (s : Int)) ∧ (crashV D cs).cut = -1 ∧ (crashV D cs).many = D.many ∧ ∀ s : Nat, s < D.many → P s (secOf (crashV D cs).now (s : Int)) := by
  obtain ⟨c1, c2, c3, c4⟩ := crash_fit h.ok h.room cs
  refine ⟨⟨c1.fit, c2, fun _ _ => rfl⟩, rfl, c3, fun s hs => ?_⟩
  rw [c4]
  exact crash_closed h.ok cs P h.kept (fun p hp S c hc hS hP => h.shut p hp S c hc hS hP) s hs
theorem Rest.ops (h : Rest D N) (o : List Int) : Rest { D with ops := o } N := ⟨h.fit.ops o, h.waits, h.now⟩
theorem Pow.ops (h : Pow D N P) (o : List Int) : Pow { D with ops := o } N P := ⟨h.fit.ops o, h.now, h.kept, h.shut⟩
theorem Rest.cutTo (h : Rest D N) (c : Int) (h0 : -1 ≤ c) (h1 : c ≤ 9223372036854775807) : Rest { D with cut := c } N := ⟨h.fit.cutTo c h0 h1, h.waits, h.now⟩
theorem Pow.cutTo (h : Pow D N P) (c : Int) (h0 : -1 ≤ c) (h1 : c ≤ 9223372036854775807) : Pow { D with cut := c } N P := ⟨h.fit.cutTo c h0 h1, h.now, h.kept, h.shut⟩
/-- What became of an operation: it is done, or the power went. -/
theorem Pow.write (h : Pow D N P) {n : Nat} (hn : n < D.many) {b : List UInt8} (hb : b.length = 128) (hw : D.waits.length < 1000000) (hs : ShutAt (P n) b) :
    (writeV D (n : Int) b).1.many = D.many ∧ (writeV D (n : Int) b).1.waits = D.waits ++ [(n, b)] ∧
    (((writeV D (n : Int) b).2 = 0 ∧ Pow (writeV D (n : Int) b).1 (putN N n b) P ∧ (D.cut = -1 → (writeV D (n : Int) b).1.cut = -1)) ∨
      ((writeV D (n : Int) b).2 = 50 ∧ (writeV D (n : Int) b).1.off = true ∧ D.cut ≠ -1 ∧ Safe (writeV D (n : Int) b).1 P)) := by
  have hwr := h.fit.write_in (n := (n : Int)) (by omega) (by omega) b
  have hmem : ∀ p ∈ (goesV (putD D (n : Int) b) 2).waits, ShutAt (P p.1) p.2 := fun p hp => by
    rcases List.mem_append.1 (show p ∈ D.waits ++ [((n : Int).toNat, b)] from hp) with q | q
    · exact h.shut p q
    · obtain rfl : p = ((n : Int).toNat, b) := by simpa using q
      exact hs
  rw [hwr]
  refine ⟨rfl, rfl, ?_⟩
  by_cases hc : D.cut = 0
  · right
    rw [if_pos hc]
    exact ⟨rfl, by show (D.cut == 0) = true; rw [hc]; rfl, by omega, goesV_ok (putD_ok h.fit.ok (n := (n : Int)) (by omega) (by omega) hb (by omega)) 2, h.fit.room, h.kept, hmem⟩
  · left
    rw [if_neg hc]
    refine ⟨rfl, ⟨h.fit.put (by omega) (by omega) hb hw hc, fun s hs => ?_, h.kept, hmem⟩, fun e => by show (if 0 ≤ D.cut then D.cut - 1 else D.cut) = -1; rw [e]; rfl⟩
    rw [h.fit.put_now (by omega) (by omega) hb hs]
    unfold putN
    by_cases q : s = n
    · rw [if_pos (by omega), if_pos q]
    · rw [if_neg (by omega), if_neg q]
      exact h.now s hs
theorem Pow.flush (h : Pow D N P) :
    (flushV D).1.many = D.many ∧ (((flushV D).2 = 0 ∧ Rest (flushV D).1 N ∧ (D.cut = -1 → (flushV D).1.cut = -1)) ∨
      ((flushV D).2 = 50 ∧ (flushV D).1.off = true ∧ D.cut ≠ -1 ∧ Safe (flushV D).1 P)) := by
  by_cases hc : D.cut = 0
  · rw [h.fit.flush_cut hc]
    exact ⟨rfl, .inr ⟨rfl, by show (D.cut == 0) = true; rw [hc]; rfl, by omega, goesV_ok h.fit.ok 3, h.fit.room, h.kept, h.shut⟩⟩
  · obtain ⟨e, f1, f2, f3⟩ := h.fit.flush_ok hc
    rw [e]
    refine ⟨rfl, .inl ⟨rfl, ⟨f1, rfl, fun s hs => ?_⟩, fun e => by show (if 0 ≤ D.cut then D.cut - 1 else D.cut) = -1; rw [e]; rfl⟩⟩
    simp only
    rw [f3]
    exact h.now s hs
end
/-- Is the n-th sector of an area the n-th record? -/
def recS (N : Secs) (f : Nat) (kind : Int) (n : Nat) : Prop := recB (N (f + n)) kind n = true
/-- A record's sector. -/
theorem seal_rec {N : Secs} {f n kind : Nat} {l : List UInt8} (k1 : 1 ≤ kind) (k2 : kind ≤ 255) (hl : l.length ≤ 113) (hn : n < 9223372036854775808) (h : N (f + n) = sealL kind n l) : recS N f (kind : Int) n ∧ openLoad (N (f + n)) = l := by
  obtain ⟨q1, q2, q3⟩ := opens_seal (kind := (kind : Int)) (n := n) (load := l) (by omega) (by omega) hn hl
  rw [Int.toNat_natCast] at q1 q2 q3
  unfold recS recB
  rw [h]
  refine ⟨?_, q3⟩
  rw [q1, q2, Bool.true_and, decide_eq_true_iff]
  unfold sg
  omega
/-- What a journal has: its records' loads; noughts behind them. -/
structure Jrn (N : Secs) (f m kind : Nat) (all : List (List UInt8)) : Prop where
  le : all.length ≤ m
  len : ∀ l ∈ all, l.length ≤ 113
  recs : ∀ (n : Nat) (l : List UInt8), all[n]? = some l → N (f + n) = sealL kind n l
  zero : ∀ n, all.length ≤ n → n < m → N (f + n) = zerosL
/-- A sector of a journal, while records are added: the first k stand; behind them is a record that was added, or none that ends. -/
def SecA (kind k : Nat) (all : List (List UInt8)) (n : Nat) (S : List UInt8) : Prop :=
  (∀ l, n < k → all[n]? = some l → S = sealL kind n l) ∧ (k ≤ n → byteAt S 127 = 0 ∨ ∃ l, all[n]? = some l ∧ S = sealL kind n l)
/-- A sector of a journal behind a crash. -/
def SecJ (kind k : Nat) (all : List (List UInt8)) (n : Nat) (S : List UInt8) : Prop :=
  (∀ l, n < k → all[n]? = some l → S = sealL kind n l) ∧ (k ≤ n → byteAt S 127 = 0 ∨ byteAt S 0 = 0 ∨ ∃ l, all[n]? = some l ∧ S = sealL kind n l)
section
variable {kind k n : Nat} {all : List (List UInt8)} {S : List UInt8}
theorem SecA.j (h : SecA kind k all n S) : SecJ kind k all n S := ⟨h.1, fun q => by rcases h.2 q with e | e; exact .inl e; exact .inr (.inr e)⟩
theorem SecJ.less (h : SecJ kind k all n S) {k' : Nat} (hk : k' ≤ k) (hka : k ≤ all.length) : SecJ kind k' all n S := by
  refine ⟨fun l q => h.1 l (by omega), fun q => ?_⟩
  rcases Nat.lt_or_ge n k with q2 | q2
  · exact .inr (.inr ⟨all[n]'(by omega), List.getElem?_eq_getElem (by omega), h.1 _ q2 (List.getElem?_eq_getElem (by omega))⟩)
  · exact h.2 q2
theorem SecJ.wiped (hn : k ≤ n) : ShutAt (SecJ kind k all n) zerosL := by
  intro S c hc hS h
  refine ⟨fun l q => absurd q (by omega), fun _ => ?_⟩
  have hl : (zerosL.take c).length = c := by rw [List.length_take, zerosL_len]; omega
  rcases Nat.eq_zero_or_pos c with q | q
  · subst q
    have e : splice S 0 (zerosL.take 0) = S := by simp [splice]
    rw [e]; exact h.2 hn
  · right; left
    rw [byteAt_splice (by rw [hl, hS]; omega), if_pos (by rw [hl]; omega), Nat.sub_zero, byteAt_take' (by omega)]
    decide
theorem SecA.sealed {l : List UInt8} (hn : k ≤ n) (hl : all[n]? = some l) (h113 : l.length ≤ 113) : ShutAt (SecA kind k all n) (sealL kind n l) := by
  intro S c hc hS h
  have hsl := sealL_len kind n l h113
  refine ⟨fun l q => absurd q (by omega), fun _ => ?_⟩
  have hlc : ((sealL kind n l).take c).length = c := by rw [List.length_take]; omega
  by_cases q : c = 128
  · right
    refine ⟨l, hl, ?_⟩
    rw [List.take_of_length_le (by omega), splice_all _ _ (by omega)]
  · rcases h.2 hn with z | ⟨l', e, z⟩
    · left
      rw [byteAt_splice (by omega), if_neg (by omega)]; exact z
    · right
      rw [hl] at e
      injection e with e
      subst e
      refine ⟨l, hl, ?_⟩
      rw [z]
      unfold splice
      rw [List.take_zero, hlc, Nat.zero_add]
      show _ ++ _ = _
      first
        | rw [List.nil_append, List.take_append_drop]
        | simp
theorem recB_kind {S : List UInt8} {kind : Int} {n : Nat} (hk : 1 ≤ kind) (h : recB S kind n = true) : byteAt S 127 ≠ 0 ∧ byteAt S 0 ≠ 0 := by
  unfold recB at h
  rw [Bool.and_eq_true] at h
  obtain ⟨k0, k1, _⟩ := opens_kind h.1
  constructor <;> omega
theorem SecJ.rec_ (h : SecJ kind k all n S) (h1 : 1 ≤ kind) (hk : k ≤ all.length) (hr : recB S (kind : Int) n = true) : ∃ l, all[n]? = some l ∧ S = sealL kind n l := by
  rcases Nat.lt_or_ge n k with q | q
  · exact ⟨all[n]'(by omega), List.getElem?_eq_getElem (by omega), h.1 _ q (List.getElem?_eq_getElem (by omega))⟩
  · obtain ⟨k1, k2⟩ := recB_kind (by omega) hr
    rcases h.2 q with e | e | e
    · exact absurd e k1
    · exact absurd e k2
    · exact e
end
section
variable {N : Secs} {f m kind k : Nat} {all : List (List UInt8)}
theorem Jrn.rec_ (h : Jrn N f m kind all) (k1 : 1 ≤ kind) (k2 : kind ≤ 255) (hm : m ≤ 4096) {n : Nat} {l : List UInt8} (hn : all[n]? = some l) : recS N f (kind : Int) n ∧ openLoad (N (f + n)) = l := by
  have := h.le
  have hlt := (List.getElem?_eq_some_iff.1 hn).1
  exact seal_rec k1 k2 (h.len l (List.mem_of_getElem? hn)) (by omega) (h.recs n l hn)
theorem Jrn.put (h : Jrn N f m kind all) (hlt : all.length < m) {l : List UInt8} (hl : l.length ≤ 113) : Jrn (putN N (f + all.length) (sealL kind all.length l)) f m kind (all ++ [l]) := by
  refine ⟨by rw [List.length_append, List.length_singleton]; omega, fun l' hm => ?_, fun n l' e => ?_, fun n q1 q2 => ?_⟩
  · rcases List.mem_append.1 hm with q | q
    · exact h.len l' q
    · rw [List.mem_singleton.1 q]; exact hl
  · unfold putN
    rcases Nat.lt_or_ge n all.length with q | q
    · rw [if_neg (by omega)]
      rw [List.getElem?_append_left q] at e
      exact h.recs n l' e
    · rw [List.getElem?_append_right q] at e
      have hn : n - all.length = 0 := by
        apply Classical.byContradiction
        intro hne
        rw [List.getElem?_eq_none (by simp; omega)] at e
        cases e
      rw [hn] at e
      injection e with e
      have hnn : n = all.length := by omega
      subst hnn
      rw [if_pos rfl, ← e]
  · rw [List.length_append, List.length_singleton] at q1
    unfold putN
    rw [if_neg (by omega)]
    exact h.zero n (by omega) q2
/-- What a journal's Get gives. -/
theorem Jrn.get {D : DiskV} (hoff : D.off = false) (hnow : ∀ s : Nat, s < D.many → secOf D.now (s : Int) = N s) (h : Jrn N f m kind all) (hfm : f + m ≤ D.many) (k1 : 1 ≤ kind) (k2 : kind ≤ 255) (hm : m ≤ 4096) {n : Nat} {l : List UInt8} (hn : all[n]? = some l) :
    jGetV D f m (kind : Int) all.length (n : Int) = (readV' D, l, 0) := by
  have hlt := (List.getElem?_eq_some_iff.1 hn).1
  obtain ⟨r1, r2⟩ := h.rec_ k1 k2 hm hn
  have hle := h.le
  have hsec := hnow (f + n) (by omega)
  have := get_fit (f := f) (m := m) (nx := all.length) (n := n) (kind := (kind : Int)) hoff hfm hle hlt (by unfold recN; rw [hsec]; exact r1)
  rw [this, hsec, r2]
theorem Jrn.congr {N' : Secs} (h : Jrn N f m kind all) (e : ∀ n, n < m → N' (f + n) = N (f + n)) : Jrn N' f m kind all := by
  have hle := h.le
  exact ⟨h.le, h.len, fun n l q => by rw [e n (by have := (List.getElem?_eq_some_iff.1 q).1; omega)]; exact h.recs n l q, fun n q1 q2 => by rw [e n q2]; exact h.zero n q1 q2⟩
end
end Go.Proofs.Ytalmdccgpigppaa
