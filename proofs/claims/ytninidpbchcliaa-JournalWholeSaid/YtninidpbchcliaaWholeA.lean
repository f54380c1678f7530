/- JournalWhole: the words of its walk; what its calls make of the state. -/
import Derived.Test.YtninidpbchcliaaLists
import Derived.Test.YtninidpbchcliaaDo9
import Derived.Test.YtninidpbchcliaaPlainJrn
namespace Go.Proofs.Ytninidpbchcliaa
open Go.RowKit
set_option linter.unusedVariables false
set_option linter.unusedSimpArgs false
theorem jopen_no {w : World} {base ga f m : Nat} {kind : Int} {p : DiskP} {D : DiskV} (ha : AreaAt w ga p.d f m) (hm : 1 ≤ m) (hd : DiskS w base p D) (hs : base ≤ w.heap.size) (hfm : f + m ≤ D.many) (hwt : D.waits.length < 900000) {D' : DiskV} {next : Nat} {er : Int} (h : jOpenV D f m kind = (D', next, er)) (her : er ≠ 0) :
    Calls Try.prog 51 #[.pointer (some ⟨ga, 0, none⟩), .int .i64 kind] w fun e w' => e = .returned (.tuple #[.pointer none, .int .i64 er]) ∧ DiskS w' base p D' ∧ Step mutD base p w w' := by
  have := jopen_any (kind := kind) ha hm hd hs hfm hwt
  rw [h] at this
  exact this.mono fun e w' ⟨P, h1, h2, h3, h4, h5⟩ => by
    have := h2 her
    subst this
    exact ⟨h1, h4, h5⟩
theorem PhA.gets {D : DiskV} {sure all : List (List UInt8)} (h : PhA D sure all) : ∀ o k, k < all.length → (jGetV { D with ops := o } 1 8 3 all.length (k : Int)).2 = (openLoad (secOf D.now ((1 + k : Nat) : Int)), 0) ∧ ∃ o', (jGetV { D with ops := o } 1 8 3 all.length (k : Int)).1 = { D with ops := o' } := fun o k hk => by
  have hr : recN ({ D with ops := o } : DiskV).now 1 3 k := h.loads.1 k hk
  rw [get_fit (D := { D with ops := o }) h.fit.off (by show 1 + 8 ≤ D.many; rw [h.many]; omega) h.le8 hk hr]
  exact ⟨rfl, _, rfl⟩
theorem PhA.ops {D : DiskV} {sure all : List (List UInt8)} (h : PhA D sure all) (o : List Int) : PhA { D with ops := o } sure all := ⟨h.fit.ops o, h.many, h.le, h.le8, h.pre, h.len, h.now, h.kept, h.waits, h.few⟩
/-- On, or behind what took the power: what a crash leaves. -/
structure PhM (D : DiskV) (next : Nat) (sure all : List (List UInt8)) : Prop where
  ok : D.Ok
  many : D.many = 10
  crash : ∀ cs, PhC (crashV D cs) sure all
  on : D.off = false → PhA D sure all ∧ next = all.length
theorem PhA.m {D : DiskV} {sure all : List (List UInt8)} (h : PhA D sure all) : PhM D all.length sure all := ⟨h.fit.ok, h.many, fun cs => h.x.crash cs, fun _ => ⟨h, rfl⟩⟩
theorem PhX.m {D : DiskV} {sure all : List (List UInt8)} {n : Nat} (h : PhX D sure all) (ho : D.off = true) : PhM D n sure all := ⟨h.ok, h.many, fun cs => h.crash cs, fun e => by rw [ho] at e; cases e⟩
def doC (x : DoV) (B : Option Addr) (m d : Nat) : List Value := [.int .i64 x.kind, .int .i64 x.n, .slice B m d]
/-- The state behind what was done, and ahead of a crash. -/
def Mid (w1 : World) (ga gj gx : Nat) (p : DiskP) (x : DoV) (B : Option Addr) (m d : Nat) (s a : Value) (w : World) : Prop :=
  ∃ (D : DiskV) (next : Nat) (sure all : List (List UInt8)) (sB aB : Option Addr) (sN sc aN ac : Nat), s = .slice sB sN sc ∧ a = .slice aB aN ac ∧ DiskS w w1.heap.size p D ∧ AreaAt w ga p.d 1 8 ∧ JrnAt w gj ga 3 next ∧ Lists w w1.heap.size sB sN aB aN ac sure all ∧
    Below w1.heap.size w1 w ∧ Blk w gx 94 (doC x B m d) ∧ PhM D next sure all
theorem PhC.opened {D : DiskV} {sure all : List (List UInt8)} (h : PhC D sure all) :
    ∃ D1, (∃ got, jOpenV D 1 8 3 = (D1, got.length, 0) ∧ PhA D1 got got ∧ begB sure got = true ∧ begB got all = true) ∨ (∃ nx, jOpenV D 1 8 3 = (D1, nx, 50) ∧ ∀ cs, PhC (crashV D1 cs) sure all) := by
  obtain ⟨D1, nx, er, e1, hc⟩ := h.open_
  rcases hc with ⟨a1, a2, a3, a4⟩ | ⟨a1, a2, a3⟩
  · subst a1
    have htl : (all.take nx).length = nx := by rw [List.length_take]; omega
    refine ⟨D1, .inl ⟨all.take nx, by rw [htl]; exact e1, a4, ?_, ?_⟩⟩
    · unfold begB
      rw [decide_eq_true_iff, List.take_take, Nat.min_eq_left a2]
      exact h.pre
    · unfold begB
      rw [decide_eq_true_iff, htl]
  · subst a1
    exact ⟨D1, .inr ⟨nx, e1, a3⟩⟩
theorem PhC.openedAgain {D : DiskV} {sure all : List (List UInt8)} (h : PhC D sure all) (hc : D.cut = -1) :
    ∃ D1 got, jOpenV D 1 8 3 = (D1, got.length, 0) ∧ PhA D1 got got ∧ begB sure got = true ∧ begB got all = true := by
  obtain ⟨D2, nx, e2, _⟩ := h.again hc
  obtain ⟨D1, h1⟩ := h.opened
  rcases h1 with ⟨got, g⟩ | ⟨n, e1, _⟩
  · exact ⟨D1, got, g⟩
  · rw [e2] at e1
    injection e1 with _ e1
    injection e1 with _ e1
    cases e1
theorem PhA.added {D : DiskV} {sure all : List (List UInt8)} (h : PhA D sure all) (b : List UInt8) :
    ∃ (D' : DiskV) (nx : Nat) (v er : Int), jAddV D 1 8 3 all.length b = (D', nx, v, er) ∧
      (((er = 0 ∨ er = 50) ∧ PhM D' nx sure (all ++ [b])) ∨ ((er = 3 ∨ er = 52) ∧ D' = D ∧ nx = all.length)) ∧ all.length ≤ 8 := by
  by_cases h1 : 113 < b.length
  · exact ⟨D, all.length, 0, 3, by unfold jAddV; rw [if_pos h1], .inr ⟨.inl rfl, rfl, rfl⟩, h.le8⟩
  · by_cases h2 : 8 = all.length
    · exact ⟨D, all.length, 0, 52, by unfold jAddV; rw [if_neg h1, if_pos h2], .inr ⟨.inr rfl, rfl, rfl⟩, h.le8⟩
    · have hlt : all.length < 8 := by have := h.le8; omega
      rcases h.add (b := b) (by omega) hlt with ⟨e, k⟩ | ⟨e, ho, k⟩
      · refine ⟨(jAddV D 1 8 3 all.length b).1, _, _, _, by rw [← e], .inl ⟨.inl rfl, ?_⟩, h.le8⟩
        have := k.m
        rwa [List.length_append, List.length_singleton] at this
      · exact ⟨(jAddV D 1 8 3 all.length b).1, _, _, _, by rw [← e], .inl ⟨.inr rfl, k.m ho⟩, h.le8⟩
theorem PhA.flushed {D : DiskV} {sure all : List (List UInt8)} (h : PhA D sure all) : ((flushV D).2 = 0 ∧ PhM (flushV D).1 all.length all all) ∨ ((flushV D).2 = 50 ∧ PhM (flushV D).1 all.length sure all) := by
  rcases h.flush with ⟨e, k⟩ | ⟨e, ho, k⟩
  · exact .inl ⟨e, k.m⟩
  · exact .inr ⟨e, k.m ho⟩
theorem s_on {w : World} {base : Nat} {p : DiskP} {D : DiskV} (h : DiskS w base p D) : Calls Try.prog 29 #[.pointer (some ⟨p.d, 0, none⟩)] w fun e w' => e = .returned (.bool (!D.off)) ∧ w = w' := by
  obtain ⟨A, c, h⟩ := h; exact on_any h
theorem JrnAt.touch {w w' : World} {base gj ga next : Nat} {kind : Int} {p : DiskP} {D : DiskV} {M : List TypeId} (h : JrnAt w gj ga kind next) (hd : DiskS w base p D) (k : Touch M p w w') (ht : 162 ∉ 4 :: M) : JrnAt w' gj ga kind next := hd.blk h k ht
theorem start9 : PhA D9b [] [] := by
  have hs : ∀ n : Fin 8, secOf D9b.now ((1 + n.val : Nat) : Int) = zerosL := by decide +kernel
  have hk : ∀ n : Fin 8, secOf D9b.kept ((1 + n.val : Nat) : Int) = zerosL := by decide +kernel
  have hw : D9b.waits = [] := by decide +kernel
  exact ⟨⟨⟨by decide +kernel, by decide +kernel, by decide +kernel, by decide +kernel, by decide +kernel, by decide +kernel, fun p hp => (by rw [hw] at hp; cases hp), by decide +kernel, by decide +kernel, by decide +kernel⟩, by decide +kernel, by decide +kernel, by decide +kernel, by decide +kernel⟩, by decide +kernel, Nat.le_refl _, by simp, rfl, fun l hl => (by cases hl), fun n hn => hs ⟨n, hn⟩, fun n hn => hk ⟨n, hn⟩, fun p hp => (by rw [hw] at hp; cases hp), by rw [hw]; simp⟩
/-- The head of a round. -/
def RelJ (w1 : World) (ga : Nat) (p : DiskP) (k : Nat) (j s a cr : Value) (w : World) : Prop :=
  ∃ (D : DiskV) (sure all : List (List UInt8)) (sB aB : Option Addr) (sN sc aN ac gj c : Nat), j = .pointer (some ⟨gj, 0, none⟩) ∧ w1.heap.size ≤ gj ∧ s = .slice sB sN sc ∧ a = .slice aB aN ac ∧ cr = .int .i64 (c : Nat) ∧ c ≤ 2 * k ∧
    DiskS w w1.heap.size p D ∧ AreaAt w ga p.d 1 8 ∧ JrnAt w gj ga 3 all.length ∧ Lists w w1.heap.size sB sN aB aN ac sure all ∧ Below w1.heap.size w1 w ∧ PhA D sure all
/-- What is chosen for a crash. -/
def Pick (base : Nat) (v : Value) (w : World) : Prop := ∃ (C : Option Addr) (n d : Nat) (cs : List UInt8), v = .slice C n d ∧ RB w C n cs ∧ (0 < n → ∀ g, C.map (·.block) = some g → g < base) ∧ n ≤ maxLen
/-- Behind a crash it was opened. -/
def Opn (w1 : World) (ga : Nat) (p : DiskP) (sB aB : Option Addr) (sN aN ac : Nat) (sure all : List (List UInt8)) (k : Nat) (j cr : Value) (w : World) : Prop :=
  ∃ (D : DiskV) (got : List (List UInt8)) (gj c : Nat), j = .pointer (some ⟨gj, 0, none⟩) ∧ w1.heap.size ≤ gj ∧ cr = .int .i64 (c : Nat) ∧ c ≤ 2 * k + 2 ∧
    DiskS w w1.heap.size p D ∧ AreaAt w ga p.d 1 8 ∧ JrnAt w gj ga 3 got.length ∧ Lists w w1.heap.size sB sN aB aN ac sure all ∧ Below w1.heap.size w1 w ∧ PhA D got got ∧ begB sure got = true ∧ begB got all = true
end Go.Proofs.Ytninidpbchcliaa
