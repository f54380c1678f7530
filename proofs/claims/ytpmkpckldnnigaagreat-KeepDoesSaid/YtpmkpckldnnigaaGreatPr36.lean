/- Parts: ProgAt, KeepN. -/
import Derived.Test.YtpmkpckldnnigaaGreatPr03
import Derived.Test.YtpmkpckldnnigaaGreatPr35
import Derived.Test.YtpmkpckldnnigaaGreatPr32
import Derived.Test.YtpmkpckldnnigaaGreatPr33
namespace Go.Proofs.YtpmkpckldnnigaaGreat
open Go.RowKit
set_option linter.unusedVariables false
set_option linter.unusedSimpArgs false
structure ProgAt (w : World) (base : Nat) (x : PA) (p : PV) : Prop where
  rd : ProgRd w x p
  s1 : 0 < x.n1 → Rests w base 3 x.A1
  s2 : 0 < x.n2 → Rests w base 3 x.A2
  s3 : 0 < x.n3 → Rests w base 196 x.A3
  s4 : 0 < x.n4 → Rests w base 133 x.A4
section
variable {M : List TypeId} {w w' w0 : World} {base : Nat} {q : DiskP} {D : DiskV} {x : PA} {p : PV}
theorem Rests.below {t : TypeId} {A : Option Addr} (h : Rests w base t A) (hb : Below w.heap.size w w') : Rests w' base t A := fun g hg => by
  rcases h g hg with e | ⟨cs, e⟩
  · exact .inl e
  · exact .inr ⟨cs, e.below hb e.lt⟩
theorem RdS.stepR {α : Type} {size n : Nat} {enc : α → List Value} {A : Option Addr} {l : List α} {t : TypeId} (h : RdS size enc w A n l) (h0 : 0 < size) (hr : 0 < n → Rests w base t A) (hd : DiskS w base q D) (k : Step M base q w w') (ht : t ∉ 4 :: M) : RdS size enc w' A n l :=
  ⟨h.1, h.2.1, h.2.2.stepR (fun e => hr (by rcases Nat.eq_zero_or_pos n with z | z; · rw [z, Nat.zero_mul] at e; omega
                                            · exact z)) hd k ht⟩
theorem ProgAt.below (h : ProgAt w base x p) (hb : Below w.heap.size w w') : ProgAt w' base x p :=
  ⟨h.rd.below hb (Nat.le_refl _), fun e => (h.s1 e).below hb, fun e => (h.s2 e).below hb, fun e => (h.s3 e).below hb, fun e => (h.s4 e).below hb⟩
theorem ProgAt.step (h : ProgAt w base x p) (hd : DiskS w base q D) (k : Step M base q w w') (h1 : 3 ∉ 4 :: M) (h3 : 196 ∉ 4 :: M) (h4 : 133 ∉ 4 :: M) : ProgAt w' base x p :=
  ⟨⟨⟨h.rd.r1.1, h.rd.r1.2.stepR h.s1 hd k h1⟩, ⟨h.rd.r2.1, h.rd.r2.2.stepR h.s2 hd k h1⟩, h.rd.r3.stepR (by omega) h.s3 hd k h3, h.rd.r4.stepR (by omega) h.s4 hd k h4, h.rd.k1, h.rd.k2, h.rd.k3, h.rd.k4⟩,
    fun e => (h.s1 e).step hd k h1, fun e => (h.s2 e).step hd k h1, fun e => (h.s3 e).step hd k h3, fun e => (h.s4 e).step hd k h4⟩
theorem rests_old {A : Option Addr} {n : Nat} {t : TypeId} {f : Nat → Value} (h : Row w0 A n f) (hs : w0.heap.size ≤ base) (h0 : 0 < n) : Rests w base t A := fun g hg => by
  obtain ⟨b, o, e, hb, _⟩ := h h0
  rw [e] at hg
  simp only [Option.map_some, Option.some.injEq] at hg
  exact .inl (by omega)
theorem ProgAt.old (h : ProgRd w0 x p) (hb : Below w0.heap.size w0 w) (hs : w0.heap.size ≤ base) : ProgAt w base x p :=
  ⟨h.below hb (Nat.le_refl _), fun e => rests_old h.r1.2 hs e, fun e => rests_old h.r2.2 hs e, fun e => rests_old h.r3.2.2 hs (by omega), fun e => rests_old h.r4.2.2 hs (by omega)⟩
end
end Go.Proofs.YtpmkpckldnnigaaGreat
namespace Go.Proofs.YtpmkpckldnnigaaGreat
open Go.RowKit
set_option linter.unusedVariables false
set_option linter.unusedSimpArgs false
def keepC (gs : Nat) (x : PA) (p : PV) (hash : Int) (s : SV) (A : Option Addr) (n c : Nat) (has : Bool) : List Value :=
  [.pointer (some ⟨gs, 0, none⟩), .slice x.A1 x.n1 x.c1, .slice x.A2 x.n2 x.c2, .int .i64 p.regs, .slice x.A3 x.n3 x.c3, .slice x.A4 x.n4 x.c4, .int .i64 hash, .int .i64 s.tick, .int .i64 s.hash, .slice A n c, .bool has]
def KeepAtX (X : Nat → Prop) (w : World) (base g ga gb : Nat) (x : PA) (p : PV) (hash : Int) (k : KpV) : Prop :=
  ∃ gs A n c, Blk w g 111 (keepC gs x p hash k.last A n c k.has) ∧ base ≤ gs ∧ base ≤ g ∧ SlotsAt w base gs ga gb k.s ∧ IntsAt w base A n k.last.cells ∧ n ≤ c ∧ c ≤ maxLen ∧ ProgAt w base x p ∧ ∀ b, A.map (·.block) = some b → ¬ X b
section
variable {M : List TypeId} {w w' : World} {base g ga gb : Nat} {q : DiskP} {D : DiskV} {x : PA} {p : PV} {hash : Int} {k : KpV} {X : Nat → Prop}
theorem SlotsAt.stepM {gs : Nat} {s : SlV3} (h : SlotsAt w base gs ga gb s) (hd : DiskS w base q D) (t : Step M base q w w') (h2 : 209 ∉ 4 :: M) (h3 : 5 ∉ 4 :: M) : SlotsAt w' base gs ga gb s := by
  obtain ⟨B, n, c, b1, b2, b3, b4, b5, b6⟩ := h
  exact ⟨B, n, c, hd.blk b1 t.tch h2, b2, b3, b4.step hd t h3, b5, b6⟩
theorem KeepAtX.below (h : KeepAtX X w base g ga gb x p hash k) (hb : Below w.heap.size w w') : KeepAtX X w' base g ga gb x p hash k := by
  obtain ⟨gs, A, n, c, b1, b2, b3, b4, b5, b6, b7, b8, b9⟩ := h
  exact ⟨gs, A, n, c, b1.below hb b1.lt, b2, b3, b4.below hb, b5.below hb, b6, b7, b8.below hb, b9⟩
theorem KeepAtX.step (h : KeepAtX X w base g ga gb x p hash k) (hd : DiskS w base q D) (t : Step M base q w w') (h1 : 111 ∉ 4 :: M) (h2 : 209 ∉ 4 :: M) (h3 : 5 ∉ 4 :: M) (h4 : 3 ∉ 4 :: M) (h5 : 196 ∉ 4 :: M) (h6 : 133 ∉ 4 :: M) : KeepAtX X w' base g ga gb x p hash k := by
  obtain ⟨gs, A, n, c, b1, b2, b3, b4, b5, b6, b7, b8, b9⟩ := h
  exact ⟨gs, A, n, c, hd.blk b1 t.tch h1, b2, b3, b4.stepM hd t h2 h3, b5.step hd t h4, b6, b7, b8.step hd t h4 h5 h6, b9⟩
/-- What opening a keep leaves. -/
def KOPost (X : Nat → Prop) (w : World) (base : Nat) (q : DiskP) (ga gb : Nat) (x : PA) (p : PV) (hash : Int) (R : DiskV × KpV × Int) (e : Ending) (w' : World) : Prop :=
  ∃ P, e = .returned (.tuple #[.pointer P, .int .i64 R.2.2]) ∧ (R.2.2 ≠ 0 → P = none) ∧ (R.2.2 = 0 → ∃ g, P = some ⟨g, 0, none⟩ ∧ w.heap.size ≤ g ∧ KeepAtX X w' base g ga gb x p hash R.2.1) ∧ DiskS w' base q R.1 ∧ Step mutD base q w w'
theorem KOPost.no {z : Int} {D' : DiskV} {k : KpV} (hz : z ≠ 0) (hd : DiskS w' base q D') (hs : Step mutD base q w w') : KOPost X w base q ga gb x p hash (D', k, z) (.returned (.tuple #[.pointer none, .int .i64 z])) w' :=
  ⟨none, rfl, fun _ => rfl, fun e => absurd e hz, hd, hs⟩
end
end Go.Proofs.YtpmkpckldnnigaaGreat
