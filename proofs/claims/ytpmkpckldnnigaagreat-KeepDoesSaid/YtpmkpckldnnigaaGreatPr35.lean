/- Parts: PlainFeed, RowE, FeedM. -/
import Derived.Test.YtpmkpckldnnigaaGreatPr34
import Derived.Test.YtpmkpckldnnigaaGreatPr03
import Derived.Test.YtpmkpckldnnigaaGreatPr05
import Derived.Test.YtpmkpckldnnigaaGreatPr27
namespace Go.Proofs.YtpmkpckldnnigaaGreat
open Go.RowKit
set_option linter.unusedVariables false
set_option linter.unusedSimpArgs false
/-- Rows that fit, of numbers that are some. -/
def IntOk (l : List Int) : Prop := ∀ i, i < l.length → -9223372036854775808 ≤ intAt l i ∧ intAt l i ≤ 9223372036854775807
structure RowsOk (ts : List Int) (rows : List (List Int)) : Prop where
  fits : ∀ l ∈ rows, fitsB ts l = true
  ints : ∀ l ∈ rows, IntOk l
section
variable {D : DiskV} {N : Secs} {f m kind : Nat} {ts : List Int} {rows : List (List Int)}
end
end Go.Proofs.YtpmkpckldnnigaaGreat
namespace Go.Proofs.YtpmkpckldnnigaaGreat
open Go.RowKit

/-- What reading hands back. -/
def ReadEnd (w : World) (r : List Int × Nat) (e : Ending) (w' : World) : Prop := ∃ A n c, e = .returned (.tuple #[.slice A n c, .int .i64 (r.2 : Nat)]) ∧ Ow iv w' w.heap.size 3 A n c r.1 ∧ Below w.heap.size w w'
theorem ReadEnd.bad {w w' : World} {r : List Int × Nat} (z : Int) (h1 : r.1 = []) (h2 : z = (r.2 : Nat)) (hb : Below w.heap.size w w') : ReadEnd w r (.returned (.tuple #[.slice none 0 0, .int .i64 z])) w' :=
  ⟨none, 0, 0, by rw [h2], by rw [h1]; exact Ow.nil _ _ _ _, hb⟩
end Go.Proofs.YtpmkpckldnnigaaGreat
namespace Go.Proofs.YtpmkpckldnnigaaGreat
open Go.RowKit
set_option linter.unusedVariables false
set_option linter.unusedSimpArgs false
def IntsAt (w : World) (base : Nat) (A : Option Addr) (n : Nat) (l : List Int) : Prop := RI w A n l ∧ n ≤ maxLen ∧ (0 < n → Rests w base 3 A)
section
variable {M : List TypeId} {w w' : World} {base n : Nat} {p : DiskP} {D : DiskV} {A : Option Addr} {l : List Int}
theorem IntsAt.step (H : IntsAt w base A n l) (hd : DiskS w base p D) (k : Step M base p w w') (ht : 3 ∉ 4 :: M) : IntsAt w' base A n l :=
  ⟨⟨H.1.1, H.1.2.stepR H.2.2 hd k ht⟩, H.2.1, fun h0 => (H.2.2 h0).step hd k ht⟩
theorem IntsAt.below (H : IntsAt w base A n l) (hb : Below w.heap.size w w') : IntsAt w' base A n l :=
  ⟨H.1.below hb (Nat.le_refl _), H.2.1, fun h0 g hg => by
    rcases H.2.2 h0 g hg with q | ⟨cs, q⟩
    · exact .inl q
    · exact .inr ⟨cs, q.below hb q.lt⟩⟩
theorem IntsAt.old {w0 : World} (H : RI w0 A n l) (hm : n ≤ maxLen) (hb : Below w0.heap.size w0 w) (hs : w0.heap.size ≤ base) : IntsAt w base A n l :=
  ⟨H.below hb (Nat.le_refl _), hm, fun h0 g hg => by
    obtain ⟨b, o, e, q, _⟩ := H.2 h0
    rw [e] at hg
    simp only [Option.map_some, Option.some.injEq] at hg
    exact .inl (by omega)⟩
theorem IntsAt.len (H : IntsAt w base A n l) : n ≤ maxLen := H.2.1
theorem IntsAt.nil (w : World) (base : Nat) : IntsAt w base none 0 [] := ⟨⟨rfl, Row.nil _ _ _⟩, by unfold maxLen; omega, fun h => absurd h (by omega)⟩
end
/-- A journal of rows: a block of the type t. -/
def JRowsAt (t : TypeId) (w : World) (base g ga : Nat) (kind : Int) (next : Nat) (ts : List Int) : Prop :=
  ∃ gj A n c, Blk w g t [.pointer (some ⟨gj, 0, none⟩), .slice A n c] ∧ base ≤ gj ∧ JrnAt w gj ga kind next ∧ IntsAt w base A n ts
section
variable {M : List TypeId} {t : TypeId} {w w' : World} {base g ga next : Nat} {kind : Int} {ts : List Int} {p : DiskP} {D : DiskV}
theorem JRowsAt.step (H : JRowsAt t w base g ga kind next ts) (hd : DiskS w base p D) (k : Step M base p w w') (h1 : t ∉ 4 :: M) (h2 : 322 ∉ 4 :: M) (h3 : 3 ∉ 4 :: M) : JRowsAt t w' base g ga kind next ts := by
  obtain ⟨gj, A, n, c, hb, hg, hj, hi⟩ := H
  exact ⟨gj, A, n, c, hd.blk hb k.tch h1, hg, hd.blk hj k.tch h2, hi.step hd k h3⟩
theorem JRowsAt.below (H : JRowsAt t w base g ga kind next ts) (hb : Below w.heap.size w w') : JRowsAt t w' base g ga kind next ts := by
  obtain ⟨gj, A, n, c, hx, hg, hj, hi⟩ := H
  exact ⟨gj, A, n, c, hx.below hb hx.lt, hg, hj.below hb, hi.below hb⟩
end
end Go.Proofs.YtpmkpckldnnigaaGreat
