/- Parts: StateF, VerifyA, Sign. -/
import Derived.Test.YtpmkpckldnnigaaGreatPr06
import Derived.Test.YtpmkpckldnnigaaGreatPr31
import Derived.Test.YtpmkpckldnnigaaGreatPr04
import Derived.WalkKit
import Derived.WalkSpells
import Derived.WalkLawsBesides
import Derived.Deep.DeepCutAuto
import Derived.Deep.CutBlock
namespace Go.Proofs.YtpmkpckldnnigaaGreat
open Go.RowKit

end Go.Proofs.YtpmkpckldnnigaaGreat
namespace Go.Proofs.YtpmkpckldnnigaaGreat
open Go.RowKit
set_option linter.unusedVariables false
set_option linter.unusedSimpArgs false
def bo (b : Bool) : Value := .bool b
def lkC (x : PA) (p : PV) (K : Option Addr) (nk ck : Nat) (O : Option Addr) (no co : Nat) (past : Int) (bad : Bool) : List Value :=
  [.slice x.A1 x.n1 x.c1, .slice x.A2 x.n2 x.c2, .int .i64 p.regs, .slice x.A3 x.n3 x.c3, .slice x.A4 x.n4 x.c4, .slice K nk ck, .slice O no co, .int .i64 past, .bool bad]
/-- The looker. -/
def LkAt (w : World) (base g : Nat) (x : PA) (p : PV) (s : LkV) : Prop :=
  ∃ K nk ck O no co, Blk w g 220 (lkC x p K nk ck O no co s.past s.bad) ∧ base ≤ g ∧ Ow iv w base 3 K nk ck s.kinds ∧ Ow bo w base 4 O no co s.outs
section
variable {w w' : World} {base g : Nat} {x : PA} {p : PV} {s : LkV}
def lkMut : List TypeId := [220, 3, 4]
/-- Blocks of other types are kept. -/
def Stay (w w' : World) : Prop := ∀ g t cs, t ∉ lkMut → Blk w g t cs → Blk w' g t cs
theorem Stay.refl (w : World) : Stay w w := fun _ _ _ _ h => h
theorem Stay.trans {w1 w2 w3 : World} (h : Stay w1 w2) (k : Stay w2 w3) : Stay w1 w3 := fun g t cs ht hb => k g t cs ht (h g t cs ht hb)
theorem Stay.set {g : Nat} {t : TypeId} {cs : List Value} (hb : Blk w g t cs) (ht : t ∈ lkMut) (i : Nat) (u : Value) : Stay w (w.setCell ⟨g, i, none⟩ u) := fun g' t' cs' ht' hb' => hb'.far (p := ⟨g, i, none⟩) (fun e => hb'.ne_ hb (fun e' => ht' (by rw [e']; exact ht)) e) _
theorem Stay.of_below (hb : Below w.heap.size w w') : Stay w w' := fun g t cs _ h => h.below hb h.lt
/-- Nothing below base is changed, and the looker is another. -/
def LkPost (w : World) (base g : Nat) (x : PA) (p : PV) (s' : LkV) (v : Option Int) (e : Ending) (w' : World) : Prop :=
  e = .returned (match v with | none => .tuple #[] | some n => .int .i64 n) ∧ LkAt w' base g x p s' ∧ Below base w w' ∧ Stay w w'
end
end Go.Proofs.YtpmkpckldnnigaaGreat
namespace Go.Proofs.YtpmkpckldnnigaaGreat
open Go.RowKit
set_option linter.unusedVariables false
set_option linter.unusedSimpArgs false
end Go.Proofs.YtpmkpckldnnigaaGreat
