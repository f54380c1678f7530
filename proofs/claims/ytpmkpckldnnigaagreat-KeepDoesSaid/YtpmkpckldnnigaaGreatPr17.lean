/- Parts: DiskC, DiskD. -/
import Derived.Test.YtpmkpckldnnigaaGreatPr16
import Derived.Test.YtpmkpckldnnigaaGreatPr01
namespace Go.Proofs.YtpmkpckldnnigaaGreat
open Go.RowKit
set_option linter.unusedVariables false
set_option linter.unusedSimpArgs false
section
variable {w : World} {base : Nat} {p : DiskP} {A : Option Addr} {c : Nat} {D : DiskV}
end
end Go.Proofs.YtpmkpckldnnigaaGreat
namespace Go.Proofs.YtpmkpckldnnigaaGreat
open Go.RowKit
set_option linter.unusedVariables false
set_option linter.unusedSimpArgs false
section
variable {w : World} {base : Nat} {p : DiskP} {A : Option Addr} {c : Nat} {D : DiskV}
theorem pieceV_len (p : Nat × List UInt8) (h : p.2.length = 128) : (pieceV p).length = 129 := by simp [pieceV, h]
theorem pieceV_one (x : Nat × List UInt8) : ∀ u ∈ pieceV x, u.oneCell' = true := by
  intro u hu
  simp only [pieceV, List.mem_cons] at hu
  rcases hu with rfl | hu
  · rfl
  · exact mem_bv u hu
theorem DiskAt.waS (h : DiskAt w base p A c D) : OwS 129 pieceV w base 154 A D.waits.length c D.waits := ⟨rfl, h.wa⟩
/-- A disk behind a call that may have made its row of pieces anew. -/
def DiskNext (w : World) (base : Nat) (p : DiskP) (A : Option Addr) (D' : DiskV) (w' : World) : Prop :=
  ∃ A' c', DiskAt w' base p A' c' D' ∧ Keep (foot p A) w w' ∧ (∀ g, A'.map (·.block) = some g → A.map (·.block) = some g ∨ w.heap.size ≤ g)
def cutE (D : DiskV) : Int := if D.cut = 0 then 50 else 0
def WrPost (w : World) (base : Nat) (p : DiskP) (A : Option Addr) (D : DiskV) (n : Int) (b : List UInt8) (e : Ending) (w' : World) : Prop := e = .returned (.int .i64 (cutE D)) ∧ DiskNext w base p A (goesV (putD D n b) 2) w'
theorem WrPost.mk {w w' : World} {n : Int} {b : List UInt8} {z : Int} {A' : Option Addr} {c' : Nat} (hz : cutE D = z) (h : DiskAt w' base p A' c' (goesV (putD D n b) 2)) (k : Keep (foot p A) w w') (hn : ∀ g, A'.map (·.block) = some g → A.map (·.block) = some g ∨ w.heap.size ≤ g) : WrPost w base p A D n b (.returned (.int .i64 z)) w' :=
  ⟨by rw [hz], A', c', h, k, hn⟩
theorem DiskNext.same (h : DiskAt w base p A c D) {w' : World} (hb : Below w.heap.size w w') : DiskNext w base p A D w' := ⟨A, c, h.below hb, Keep.of_below hb, fun _ e => .inl e⟩
end
end Go.Proofs.YtpmkpckldnnigaaGreat
