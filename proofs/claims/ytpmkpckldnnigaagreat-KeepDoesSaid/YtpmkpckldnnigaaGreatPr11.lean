/- Parts: PlainA, Crc. -/
import Derived.WalkKit
import Derived.Test.YtpmkpckldnnigaaGreatPr00
namespace Go.Proofs.YtpmkpckldnnigaaGreat
open Go.RowKit

def crcBit (x : Nat) : Nat := if x % 2 = 1 then (x / 2) ^^^ 3988292384 else x / 2
def crcBits : Nat → Nat → Nat
  | 0, x => x
  | k + 1, x => crcBits k (crcBit x)
def crcStep (c b : Nat) : Nat := crcBits 8 (c ^^^ b)
def crcFold (c : Nat) (l : List UInt8) : Nat := l.foldl (fun c b => crcStep c b.toNat) c
def crcMore (s : Nat) (l : List UInt8) : Nat := 4294967295 - crcFold (4294967295 - s) l
def crcSum (ls : List (List UInt8)) : Nat := ls.foldl crcMore 0

end Go.Proofs.YtpmkpckldnnigaaGreat
namespace Go.Proofs.YtpmkpckldnnigaaGreat
open Go.RowKit

/-- A row of slices, each of which reads as a list of bytes. -/
def RBs (w : World) (a : Option Addr) (n : Nat) (ls : List (List UInt8)) : Prop :=
  ls.length = n ∧ ∃ V : Nat → Option Addr × Nat × Nat, Row w a ls.length (fun i => .slice (V i).1 (V i).2.1 (V i).2.2) ∧ ∀ i, i < ls.length → RB w (V i).1 (V i).2.1 (ls.getD i []) ∧ (V i).2.1 ≤ maxLen

theorem RBs.one {w : World} {g : Nat} {t : TypeId} {fr : Nat × Nat} {A : Option Addr} {n c : Nat} {l : List UInt8} (hg : w.heap[g]? = some (.cells #[.slice A n c] t fr)) (h : RB w A n l) (hn : n ≤ maxLen) :
    RBs w (some ⟨g, 0, none⟩) 1 [l] :=
  ⟨rfl, fun _ => (A, n, c), Row.of_block hg 0 (fun i hi => by
    have : i = 0 := by simp at hi; exact hi
    subst this; rfl), fun i hi => by
    have : i = 0 := by simp at hi; exact hi
    subst this; exact ⟨h, hn⟩⟩
theorem RBs.two {w : World} {g : Nat} {t : TypeId} {fr : Nat × Nat} {A B : Option Addr} {n c m d : Nat} {l k : List UInt8} (hg : w.heap[g]? = some (.cells #[.slice A n c, .slice B m d] t fr)) (h : RB w A n l) (hn : n ≤ maxLen) (h' : RB w B m k) (hm : m ≤ maxLen) :
    RBs w (some ⟨g, 0, none⟩) 2 [l, k] :=
  ⟨rfl, fun i => if i = 0 then (A, n, c) else (B, m, d), Row.of_block hg 0 (fun i hi => by
    rcases (by simp at hi; omega : i = 0 ∨ i = 1) with rfl | rfl <;> rfl), fun i hi => by
    rcases (by simp at hi; omega : i = 0 ∨ i = 1) with rfl | rfl
    · exact ⟨h, hn⟩
    · exact ⟨h', hm⟩⟩
end Go.Proofs.YtpmkpckldnnigaaGreat
