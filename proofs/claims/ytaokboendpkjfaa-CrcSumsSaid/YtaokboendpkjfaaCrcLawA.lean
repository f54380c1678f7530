/- The chapter's example of crc; the element types of this program. -/
import Derived.Test.YtaokboendpkjfaaCrc
import Derived.Test.YtaokboendpkjfaaMem
namespace Go.Proofs.Ytaokboendpkjfaa
open Go.RowKit


theorem RBs.one {w : World} {g : Nat} {t : TypeId} {fr : Nat × Nat} {A : Option Addr} {n c : Nat} {l : List UInt8} (hg : w.heap[g]? = some (.cells #[.slice A n c] t fr)) (h : RB w A n l) (hn : n ≤ maxLen) :
    RBs w (some ⟨g, 0, none⟩) 1 [l] :=
  ⟨rfl, fun _ => (A, n, c), Row.of_block hg 0 (fun i hi => by
    have : i = 0 := by simp at hi; exact hi
    subst this; rfl), fun i hi => by
    have : i = 0 := by simp at hi; exact hi
    subst this; exact ⟨h, hn⟩⟩
theorem RBs.two {w : World} {g : Nat} {t : TypeId} {fr : Nat × Nat} {A B : Option Addr} {n c m d : Nat} {l k : List UInt8} (hg : w.heap[g]? = some (.cells #[.slice A n c, .slice B m d] t fr)) (h : RB w A n l) (hn : n ≤ maxLen) (h' : RB w B m k) (hm : m ≤ maxLen) :
    RBs w (some ⟨g, 0, none⟩) 2 [l, k] :=
  ⟨rfl, fun i => if i = 0 then (A, n, c) else (B, m, d), Row.of_block hg 0 (fun i hi => by
    rcases (by simp at hi; omega : i = 0 ∨ i = 1) with rfl | rfl <;> rfl), fun i hi => by
    rcases (by simp at hi; omega : i = 0 ∨ i = 1) with rfl | rfl
    · exact ⟨h, hn⟩
    · exact ⟨h', hm⟩⟩

theorem awake2 (w : World) : Calls Try.prog 15 #[] w fun e w' => e = .returned (.bool true) ∧ Below w.heap.size w w' := by
  have hs : crcSum [[49, 50, 51, 52, 53, 54, 55, 56, 57]] = 3421780262 := by decide +kernel
  have Hs := Lib.hid hs; clear hs
  go_enter Try.func15, Try.ntmps15
  go_wp2_with (go_at_call 17; refine (sum_any _ _ _ [[49, 50, 51, 52, 53, 54, 55, 56, 57]] _ ?_ (by decide)).mono ?_)
  · exact RBs.one (heap_alloc2 _ _ _) (RB.of_block (l := [49, 50, 51, 52, 53, 54, 55, 56, 57]) (heap_alloc_new _ _ |> (Below.heap_alloc _ _ _ (by simp)).trans) rfl) (by decide)
  · rw [Hs.out]
    rintro e w' ⟨rfl, rfl⟩
    go_wp2
    go_ret
    exact ⟨rfl, (by (repeat' (first | (with_reducible exact Below.refl _ _) | (with_reducible assumption) | (with_reducible refine Below.drew ?_) | (with_reducible refine below_drewN ?_ _) | (with_reducible refine Below.alloc ?_ ?_ _) | (with_reducible refine Below.setCell ?_ ?_ _) | omega | (simp; done) | (simp; omega))))⟩
end Go.Proofs.Ytaokboendpkjfaa
