/- Counts whatever the kind; the example of chapter 5. -/
import Derived.Test.YtninidpbchcliaaMeterA
import Derived.Test.YtninidpbchcliaaFrameB
namespace Go.Proofs.Ytninidpbchcliaa
open Go.RowKit
theorem MeterAt.alloc {w : World} {g : Nat} {l : List Int} (h : MeterAt w g l) (o : Obj) : MeterAt (w.alloc o) g l := ⟨h.1, h.2.alloc o⟩
theorem MeterAt.below {w w' : World} {g B : Nat} {l : List Int} (h : MeterAt w g l) (hb : Below B w w') (hg : g < B) : MeterAt w' g l := ⟨h.1, h.2.below hb hg⟩
theorem MeterAt.grown {w w' : World} {g : Nat} {row : Option Nat} {l : List Int} (h : MeterAt w g l) (hb : w.grownBy w' row) (hg : row ≠ some g) : MeterAt w' g l := ⟨h.1, h.2.grown hb hg⟩
theorem MeterAt.drewN {w : World} {g : Nat} {l : List Int} (h : MeterAt w g l) (n : Nat) : MeterAt (w.drewN n) g l := ⟨h.1, h.2.drewN n⟩
/-- Counts whatever the kind. -/
def inK (kind : Int) : Bool := decide (1 ≤ kind ∧ kind ≤ 6)
def mAdd (l : List Int) (kind n : Int) : List Int := if inK kind then mPut l kind (wrap64 (mGet l kind + n)) else l
def mCnt (l : List Int) (kind : Int) : Int := if inK kind then mGet l kind else 0
def mTake (l : List Int) (kind : Int) : List Int := if inK kind then mPut l kind 0 else l
def mRse (l : List Int) (kind n : Int) : List Int := if inK kind then mRaise l kind n else l
theorem inK_yes {kind : Int} (h : inK kind = true) : 1 ≤ kind ∧ kind ≤ 6 := by simpa [inK] using h
theorem inK_no {kind : Int} {g : Nat} (h : inK kind = false) : NoKind (some ⟨g, 0, none⟩) kind := .inl ⟨g, rfl, by simpa [inK] using h⟩
theorem add_any (g : Nat) (l : List Int) (kind n : Int) (w : World) (hm : MeterAt w g l) :
    Calls Try.prog 71 #[.pointer (some ⟨g, 0, none⟩), .int .i64 kind, .int .i64 n] w fun e w' => e = .returned (.bool (inK kind)) ∧ MeterAt w' g (mAdd l kind n) ∧ w.grownBy w' (some g) ∧ w'.heap.size = w.heap.size := by
  cases h : inK kind with
  | true => unfold mAdd; rw [if_pos h]; exact add_yes g l kind n w hm (inK_yes h).1 (inK_yes h).2
  | false => unfold mAdd; rw [if_neg (by simp [h])]; exact (add_no _ kind n w (inK_no h)).mono fun e w' ⟨he, hw⟩ => by subst hw; exact ⟨he, hm, World.grownBy.refl _ _, rfl⟩
theorem count_any (g : Nat) (l : List Int) (kind : Int) (w : World) (hm : MeterAt w g l) :
    Calls Try.prog 36 #[.pointer (some ⟨g, 0, none⟩), .int .i64 kind] w fun e w' => e = .returned (.int .i64 (mCnt l kind)) ∧ w = w' := by
  cases h : inK kind with
  | true => unfold mCnt; rw [if_pos h]; exact count_yes g l kind w hm (inK_yes h).1 (inK_yes h).2
  | false => unfold mCnt; rw [if_neg (by simp [h])]; exact count_no _ kind w (inK_no h)

theorem mGet_put {l : List Int} {kind x : Int} (hl : l.length = 6) (h : inK kind = true) : mGet (mPut l kind x) kind = x := by
  have := inK_yes h
  unfold mGet mPut
  have hk : (kind - 1).toNat < l.length := by omega
  generalize (kind - 1).toNat = q at *
  simp [List.getD_eq_getElem?_getD, hk]
theorem mGet_far {l : List Int} {k1 k2 x : Int} (h1 : inK k1 = true) (h2 : inK k2 = true) (hne : k1 ≠ k2) : mGet (mPut l k1 x) k2 = mGet l k2 := by
  have a := inK_yes h1
  have b := inK_yes h2
  unfold mGet mPut
  have hk : (k1 - 1).toNat ≠ (k2 - 1).toNat := by omega
  generalize (k1 - 1).toNat = q at *
  generalize (k2 - 1).toNat = r at *
  simp [List.getD_eq_getElem?_getD, List.getElem?_set_ne hk]
theorem mCnt_far {l : List Int} {k1 k2 : Int} (hne : k1 ≠ k2) (n m : Int) : mCnt (mTake (mRse (mAdd l k1 n) k1 m) k1) k2 = mCnt l k2 := by
  unfold mCnt
  cases h2 : inK k2 with
  | false => simp
  | true =>
    simp only [if_true]
    unfold mTake mRse mAdd mRaise
    cases h1 : inK k1 with
    | false => simp
    | true =>
      simp only [if_true]
      rw [mGet_far h1 h2 hne]
      split
      · rw [mGet_far h1 h2 hne, mGet_far h1 h2 hne]
      · rw [mGet_far h1 h2 hne]
theorem mCnt_take {l : List Int} (hl : l.length = 6) (kind : Int) : mCnt (mTake l kind) kind = 0 := by
  unfold mCnt mTake
  cases h : inK kind with
  | false => simp
  | true => simp only [if_true]; exact mGet_put hl h
theorem mCnt_add {l : List Int} (hl : l.length = 6) (kind n : Int) : mCnt (mAdd l kind n) kind = if inK kind then wrap64 (mCnt l kind + n) else 0 := by
  unfold mCnt mAdd
  cases h : inK kind with
  | false => simp
  | true => simp only [if_true]; exact mGet_put hl h
theorem wrap_take (s t c : Int) (h : c = wrap64 (s - t)) : 0 = wrap64 (s - wrap64 (t + c)) := by subst h; unfold wrap64; omega
theorem wrap_add (s t c n : Int) (h : c = wrap64 (s - t)) : wrap64 (c + n) = wrap64 (wrap64 (s + n) - t) := by subst h; unfold wrap64; omega

end Go.Proofs.Ytninidpbchcliaa
