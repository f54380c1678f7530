/- Contracts of the package of sealed sectors: Open, Blank. -/
import Derived.Test.YtninidpbchcliaaSealB
namespace Go.Proofs.Ytninidpbchcliaa
open Go.RowKit

theorem eq128 (l k : List UInt8) (hl : l.length = 128) (hk : k.length = 128) (w : World) : (Op.equalIn 10000 33 (.agg (l.map bv).toArray) (.agg (k.map bv).toArray)).run Try.prog w = .ok (decide (l = k)) w :=
  run_eq_bytes Try.underlying33 Try.underlying5 (by kernel_rfl) (by kernel_rfl) (by kernel_rfl) l k hl hk

theorem cellB {l : List UInt8} (i : Nat) (hi : i < l.length) : (l.map bv)[i]? = some (.int .u8 (byteAt l i)) := by
  unfold byteAt bv; simp [List.getD_eq_getElem?_getD, hi]

def OpenBad (l : List UInt8) (kind : Int) : Prop := byteAt l 127 ≠ 215 ∨ (byteAt l 127 = 215 ∧ (byteAt l 0 : Int) ≠ kind) ∨ (byteAt l 127 = 215 ∧ (byteAt l 0 : Int) = kind ∧ 113 < byteAt l 9)

set_option maxRecDepth 100000 in
set_option maxHeartbeats 1000000 in
theorem open_bad (l : List UInt8) (kind : Int) (w : World) (hl : l.length = 128) (h : OpenBad l kind) :
    Calls Try.prog 86 #[aggB l, .int .i64 kind] w fun e w' => e = .returned (.tuple #[.int .i64 0, .slice none 0 0, .int .i64 53]) ∧ Below w.heap.size w w' := by
  have c0 := cellB (l := l) 0 (by omega)
  have c9 := cellB (l := l) 9 (by omega)
  have c127 := cellB (l := l) 127 (by omega)
  have b0 := byteAt_lt l 0
  have b9 := byteAt_lt l 9
  unfold OpenBad at h
  unfold aggB
  generalize l.map bv = C at *
  generalize byteAt l 0 = y0 at *
  generalize byteAt l 9 = y9 at *
  generalize byteAt l 127 = y127 at *
  clear hl
  rcases h with h | ⟨h, h2⟩ | ⟨h, h2, h3⟩
  · have e1 : (((y127 : Nat) : Int) != 215) = true := by rw [bne_iff_ne]; omega
    clear h
    go_enter Try.func86, Try.ntmps86
    go_wp2
    go_ret3
    exact ⟨rfl, (by (repeat' (first | (with_reducible exact Below.refl _ _) | (with_reducible assumption) | (with_reducible refine Below.drew ?_) | (with_reducible refine below_drewN ?_ _) | (with_reducible refine Below.alloc ?_ ?_ _) | (with_reducible refine Below.setCell ?_ ?_ _) | omega | (simp; done) | (simp; omega))))⟩
  · have e1 : (((y127 : Nat) : Int) != 215) = false := by rw [h]; rfl
    have e2 : (((y0 : Nat) : Int) != kind) = true := by rw [bne_iff_ne]; exact h2
    clear h h2
    go_enter Try.func86, Try.ntmps86
    go_wp2
    go_ret3
    exact ⟨rfl, (by (repeat' (first | (with_reducible exact Below.refl _ _) | (with_reducible assumption) | (with_reducible refine Below.drew ?_) | (with_reducible refine below_drewN ?_ _) | (with_reducible refine Below.alloc ?_ ?_ _) | (with_reducible refine Below.setCell ?_ ?_ _) | omega | (simp; done) | (simp; omega))))⟩
  · have e1 : (((y127 : Nat) : Int) != 215) = false := by rw [h]; rfl
    have e2 : (((y0 : Nat) : Int) != kind) = false := by rw [h2]; simp
    have e3 : decide ((113 : Int) < ((y9 : Nat) : Int)) = true := by simp; omega
    clear h h2
    go_enter Try.func86, Try.ntmps86
    go_wp2
    go_ret3
    exact ⟨rfl, (by (repeat' (first | (with_reducible exact Below.refl _ _) | (with_reducible assumption) | (with_reducible refine Below.drew ?_) | (with_reducible refine below_drewN ?_ _) | (with_reducible refine Below.alloc ?_ ?_ _) | (with_reducible refine Below.setCell ?_ ?_ _) | omega | (simp; done) | (simp; omega))))⟩

theorem RB.nil_of {w : World} {A : Option Addr} {K : List UInt8} (h : K.length = 0) : RB w A 0 K := ⟨h, Row.nil _ _ _⟩
/-- Open, where the first looks let it by, out of what Make says. -/
def OpenEnd (y9 : Nat) (K : List UInt8) (q : Bool) (N : Int) (w : World) (e : Ending) (w' : World) : Prop :=
  (q = false ∧ e = .returned (.tuple #[.int .i64 0, .slice none 0 0, .int .i64 53]) ∧ Below w.heap.size w w') ∨
  (q = true ∧ ∃ A c, e = .returned (.tuple #[.int .i64 N, .slice A y9 c, .int .i64 0]) ∧ OB w' w.heap.size 5 A y9 c K ∧ Below w.heap.size w w')
theorem OpenEnd.no {y9 : Nat} {K : List UInt8} {N : Int} {w w' : World} (h : Below w.heap.size w w') : OpenEnd y9 K false N w (.returned (.tuple #[.int .i64 0, .slice none 0 0, .int .i64 53])) w' := .inl ⟨rfl, rfl, h⟩
theorem OpenEnd.yes {y9 c : Nat} {A : Option Addr} {K : List UInt8} {N : Int} {w w' : World} (h : Below w.heap.size w w') (ho : OB w' w.heap.size 5 A y9 c K) : OpenEnd y9 K true N w (.returned (.tuple #[.int .i64 N, .slice A y9 c, .int .i64 0])) w' := .inr ⟨rfl, A, c, rfl, ho, h⟩
theorem OpenEnd.yes0 {K : List UInt8} {N : Int} {w w' : World} (h : Below w.heap.size w w') (hK : K.length = 0) : OpenEnd 0 K true N w (.returned (.tuple #[.int .i64 N, .slice none 0 0, .int .i64 0])) w' := by
  obtain rfl := List.eq_nil_of_length_eq_zero hK
  exact .inr ⟨rfl, none, 0, rfl, Ow.nil _ _ _ _, h⟩
set_option maxRecDepth 100000 in
set_option maxHeartbeats 1000000 in
theorem open_main (l M : List UInt8) (kind r : Int) (w : World) (q : Bool) (hl : l.length = 128) (h127 : byteAt l 127 = 215) (h0 : (byteAt l 0 : Int) = kind) (h9 : byteAt l 9 ≤ 113) (hM : M.length = 128)
    (hq : (((r != 0) = true ∧ q = false) ∨ ((r != 0) = false ∧ q = decide (M = l))))
    (hmk : ∀ (A : Option Addr) (c : Nat) (w : World), RB w A (byteAt l 9) (openLoad l) → Calls Try.prog 84 #[.int .i64 kind, .int .i64 (sg (openNum l)), .slice A (byteAt l 9) c] w fun e w' => e = .returned (.tuple #[aggB M, .int .i64 r]) ∧ Below w.heap.size w w') :
    Calls Try.prog 86 #[aggB l, .int .i64 kind] w (OpenEnd (byteAt l 9) (openLoad l) q (sg (openNum l)) w) := by
  have c0 := cellB (l := l) 0 (by omega)
  have c9 := cellB (l := l) 9 (by omega)
  have c127 := cellB (l := l) 127 (by omega)
  have b0 := byteAt_lt l 0
  have b127 := byteAt_lt l 127
  have e1 : (((byteAt l 127 : Nat) : Int) != 215) = false := by rw [h127]; rfl
  have e2 : (((byteAt l 0 : Nat) : Int) != kind) = false := by rw [h0]; simp
  have e3 : decide ((113 : Int) < ((byteAt l 9 : Nat) : Int)) = false := by simp; omega
  have hb : ∀ (W : World) (g : Nat), W.heap[g]? = some (.cells (l.map bv).toArray 33 (0, 0)) → BlkB W g 33 l := fun _ _ h => h
  have hneq := fun w => eq128 M l hM hl w
  have hload : (l.drop 10).take (byteAt l 9) = openLoad l := rfl
  have hnum : getL ((l.drop 1).take 8) = openNum l := rfl
  have hlo := openLoad_len hl h9
  have hz := (zero_of_info zero128).1
  have hi := (zero_of_info zero128).2
  have hzl : (zerosL.map bv).length = 128 := by simp [zerosL_len]
  have HM := Lib.hid (show (M.map bv).length = 128 by simpa using hM)
  have HL := Lib.hid (show (l.map bv).length = 128 by simpa using hl)
  have HM1 := Lib.hid (mem_bv (l := M))
  have Hl := Lib.hid hl
  have Hi := Lib.hid hi
  have Hlo := Lib.hid hlo
  have Hload := Lib.hid hload
  have Hnum := Lib.hid hnum
  have H0 := Lib.hid h0
  generalize decide (M = l) = b at *
  unfold aggB at *
  generalize zerosL.map bv = Z at *
  have Hz := Lib.hid hzl
  generalize byteAt l 0 = y0 at *
  generalize byteAt l 9 = y9 at *
  generalize byteAt l 127 = y127 at *
  generalize openNum l = N at *
  generalize openLoad l = K at *
  clear hl h127 h0 hM hload hnum hlo hi hzl
  have hget : ∀ (A : Option Addr) (c : Nat) (w : World), RB w A 8 ((l.drop 1).take 8) → Calls Try.prog 109 #[.slice A 8 c] w fun e w' => e = .returned (.tuple #[.int .i64 (sg N), .int .i64 0]) ∧ w = w' := fun A c w h => by
    have := get_any A c _ w h
    rwa [Hnum.out] at this
  have hc1 : (10 : Int) + (y9 : Int) ≤ 128 := by omega
  have Hmk := Lib.hid hmk
  clear hmk
  have hy : y9 = 0 ∨ ¬ y9 = 0 := by omega
  have hsl : y9 ≠ 0 → ∀ W : World, (Instr.sliceAt 33 (.pointer (some ⟨w.heap.size, 0, none⟩)) (some (.int .i64 10)) (some (.int .i64 ((10 : Int) + (y9 : Int)))) (some (.int .i64 ((10 : Int) + (y9 : Int))))).run Try.prog W = .ok (.slice (some ⟨w.heap.size, 10, none⟩) y9 y9) W :=
    fun h W => run_slice3 Try.underlying33 (by kernel_rfl) _ _ _ 10 y9 rfl (by omega) (by omega) (by omega) W
  have hq' : ((r != 0) = true ∧ q = false) ∨ ((r != 0) = false ∧ b = false ∧ q = false) ∨ ((r != 0) = false ∧ b = true ∧ q = true) := by
    rcases hq with h | ⟨h, h2⟩
    · exact .inl h
    · cases b
      · exact .inr (.inl ⟨h, rfl, h2⟩)
      · exact .inr (.inr ⟨h, rfl, h2⟩)
  clear hq
  rcases hy with hy | hy
  case' inl => (clear hsl; subst hy)
  case' inr => replace hsl := hsl hy
  all_goals
   rcases hq' with ⟨hr, rfl⟩ | ⟨hr, rfl, rfl⟩ | ⟨hr, rfl, rfl⟩
  all_goals
   go_enter Try.func86, Try.ntmps86
   go_wp2_with (first
    | (go_at_call 109; (with_reducible refine (hget _ _ _ (BlkB.rb (off := 1) (hb _ _ (heap_top _ _ rfl)) rfl (by rw [Hl.out]; omega))).mono ?_); rintro e w1 ⟨rfl, rfl⟩)
    | (at_builtin; refine wpList_app rfl rfl elemU8 bv_one (s := .tmp 34) (N := y9) (L := K) rfl (Ow.nil bv _ w.heap.size _) rfl (k := K) (BlkB.rb (off := 10) (hb _ _ (heap_top _ _ rfl)) Hload.out (by rw [Hl.out]; omega)).rd (by omega) rfl (by unfold maxLen; omega) (by omega) (by first | omega | (simp; done) | (simp; omega)) ?_; intro A2 c2 w2 hown2 hg2 hat2 hb2)
    | (go_at_call 84; (with_reducible refine (Hmk.out _ _ _ hown2.rd.rb).mono ?_); rintro e w3 ⟨rfl, hB3⟩)
    | (go_at_call 84; (with_reducible refine (Hmk.out none 0 _ (RB.nil_of Hlo.out)).mono ?_); rintro e w3 ⟨rfl, hB3⟩)
    | (refine wpList_store_arr rfl (x := .tmp 8) (y := .tmp 46) rfl rfl rfl (t := 33) (cs := Z) (xs := M.map bv) (Blk.top _ rfl rfl) Hi.out HM.out (by rw [Hz.out]; omega) HM1.out ?_; intro w4 hb4 hg4 hs4; rw [splice_all _ _ (by rw [Hz.out, HM.out])] at hb4)
    | (refine wpList_load_arr rfl (x := .tmp 8) rfl rfl (t := 33) (cs := M.map bv) hb4 Try.underlying33 Hi.out HM.out (xs := M.map bv) (by rw [List.drop_zero, List.take_of_length_le (by rw [HM.out]; omega)]) ?_)
    | (refine wpList_load_arr rfl (x := .tmp 2) rfl rfl (t := 33) (cs := l.map bv) ((((hb _ _ ((heap_top _ _ rfl))).grown hg2 (by simp)).below hB3 (by have := hg2.size; simp at this; omega)).alloc _ |>.grown hg4 (by have := hg2.size; have := hB3.size; simp at *; omega)) Try.underlying33 Hi.out HL.out (xs := l.map bv) (by rw [List.drop_zero, List.take_of_length_le (by rw [HL.out]; omega)]) ?_)
    | (refine wpList_load_arr rfl (x := .tmp 2) rfl rfl (t := 33) (cs := l.map bv) ((((hb _ _ ((heap_top _ _ rfl))).below hB3 (by simp)).alloc _).grown hg4 (by have := hB3.size; simp at this; simp; omega)) Try.underlying33 Hi.out HL.out (xs := l.map bv) (by rw [List.drop_zero, List.take_of_length_le (by rw [HL.out]; omega)]) ?_))
  all_goals
   have h34 : Below w3.heap.size w3 w4 := below_of_only ((Below.refl _ _).alloc (Nat.le_refl _) _) hg4 (by simp) (Nat.le_refl _)
   first
    | (have hBel : Below w.heap.size w w4 := below_then (below_then (below_then' ((Below.refl _ _).alloc (Nat.le_refl _) _) hb2 (Nat.le_refl _)) hB3 (by have := hb2.size; simp at this; omega)) h34 (by have := hb2.size; have := hB3.size; simp at *; omega)
       have own4 := (hown2.below hB3 (Nat.le_refl _)).below h34 (Nat.le_refl _)
       go_ret3
       exact (OpenEnd.yes hBel own4))
    | (have hBel : Below w.heap.size w w4 := below_then (below_then ((Below.refl _ _).alloc (Nat.le_refl _) _) hB3 (by simp)) h34 (by have := hB3.size; simp at *; omega)
       go_ret3
       exact (OpenEnd.yes0 hBel Hlo.out))
    | (have hBel : Below w.heap.size w w4 := below_then (below_then (below_then' ((Below.refl _ _).alloc (Nat.le_refl _) _) hb2 (Nat.le_refl _)) hB3 (by have := hb2.size; simp at this; omega)) h34 (by have := hb2.size; have := hB3.size; simp at *; omega)
       go_ret3
       exact (OpenEnd.no hBel))
    | (have hBel : Below w.heap.size w w4 := below_then (below_then ((Below.refl _ _).alloc (Nat.le_refl _) _) hB3 (by simp)) h34 (by have := hB3.size; simp at *; omega)
       go_ret3
       exact (OpenEnd.no hBel))

theorem open_any (l : List UInt8) (kind : Int) (w : World) (hl : l.length = 128) :
    Calls Try.prog 86 #[aggB l, .int .i64 kind] w (OpenEnd (byteAt l 9) (openLoad l) (opens l kind) (sg (openNum l)) w) := by
  by_cases hbad : OpenBad l kind
  · have hf : opens l kind = false := by
      cases ho : opens l kind with
      | false => rfl
      | true =>
        have h1 := opens_kind ho
        have h2 := opens_parts ho
        unfold OpenBad at hbad
        omega
    rw [hf]
    exact (open_bad l kind w hl hbad).mono fun e w' ⟨he, hb⟩ => .inl ⟨rfl, he, hb⟩
  · have h127 : byteAt l 127 = 215 := by unfold OpenBad at hbad; omega
    have h0 : (byteAt l 0 : Int) = kind := by unfold OpenBad at hbad; omega
    have h9 : byteAt l 9 ≤ 113 := by unfold OpenBad at hbad; omega
    have hk := byteAt_lt l 0
    have hN := openNum_lt l
    have hlo := openLoad_len hl h9
    by_cases hok : 1 ≤ kind ∧ openNum l < 9223372036854775808
    · have hsg : sg (openNum l) = (openNum l : Int) := by unfold sg; rw [if_pos hok.2]
      have hun : un (sg (openNum l)) = openNum l := un_sg hN
      have hq : opens l kind = decide (sealL kind.toNat (openNum l) (openLoad l) = l) := by
        have e1 : kind ≤ 255 := by omega
        simp [opens, hok.1, e1, hok.2, h9]
      refine open_main l (sealL kind.toNat (openNum l) (openLoad l)) kind 0 w _ hl h127 h0 h9 (sealL_len _ _ _ (by omega)) (.inr ⟨rfl, hq⟩) (fun A c w hr => ?_)
      have := make_ok kind (sg (openNum l)) A (byteAt l 9) c (openLoad l) w hok.1 (by omega) (by omega) h9 hr
      rwa [hun] at this
    · have hq : opens l kind = false := by
        cases ho : opens l kind with
        | false => rfl
        | true =>
          have h2 := opens_parts ho
          omega
      refine open_main l zerosL kind 2 w _ hl h127 h0 h9 zerosL_len (.inl ⟨rfl, hq⟩) (fun A c w hr => ?_)
      refine make_arg kind _ A _ c w ?_
      have : 1 ≤ kind → sg (openNum l) < 0 := fun h => by
        have : ¬ openNum l < 9223372036854775808 := fun h2 => hok ⟨h, h2⟩
        unfold sg; rw [if_neg this]; omega
      omega
end Go.Proofs.Ytninidpbchcliaa
