/- CrcTells: two texts that differ within four bytes side by side alone have unlike sums. -/
import Derived.Test.YtaokboendpkjfaaCrcLawA
import Derived.Test.YtaokboendpkjfaaFrame
import Derived.Test.YtaokboendpkjfaaPlainCrc
import Derived.Test.YtaokboendpkjfaaSame
import Derived.Test.YtaokboendpkjfaaRegion
namespace Go.Proofs.Ytaokboendpkjfaa.crcTells
open Go.ChangeShapes Go.WideShapes Go.ChangeAt Go.RowKit
set_option linter.unusedVariables false

theorem walk_out (A0 : Option Addr) (n0 c0 : Nat) (at_ b0 b1 b2 b3 : Int) (w : World) (h : 300 < n0 ∨ n0 < 4) (hm : n0 ≤ maxLen) :
    Calls Try.prog 5 #[.slice A0 n0 c0, .int .u16 at_, .agg #[.int .u8 b0, .int .u8 b1, .int .u8 b2, .int .u8 b3]] w fun e w' => e = .returned (.bool true) ∧ Below w.heap.size w w' := by
  unfold maxLen at hm
  by_cases h2 : 300 < n0
  all_goals
    go_enter Try.func5, Try.ntmps5
    go_wp2_with ((go_at_call 15; (with_reducible refine (awake2 _).mono ?_); rintro e w1 ⟨rfl, hb⟩); replace hb := below_then' (a := w) (B := w.heap.size) (by (repeat' (first | (with_reducible exact Below.refl _ _) | (with_reducible assumption) | (with_reducible refine Below.drew ?_) | (with_reducible refine below_drewN ?_ _) | (with_reducible refine Below.alloc ?_ ?_ _) | (with_reducible refine Below.setCell ?_ ?_ _) | omega | (simp; done) | (simp; omega)))) hb (by first | omega | (simp; done) | (simp; omega)); have hbs := hb.size)
    go_ret
    exact ⟨rfl, (by (repeat' (first | (with_reducible exact Below.refl _ _) | (with_reducible assumption) | (with_reducible refine Below.drew ?_) | (with_reducible refine below_drewN ?_ _) | (with_reducible refine Below.alloc ?_ ?_ _) | (with_reducible refine Below.setCell ?_ ?_ _) | omega | (simp; done) | (simp; omega))))⟩

/-- The text with k of its bytes, from p on, turned by b. -/
def turned (l : List UInt8) (p : Nat) (b : Nat → UInt8) : Nat → List UInt8
  | 0 => l
  | k + 1 => (turned l p b k).set (p + k) (l.getD (p + k) 0 ^^^ b k)

theorem turned_len (l : List UInt8) (p : Nat) (b : Nat → UInt8) (k : Nat) : (turned l p b k).length = l.length := by
  induction k with
  | zero => rfl
  | succ k ih => simp [turned, ih]
theorem turned_far (l : List UInt8) (p : Nat) (b : Nat → UInt8) (k i : Nat) (h : p + k ≤ i) : (turned l p b k).getD i 0 = l.getD i 0 := by
  induction k with
  | zero => rfl
  | succ k ih =>
    rw [← ih (by omega)]
    simp only [turned, List.getD_eq_getElem?_getD]
    rw [List.getElem?_set_ne (by omega)]

theorem step_inj {c d b : Nat} (hc : c < 4294967296) (hd : d < 4294967296) (h : crcStep c b = crcStep d b) : c = d := by
  have h1 := crcStep_xor c d b b
  rw [h, Nat.xor_self, Nat.xor_self] at h1
  have h2 : crcStep (c ^^^ d) 0 = crcBits 8 (c ^^^ d) := by unfold crcStep; rw [Nat.xor_zero]
  rw [h2] at h1
  have h3 := crcBits_zero 8 (u32_lt_xor hc hd) h1
  have h4 : c ^^^ d ^^^ d = d := by rw [h3, Nat.zero_xor]
  rwa [Nat.xor_assoc, Nat.xor_self, Nat.xor_zero] at h4
theorem fold_inj (l : List UInt8) : ∀ {c d : Nat}, c < 4294967296 → d < 4294967296 → crcFold c l = crcFold d l → c = d := by
  induction l with
  | nil => intro c d _ _ h; exact h
  | cons x l ih => intro c d hc hd h; exact step_inj hc hd (ih (crcStep_lt hc x.toNat_lt) (crcStep_lt hd x.toNat_lt) h)

theorem four_zero {x0 x1 x2 x3 : Nat} (h0 : x0 < 256) (h1 : x1 < 256) (h2 : x2 < 256) (h3 : x3 < 256) (h : crcStep (crcStep (crcStep (crcStep 0 x0) x1) x2) x3 = 0) : x0 = 0 ∧ x1 = 0 ∧ x2 = 0 ∧ x3 = 0 := by
  rw [four] at h
  have hlt : x0 ^^^ x1 * 2 ^ 8 ^^^ x2 * 2 ^ 16 ^^^ x3 * 2 ^ 24 < 4294967296 := u32_lt_xor (u32_lt_xor (u32_lt_xor (by omega) (by omega)) (by omega)) (by omega)
  have hz := crcBits_zero 32 hlt h
  have e : ∀ a b k, a < 2 ^ k → a ^^^ b * 2 ^ k = a + b * 2 ^ k := fun a b k ha => by
    have := Nat.two_pow_add_eq_or_of_lt (i := k) ha b
    rw [Nat.mul_comm b, Nat.add_comm, this]
    apply Nat.eq_of_testBit_eq
    intro i
    rw [Nat.testBit_xor, Nat.testBit_or, Nat.testBit_two_pow_mul]
    rcases Nat.lt_or_ge i k with hi | hi
    · simp [Nat.not_le.2 hi]
    · have : a.testBit i = false := Nat.testBit_lt_two_pow (Nat.lt_of_lt_of_le ha (Nat.pow_le_pow_right (by omega) hi))
      simp [this]
  rw [e x0 x1 8 (by omega), e (x0 + x1 * 2 ^ 8) x2 16 (by omega), e (x0 + x1 * 2 ^ 8 + x2 * 2 ^ 16) x3 24 (by omega)] at hz
  omega

theorem tells (pre post : List UInt8) (y0 y1 y2 y3 z0 z1 z2 z3 : UInt8) (h : crcSum [pre ++ [y0, y1, y2, y3] ++ post] = crcSum [pre ++ [z0, z1, z2, z3] ++ post]) : y0 = z0 ∧ y1 = z1 ∧ y2 = z2 ∧ y3 = z3 := by
  have hlt := crcFold_lt pre (c := 4294967295) (by omega)
  simp only [crcSum_one, crcFold_append] at h
  generalize hs : crcFold 4294967295 pre = s at h hlt
  have l1 : ∀ a b c d : UInt8, crcFold s [a, b, c, d] < 4294967296 := fun a b c d => crcFold_lt _ hlt
  have h1 : crcFold (crcFold s [y0, y1, y2, y3]) post = crcFold (crcFold s [z0, z1, z2, z3]) post := by
    have := congrArg (4294967295 ^^^ ·) h
    simpa only [← Nat.xor_assoc, Nat.xor_self, Nat.zero_xor] using this
  have h2 := fold_inj post (l1 _ _ _ _) (l1 _ _ _ _) h1
  have h3 : crcStep (crcStep (crcStep (crcStep 0 (y0.toNat ^^^ z0.toNat)) (y1.toNat ^^^ z1.toNat)) (y2.toNat ^^^ z2.toNat)) (y3.toNat ^^^ z3.toNat) = 0 := by
    have e0 : (0 : Nat) = s ^^^ s := (Nat.xor_self s).symm
    rw [e0, crcStep_xor, crcStep_xor, crcStep_xor, crcStep_xor]
    have h2' : crcStep (crcStep (crcStep (crcStep s y0.toNat) y1.toNat) y2.toNat) y3.toNat = crcStep (crcStep (crcStep (crcStep s z0.toNat) z1.toNat) z2.toNat) z3.toNat := h2
    rw [h2', Nat.xor_self, Nat.xor_self]
  have lx : ∀ a b : UInt8, a.toNat ^^^ b.toNat < 256 := fun a b => Nat.xor_lt_two_pow (n := 8) a.toNat_lt b.toNat_lt
  have ez : ∀ a b : UInt8, a.toNat ^^^ b.toNat = 0 → a = b := fun a b hab => by
    apply UInt8.toNat_inj.1
    have h4 : a.toNat ^^^ b.toNat ^^^ b.toNat = b.toNat := by rw [hab, Nat.zero_xor]
    rwa [Nat.xor_assoc, Nat.xor_self, Nat.xor_zero] at h4
  obtain ⟨a0, a1, a2, a3⟩ := four_zero (lx _ _) (lx _ _) (lx _ _) (lx _ _) h3
  exact ⟨ez _ _ a0, ez _ _ a1, ez _ _ a2, ez _ _ a3⟩

theorem turned_split (l : List UInt8) (p : Nat) (b : Nat → UInt8) (h : p + 4 ≤ l.length) :
    ∃ pre post y0 y1 y2 y3, l = pre ++ [y0, y1, y2, y3] ++ post ∧ turned l p b 4 = pre ++ [y0 ^^^ b 0, y1 ^^^ b 1, y2 ^^^ b 2, y3 ^^^ b 3] ++ post := by
  have e : l = l.take p ++ [l.getD p 0, l.getD (p + 1) 0, l.getD (p + 2) 0, l.getD (p + 3) 0] ++ l.drop (p + 4) := by
    have d : ∀ k, k < l.length → l.drop k = l.getD k 0 :: l.drop (k + 1) := fun k hk => by rw [List.drop_eq_getElem_cons hk, List.getD_eq_getElem?_getD]; simp [hk]
    conv => lhs; rw [← List.take_append_drop p l, d p (by omega), d (p + 1) (by omega), d (p + 2) (by omega), d (p + 3) (by omega)]
    simp
  refine ⟨_, _, _, _, _, _, e, ?_⟩
  apply List.ext_getElem?
  intro i
  have hlp : (l.take p).length = p := by rw [List.length_take]; omega
  simp only [turned, Nat.add_zero]
  rcases (by omega : i < p ∨ i = p ∨ i = p + 1 ∨ i = p + 2 ∨ i = p + 3 ∨ p + 4 ≤ i) with hi | rfl | rfl | rfl | rfl | hi
  · rw [List.getElem?_set_ne (by omega), List.getElem?_set_ne (by omega), List.getElem?_set_ne (by omega), List.getElem?_set_ne (by omega), List.append_assoc, List.getElem?_append_left (by omega)]
    simp [hi]
  · rw [List.getElem?_set_ne (by omega), List.getElem?_set_ne (by omega), List.getElem?_set_ne (by omega), List.append_assoc, List.getElem?_append_right (by omega), hlp]
    rw [List.getElem?_set_self (by omega)]; simp
  · rw [List.getElem?_set_ne (by omega), List.getElem?_set_ne (by omega), List.append_assoc, List.getElem?_append_right (by omega), hlp]
    rw [List.getElem?_set_self (by simp; omega)]
    rw [show p + 1 - p = 1 from by omega]; simp
  · rw [List.getElem?_set_ne (by omega), List.append_assoc, List.getElem?_append_right (by omega), hlp]
    rw [List.getElem?_set_self (by simp; omega)]
    rw [show p + 2 - p = 2 from by omega]; simp
  · rw [List.append_assoc, List.getElem?_append_right (by omega), hlp]
    rw [List.getElem?_set_self (by simp; omega)]
    rw [show p + 3 - p = 3 from by omega]; simp
  · rw [List.getElem?_set_ne (by omega), List.getElem?_set_ne (by omega), List.getElem?_set_ne (by omega), List.getElem?_set_ne (by omega), List.getElem?_append_right (by simp; omega)]
    rw [List.getElem?_drop]
    congr 1
    simp; omega

theorem turned_told (l : List UInt8) (p : Nat) (b : Nat → UInt8) (h : p + 4 ≤ l.length) : decide (crcSum [l] = crcSum [turned l p b 4]) = decide (l = turned l p b 4) := by
  rw [decide_eq_decide]
  constructor
  · obtain ⟨pre, post, y0, y1, y2, y3, e1, e2⟩ := turned_split l p b h
    rw [e2]
    intro hs
    rw [e1] at hs
    obtain ⟨a0, a1, a2, a3⟩ := tells _ _ _ _ _ _ _ _ _ _ hs
    rw [e1, ← a0, ← a1, ← a2, ← a3]
  · intro hl
    rw [← hl]

theorem walk_mid (A0 : Option Addr) (n0 c0 at_ p : Nat) (l0 : List UInt8) (b : Nat → UInt8) (w : World) (h1 : n0 ≤ 300) (h2 : 4 ≤ n0) (ha : at_ ≤ 65535) (hr0 : RB w A0 n0 l0) (hp : Hid (at_ % (n0 - 3) = p))
    (he : Hid (decide (crcSum [l0] = crcSum [turned l0 p b 4]) = decide (l0 = turned l0 p b 4))) :
    Calls Try.prog 5 #[.slice A0 n0 c0, .int .u16 at_, .agg #[.int .u8 (b 0).toNat, .int .u8 (b 1).toNat, .int .u8 (b 2).toNat, .int .u8 (b 3).toNat]] w fun e w' => e = .returned (.bool true) ∧ Below w.heap.size w w' := by
  have hp1 : ((at_ : Int) % ((n0 : Int) - 3)) = (p : Int) := by rw [← hp.out, Int.natCast_emod, Int.natCast_sub (by omega)]; rfl
  have hp2 : p < n0 - 3 := by rw [← hp.out]; exact Nat.mod_lt _ (by omega)
  go_enter Try.func5, Try.ntmps5
  go_wp2_with fail
  have hb0 : Below w.heap.size w (w.alloc (Obj.cells #[.int .u8 (b 0).toNat, .int .u8 (b 1).toNat, .int .u8 (b 2).toNat, .int .u8 (b 3).toNat] 31)) := (by (repeat' (first | (with_reducible exact Below.refl _ _) | (with_reducible assumption) | (with_reducible refine Below.drew ?_) | (with_reducible refine below_drewN ?_ _) | (with_reducible refine Below.alloc ?_ ?_ _) | (with_reducible refine Below.setCell ?_ ?_ _) | omega | (simp; done) | (simp; omega))))
  have hx := heap_top w (Obj.cells #[.int .u8 (b 0).toNat, .int .u8 (b 1).toNat, .int .u8 (b 2).toNat, .int .u8 (b 3).toNat] 31) rfl
  have hlt : w.heap.size < (w.alloc (Obj.cells #[.int .u8 (b 0).toNat, .int .u8 (b 1).toNat, .int .u8 (b 2).toNat, .int .u8 (b 3).toNat] 31)).heap.size := by simp
  generalize w.alloc (Obj.cells #[.int .u8 (b 0).toNat, .int .u8 (b 1).toNat, .int .u8 (b 2).toNat, .int .u8 (b 3).toNat] 31) = w0 at *
  have hr0 := hr0.below hb0 (Nat.le_refl _)
  generalize hg : w.heap.size = g at hx hlt ⊢
  have Hg := Lib.hid hg
  clear hg
  go_wp2_with (first
    | ((go_at_call 15; (with_reducible refine (awake2 _).mono ?_); rintro e w1 ⟨rfl, hb⟩); have hbs := hb.size)
    | (at_builtin; refine wpList_app rfl rfl elemU8 bv_one (s := .tmp 20) (N := n0) (L := l0) rfl (Ow.new _ _ #[] [] rfl (by decide)) rfl (B := A0) (hr0.below (B := w0.heap.size) (by (repeat' (first | (with_reducible exact Below.refl _ _) | (with_reducible assumption) | (with_reducible refine Below.drew ?_) | (with_reducible refine below_drewN ?_ _) | (with_reducible refine Below.alloc ?_ ?_ _) | (with_reducible refine Below.setCell ?_ ?_ _) | omega | (simp; done) | (simp; omega)))) (Nat.le_refl _)).rd (by simp) (by simp) (by unfold maxLen; omega) (by omega) (by simp) ?_; intro A2 c2 w2 hown2 hg2 hat2 hb2; replace hb2 := below_then' (a := w0) (B := w0.heap.size) (by (repeat' (first | (with_reducible exact Below.refl _ _) | (with_reducible assumption) | (with_reducible refine Below.drew ?_) | (with_reducible refine below_drewN ?_ _) | (with_reducible refine Below.alloc ?_ ?_ _) | (with_reducible refine Below.setCell ?_ ?_ _) | omega | (simp; done) | (simp; omega)))) hb2 (by first | omega | (simp; done) | (simp; omega)); have hb2s := hb2.size))
  have hown3 := hown2.rebase (base' := w0.heap.size) hbs
  obtain ⟨gg, rfl, hgb, _⟩ := hown3.addr (by omega)
  clear hb hg2 hat2 hown2 hbs
  go_loopw [29] (fun i wr => ∃ k, k ≤ 4 ∧ i = .int .i64 (k : Nat) ∧ Ow bv wr w0.heap.size 5 (some ⟨gg, 0, none⟩) n0 c2 (turned l0 p b k) ∧ Below w0.heap.size w0 wr) (fun i _ => 4 - (intOf i).toNat)
  case atStart => exact ⟨0, by omega, rfl, hown3, hb2⟩
  case round =>
    obtain ⟨k, hk, rfl, hown, hbr⟩ := hrel
    by_cases hk4 : k < 4
    · have hx2 := (hbr.block g hlt).trans hx
      have c1 : wr.cell? ⟨g, k, none⟩ = some (.int .u8 ((b k).toNat : Nat)) := by
        rw [cell_of_row wr g k _ _ _ hx2]
        rcases (by omega : k = 0 ∨ k = 1 ∨ k = 2 ∨ k = 3) with rfl | rfl | rfl | rfl <;> rfl
      have c0 : wr.cell? ⟨gg, p + k, none⟩ = some (.int .u8 ((l0.getD (p + k) 0).toNat : Nat)) := by
        obtain ⟨b1, o1, hA, _, hc⟩ := hown.rd.rb.at_ (k := p + k) (by omega)
        injection hA with hA
        injection hA with h1 h2 _
        subst h1 h2
        rw [Nat.zero_add] at hc
        rw [hc]; unfold byteAt; rw [turned_far _ _ _ _ _ (Nat.le_refl _)]
      have cf := hown.free (p + k)
      have hset := hown.set (p + k) (l0.getD (p + k) 0 ^^^ b k) (.int .u8 (((l0.getD (p + k) 0).toNat ^^^ (b k).toNat : Nat) : Int)) (by unfold bv; rw [UInt8.toNat_xor])
      have e1 := u8_xor (l0.getD (p + k) 0).toNat (b k).toNat (UInt8.toNat_lt _) (UInt8.toNat_lt _)
      have hpk : p + k < n0 := by omega
      have hpk' : (p : Int) + (k : Int) < (n0 : Int) := by omega
      have hnext : Hid ((turned l0 p b k).set (p + k) (l0.getD (p + k) 0 ^^^ b k) = turned l0 p b (k + 1)) := rfl
      generalize hy : l0.getD (p + k) 0 = y at *
      generalize hz : b k = z at *
      clear hy hz hx2
      go_wp2
      refine wp_region_quiet_tail 15 (by kernel_rfl) (by kernel_rfl) ?_
      simp only [List.take_succ_cons, List.take_zero, List.drop_succ_cons, List.drop_zero]
      repeat (go_big_quiet_step (fail))
      refine wpQuiet_nil ?_
      go_wp2
      go_roundw
      case rel =>
        refine ⟨k + 1, by omega, by go_num, ?_, (by (repeat' (first | (with_reducible exact Below.refl _ _) | (with_reducible assumption) | (with_reducible refine Below.drew ?_) | (with_reducible refine below_drewN ?_ _) | (with_reducible refine Below.alloc ?_ ?_ _) | (with_reducible refine Below.setCell ?_ ?_ _) | omega | (simp; done) | (simp; omega))))⟩
        rw [hnext.out] at hset
        exact hset
      case measure => simp [intOf]; omega
    · have hk5 : k = 4 := by omega
      subst hk5
      have hr3 := hown.rd.rb
      have hrs := hbr.size
      have hmx : n0 ≤ maxLen := by unfold maxLen; omega
      have hbws := hb0.size
      have hbw : Below w.heap.size w wr := below_then' hb0 hbr (by have := Hg.out; omega)
      have hd : ((((crcSum [l0] : Nat) : Int) == ((crcSum [turned l0 p b 4] : Nat) : Int)) == decide (l0 = turned l0 p b 4)) = true := by
        have := he.out
        rw [beq_iff_eq, ← this, Bool.eq_iff_iff, beq_iff_eq, decide_eq_true_eq]; omega
      generalize turned l0 p b 4 = l1 at *
      clear hp1 he hb2 hb0 hb2s
      go_wp2_with (first
        | (go_at_call 17; (with_reducible refine (sum_any _ _ _ [l0] _ (RBs.one (heap_top _ _ (by simp)) (hr0.below (B := w0.heap.size) (by (repeat' (first | (with_reducible exact Below.refl _ _) | (with_reducible assumption) | (with_reducible refine Below.drew ?_) | (with_reducible refine below_drewN ?_ _) | (with_reducible refine Below.alloc ?_ ?_ _) | (with_reducible refine Below.setCell ?_ ?_ _) | omega | (simp; done) | (simp; omega)))) (Nat.le_refl _)) hmx) (by decide)).mono ?_); rintro e w' ⟨rfl, rfl⟩)
        | (go_at_call 17; (with_reducible refine (sum_any _ _ _ [l1] _ (RBs.one (heap_top _ _ (by simp)) (hr3.below (B := wr.heap.size) (by (repeat' (first | (with_reducible exact Below.refl _ _) | (with_reducible assumption) | (with_reducible refine Below.drew ?_) | (with_reducible refine below_drewN ?_ _) | (with_reducible refine Below.alloc ?_ ?_ _) | (with_reducible refine Below.setCell ?_ ?_ _) | omega | (simp; done) | (simp; omega)))) (Nat.le_refl _)) hmx) (by decide)).mono ?_); rintro e w' ⟨rfl, rfl⟩)
        | (go_at_call 19; (with_reducible refine (same_any _ _ _ _ _ _ l0 l1 _ (hr0.below (B := w0.heap.size) (by (repeat' (first | (with_reducible exact Below.refl _ _) | (with_reducible assumption) | (with_reducible refine Below.drew ?_) | (with_reducible refine below_drewN ?_ _) | (with_reducible refine Below.alloc ?_ ?_ _) | (with_reducible refine Below.setCell ?_ ?_ _) | omega | (simp; done) | (simp; omega)))) (Nat.le_refl _)) (hr3.below (B := wr.heap.size) (by (repeat' (first | (with_reducible exact Below.refl _ _) | (with_reducible assumption) | (with_reducible refine Below.drew ?_) | (with_reducible refine below_drewN ?_ _) | (with_reducible refine Below.alloc ?_ ?_ _) | (with_reducible refine Below.setCell ?_ ?_ _) | omega | (simp; done) | (simp; omega)))) (Nat.le_refl _)) hmx).mono ?_); rintro e w' ⟨rfl, q, rfl⟩))
      go_ret
      exact ⟨rfl, (by (repeat' (first | (with_reducible exact Below.refl _ _) | (with_reducible assumption) | (with_reducible refine Below.drew ?_) | (with_reducible refine below_drewN ?_ _) | (with_reducible refine Below.alloc ?_ ?_ _) | (with_reducible refine Below.setCell ?_ ?_ _) | omega | (simp; done) | (simp; omega))))⟩

theorem walk (w : World) (A0 : Option Addr) (n0 c0 : Nat) (l0 : List UInt8) (r0 : RB w A0 n0 l0) (nc0 : n0 ≤ c0) (cm0 : c0 ≤ maxLen) (at_ : Int) (wf1 : (Lit.int .u16 at_).wf = true) (v : Value) (hv : ∃ l : List UInt8, v = .agg (l.map bv).toArray ∧ l.length = 4) :
    Calls Try.prog 5 #[.slice A0 n0 c0, .int .u16 at_, v] w fun e w' => e = .returned (.bool true) ∧ Below w.heap.size w w' := by
  obtain ⟨l, rfl, hl⟩ := hv
  match l, hl with
  | [b0, b1, b2, b3], _ =>
    by_cases h : 300 < n0 ∨ n0 < 4
    · exact walk_out A0 n0 c0 _ _ _ _ _ w h (by omega)
    · have hat := bounds_u16 wf1
      obtain ⟨m, rfl⟩ := Int.eq_ofNat_of_zero_le hat.1
      have hp : m % (n0 - 3) < n0 - 3 := Nat.mod_lt _ (by omega)
      exact walk_mid A0 n0 c0 m (m % (n0 - 3)) l0 (fun i => [b0, b1, b2, b3].getD i 0) w (by omega) (by omega) (by omega) r0 rfl (turned_told l0 _ _ (by rw [r0.1]; omega))

--FRAME tompionlaw02 CrcTells crcTells walk bytes u16 raw:[4]uint8:(args_byteArray‹_›Try.underlying31‹_›Try.underlying5‹_›(by‹_›kernel_rfl)‹_›(by‹_›kernel_rfl)):.agg‹_›#[.int‹_›.u8‹_›0,.int‹_›.u8‹_›0,.int‹_›.u8‹_›0,.int‹_›.u8‹_›0]
theorem own : ownKnob Try.prog.godebug = none := by kernel_rfl
theorem laidOut : laidOutB Try.prog = true := by kernel_rfl

set_option maxRecDepth 100000 in
theorem lifted (os : Os) (started : os.Started) (H : Type) (enc : TypeId × Value → H) :
    ReturnsInHanded {} Try.checked os 5 .any (Rows.crcTellsSpec.pre6 enc Try.prog Try.f5 Rows.crcTellsRow.domain false) (Rows.crcTellsSpec.post enc Try.prog Try.f5 false true false false) := by
  refine returnsInHanded_of_change (C := Try.checked) own started (by kernel_rfl) Try.func5
    (ChangeSpec.witness6 (enc := enc) (C := Try.checked) false ⟨#[], #[.slice none 0 0, .int .u16 0, .agg #[.int .u8 0,.int .u8 0,.int .u8 0,.int .u8 0]], []⟩ 8 (by kernel_rfl) (by kernel_rfl) (by kernel_rfl) (by kernel_rfl)) ?_
  intro W base args ds gs before hval0 hW hcnd _
  have hval : ∀ (j : Nat) t v, Try.f5.params[j]? = some t → args[j]? = some v → Value.okWide Try.prog W .any base t v := hval0
  have hW' := hW
  obtain ⟨p, q, hA0, hV, rfl, hfz, hnd⟩ := hW
  have hA : DataW.TrodAll enc Try.prog W 0 (fun _ => true) true Try.f5.params.toList args.toList ds p := hA0
  rw [Try.params5] at hA hval
  obtain ⟨v0, vs0, d0, ds0, p0, q0, hargs, rfl, rfl, h0, rr0⟩ := trodAll_cons hA
  obtain ⟨v1, vs1, d1, ds1, p1, q1, rfl, rfl, rfl, h1, rr1⟩ := trodAll_cons rr0
  obtain ⟨v2, vs2, d2, ds2, p2, q2, rfl, rfl, rfl, h2, rr2⟩ := trodAll_cons rr1
  obtain ⟨rfl, rfl, rfl⟩ := trodAll_nil rr2
  obtain rfl : args = #[v0, v1, v2] := by cases args; simp_all
  obtain ⟨rfl, rfl⟩ := trodVars_none hV
  have k0 := h0
  have lt0 : ∀ x ∈ p0, x.block < W.heap.size := by obtain ⟨m, hm⟩ := k0; exact DataW.trod_lt m _ _ _ hm
  obtain ⟨A0, n0, c0, l0, rfl, r0, nc0, cm0⟩ := args_bytes Try.underlying22 Try.underlying5 (by kernel_rfl) (hval 0 22 v0 rfl rfl) h0
  have k1 := h1
  have lt1 : ∀ x ∈ p1, x.block < W.heap.size := by obtain ⟨m, hm⟩ := k1; exact DataW.trod_lt m _ _ _ hm
  obtain ⟨a1, rfl, wf1⟩ := args_int Try.underlying30 (hval 1 30 v1 rfl rfl) h1
  have k2 := h2
  have lt2 : ∀ x ∈ p2, x.block < W.heap.size := by obtain ⟨m, hm⟩ := k2; exact DataW.trod_lt m _ _ _ hm
  have x2 := (args_byteArray Try.underlying31 Try.underlying5 (by kernel_rfl) (by kernel_rfl)) (hval 2 31 v2 rfl rfl) h2
  clear hA0 hval0
  refine (walk W A0 n0 c0 l0 r0 nc0 cm0 a1 wf1 v2 x2).mono fun e W' ⟨he, bel⟩ => ?_
  subst he
  exact ⟨_, rfl, _, _, _, [], _, [], hW', trodAll_mk1 (shut_bool Try.underlying4 _), (trodAll_cons_mk (Below.trod laidOut (by kernel_rfl) (of_decide_eq_true (by kernel_rfl)) k0 bel lt0) (trodAll_cons_mk (Below.trod laidOut (by kernel_rfl) (of_decide_eq_true (by kernel_rfl)) k1 bel lt1) (trodAll_cons_mk (Below.trod laidOut (by kernel_rfl) (of_decide_eq_true (by kernel_rfl)) k2 bel lt2) trodAll_mk0))), rfl, bel.frame _, fun h => by cases h⟩

theorem over : Rows.crcTellsRow.holds Try.pinned (OpenSpec.ofChange Rows.crcTellsSpec) :=
  OpenClaim.holds_of_wide 5 Try.f5 rfl rfl rfl rfl rfl rfl rfl ⟨rfl, rfl, rfl, rfl, rfl⟩ rfl rfl rfl rfl rfl (by kernel_rfl) Try.func5 (by kernel_rfl)
    (of_decide_eq_true (by kernel_rfl)) (by unfold Func.isWrapper; first | (rw [if_pos (by decide +kernel)]; kernel_rfl) | (rw [if_neg (by decide +kernel)]; exact ⟨rfl, rfl⟩))
    (fun os started H enc _ => lifted os started H enc)

theorem proved : Rows.CrcTellsSaid := over
--ENDFRAME
end Go.Proofs.Ytaokboendpkjfaa.crcTells
