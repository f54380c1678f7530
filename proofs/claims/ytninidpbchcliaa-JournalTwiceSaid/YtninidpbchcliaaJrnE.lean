/- The journal's laws: lists of slices of bytes; begins, loads. -/
import Derived.Test.YtninidpbchcliaaJrnD
namespace Go.Proofs.Ytninidpbchcliaa
open Go.RowKit
set_option linter.unusedVariables false
set_option linter.unusedSimpArgs false
structure SlV where
  a : Option Addr
  n : Nat
  c : Nat
def slV (h : SlV) : Value := .slice h.a h.n h.c
theorem slV_one (h : SlV) : (slV h).oneCell' = true := rfl
theorem elemHdr : ElemOf Try.prog 61 23 (.slice none 0 0) 1 24 := ElemOf.mk' Try.underlying61 (by kernel_rfl) rfl (by decide)
theorem hdr_rd (w : World) (h : SlV) : Rd slV (w.alloc (.cells #[.slice h.a h.n h.c] 23)) (some ⟨w.heap.size, 0, none⟩) 1 [h] := Rd.of_block (l := [h]) (heap_top _ _ rfl) rfl
/-- A slice of slices of bytes that reads as a list of lists. -/
def LsRd (w : World) (B : Option Addr) (N : Nat) (Ls : List (List UInt8)) : Prop := Ls.length = N ∧ ∃ hs : List SlV, Rd slV w B N hs ∧ ∀ (k : Nat) (h : SlV) (L : List UInt8), hs[k]? = some h → Ls[k]? = some L → RB w h.a h.n L ∧ h.n ≤ maxLen
def LsOw (w : World) (b : Nat) (B : Option Addr) (N c : Nat) (Ls : List (List UInt8)) : Prop := Ls.length = N ∧ ∃ hs : List SlV, Ow slV w b 23 B N c hs ∧ ∀ (k : Nat) (h : SlV) (L : List UInt8), hs[k]? = some h → Ls[k]? = some L → ∃ b', OB w b' 5 h.a h.n h.c L
section
variable {w w' : World} {b N c n : Nat} {B : Option Addr} {Ls : List (List UInt8)}
theorem LsOw.rd (h : LsOw w b B N c Ls) : LsRd w B N Ls := by
  obtain ⟨hl, hs, ho, hk⟩ := h
  refine ⟨hl, hs, ho.rd, fun k x L h1 h2 => ?_⟩
  obtain ⟨b', hb⟩ := hk k x L h1 h2
  have := hb.cap
  exact ⟨hb.rd.rb, by omega⟩
theorem LsRd.below {B0 : Nat} (h : LsRd w B N Ls) (hb : Below B0 w w') (hB : w.heap.size ≤ B0) : LsRd w' B N Ls := by
  obtain ⟨hl, hs, ho, hk⟩ := h
  exact ⟨hl, hs, ho.below hb hB, fun k x L h1 h2 => ⟨(hk k x L h1 h2).1.below hb hB, (hk k x L h1 h2).2⟩⟩
theorem LsOw.below (h : LsOw w b B N c Ls) (hb : Below w.heap.size w w') : LsOw w' b B N c Ls := by
  obtain ⟨hl, hs, ho, hk⟩ := h
  exact ⟨hl, hs, ho.below hb (Nat.le_refl _), fun k x L h1 h2 => by obtain ⟨b', q⟩ := hk k x L h1 h2; exact ⟨b', q.below hb (Nat.le_refl _)⟩⟩
theorem LsOw.touch {M : List TypeId} {base : Nat} {p : DiskP} {D : DiskV} (h : LsOw w b B N c Ls) (hd : DiskS w base p D) (k : Touch M p w w') (h1 : 23 ∉ 4 :: M) (h2 : 5 ∉ 4 :: M) : LsOw w' b B N c Ls := by
  obtain ⟨hl, hs, ho, hk⟩ := h
  exact ⟨hl, hs, hd.ow ho k h1, fun k' x L q1 q2 => by obtain ⟨b', q⟩ := hk k' x L q1 q2; exact ⟨b', hd.ow q k h2⟩⟩
theorem LsOw.rebase {b0 : Nat} (h : LsOw w b B N c Ls) (hb : b0 ≤ b) : LsOw w b0 B N c Ls := by
  obtain ⟨hl, hs, ho, hk⟩ := h
  exact ⟨hl, hs, ho.rebase hb, hk⟩
theorem LsOw.nil (w : World) (b : Nat) : LsOw w b none 0 0 [] := ⟨rfl, [], Ow.nil _ _ _ _, fun k h L h1 => by simp at h1⟩
/-- An own row is as it was where another own row, of another kind, has grown. -/
theorem Ow.grownOw {α β : Type} {enc : α → Value} {enc' : β → Value} {b' n c' : Nat} {e e' : TypeId} {B' : Option Addr} {l : List α} {l' : List β} (ho : Ow enc w b' e B' n c' l) {bb m cc : Nat} {C : Option Addr} (hB : Ow enc' w bb e' C m cc l') (hg : w.grownBy w' (C.map (·.block))) (hne : e ≠ e') : Ow enc w' b' e B' n c' l := by
  refine ⟨ho.1, own_keep (F := fun g => C.map (·.block) = some g) ho.2 (Keep.of_grown hg (fun g e => e)) (fun g hg' he => ?_)⟩
  rcases hB.2.2 with ⟨hv, _⟩ | ⟨g', cap, cur, hv, _, hh, _⟩
  · injection hv with hv; subst hv; cases he
  · injection hv with hv
    subst hv
    simp only [Option.map_some, Option.some.injEq] at he
    subst he
    exact own_ne ho.2 (g := g') (t := e') (cs := cur.toList) (by unfold Blk; rw [hh]) hne hg'
end
/-- Does a list begin with another? -/
def begB (l a : List (List UInt8)) : Bool := decide (a.take l.length = l)
theorem begB_long {l a : List (List UInt8)} (h : a.length < l.length) : begB l a = false := by
  unfold begB
  rw [decide_eq_false_iff_not]
  intro e
  have := congrArg List.length e
  rw [List.length_take] at this
  omega
theorem begB_self (l : List (List UInt8)) : begB l l = true := by unfold begB; rw [List.take_length]; exact decide_eq_true rfl
set_option maxRecDepth 100000 in
set_option maxHeartbeats 4000000 in
theorem begins_any (B C : Option Addr) (n m c d : Nat) (l a : List (List UInt8)) (w : World) (hl : LsRd w B n l) (ha : LsRd w C m a) (hn : n ≤ maxLen) (hm : m ≤ maxLen) :
    Calls Try.prog 55 #[.slice B n c, .slice C m d] w fun e w' => e = .returned (.bool (begB l a)) ∧ Below w.heap.size w w' := by
  have hln := hl.1
  have han := ha.1
  unfold maxLen at hn hm
  by_cases hlong : m < n
  · have hb : Hid (begB l a = false) := begB_long (by omega)
    clear hl ha
    go_enter Try.func55, Try.ntmps55
    go_wp2
    go_ret
    exact ⟨ret_bool hb.out.symm, Below.refl _ _⟩
  · go_enter Try.func55, Try.ntmps55
    go_wp2
    go_loopw [5, 13] (fun _ i wr => ∃ k : Nat, k ≤ n ∧ i = .int .i64 (k : Nat) ∧ a.take k = l.take k ∧ Below w.heap.size w wr) (fun _ i _ => n - (intOf i).toNat)
    case atStart => exact ⟨0, by omega, rfl, rfl, Below.refl _ _⟩
    case round =>
      obtain ⟨k, hk, rfl, htk, hbel⟩ := hrel
      by_cases hlt : k < n
      · obtain ⟨_, hs, hrd, hcell⟩ := hl.below hbel (Nat.le_refl _)
        obtain ⟨_, ks, krd, kcell⟩ := ha.below hbel (Nat.le_refl _)
        have hsl : k < hs.length := by rw [hrd.1]; exact hlt
        have ksl : k < ks.length := by rw [krd.1]; omega
        have hll : k < l.length := by omega
        have hal : k < a.length := by omega
        obtain ⟨r1, x1⟩ := hcell k _ _ (List.getElem?_eq_getElem hsl) (List.getElem?_eq_getElem hll)
        obtain ⟨r2, x2⟩ := kcell k _ _ (List.getElem?_eq_getElem ksl) (List.getElem?_eq_getElem hal)
        obtain ⟨b1, o1, hB1, hb1, c1⟩ := hrd.2.at_ hlt
        obtain ⟨b2, o2, hB2, hb2, c2⟩ := krd.2.at_ (show k < m by omega)
        rw [getD_map hs k hsl] at c1
        rw [getD_map ks k ksl] at c2
        have e1 : Hid (l.take (k + 1) = l.take k ++ [l[k]]) := List.take_succ_eq_append_getElem hll
        have e2 : Hid (a.take (k + 1) = a.take k ++ [a[k]]) := List.take_succ_eq_append_getElem hal
        have e3 : Hid (l[k]? = some l[k]) := List.getElem?_eq_getElem hll
        have e4 : Hid (a[k]? = some a[k]) := List.getElem?_eq_getElem hal
        generalize hs[k] = h1 at *
        generalize ks[k] = h2 at *
        generalize l[k] = L1 at *
        generalize a[k] = L2 at *
        obtain ⟨A1, n1, d1⟩ := h1
        obtain ⟨A2, n2, d2⟩ := h2
        simp only [slV] at c1 c2 r1 x1 r2 x2
        have hsame := same_any A1 A2 n1 n2 d1 d2 L1 L2 wr.drew r1 r2 x1
        have HT := Lib.hid htk
        have hkm : (k : Int) < m := by omega
        have HL := Lib.hid hlt
        clear hcell kcell hrd krd htk
        subst hB1 hB2
        by_cases hee : L1 = L2
        · have hbn : decide (L1 = L2) = true := decide_eq_true hee
          rw [hbn] at hsame
          go_wp2
          go_region_held3 (fun w' => w'.cell? ⟨b1, o1 + k, none⟩ = some (.slice A1 n1 d1) ∧ w'.cell? ⟨b2, o2 + k, none⟩ = some (.slice A2 n2 d2)) (first | go_keep | (refine ⟨?_, ?_⟩ <;> assumption)) (first
            | (go_at_call 24; (with_reducible refine (hsame).mono ?_); rintro e w2 ⟨rfl, q2, rfl⟩)
            | fail "no arm")
          have hnx : Hid (a.take (k + 1) = l.take (k + 1)) := by show _ = _; rw [e1.out, e2.out, HT.out, hee]
          clear hee
          go_wp2
          go_roundw
          case rel => first
            | exact ⟨k + 1, by omega, by go_num, hnx.out, below_drewN hbel _⟩
            | ((repeat apply Exists.intro); exact ⟨⟨k + 1, by omega, by go_num, hnx.out, below_drewN hbel _⟩, rfl⟩)
          case measure => simp [intOf]; omega
        · have hbn : decide (L1 = L2) = false := decide_eq_false hee
          have hno : Hid (begB l a = false) := by
            show begB l a = false
            unfold begB
            rw [decide_eq_false_iff_not]
            intro e
            have h0 : (a.take l.length)[k]? = l[k]? := by rw [e]
            rw [List.getElem?_take, if_pos (by omega), e3.out, e4.out] at h0
            injection h0 with h0
            exact hee h0.symm
          rw [hbn] at hsame
          clear hee
          go_wp2
          go_region_held3 (fun w' => w'.cell? ⟨b1, o1 + k, none⟩ = some (.slice A1 n1 d1) ∧ w'.cell? ⟨b2, o2 + k, none⟩ = some (.slice A2 n2 d2)) (first | go_keep | (refine ⟨?_, ?_⟩ <;> assumption)) (first
            | (go_at_call 24; (with_reducible refine (hsame).mono ?_); rintro e w2 ⟨rfl, q2, rfl⟩)
            | fail "no arm")
          go_wp2
          go_ret
          exact ⟨ret_bool hno.out.symm, below_drewN hbel _⟩
      · have hk9 : k = n := by omega
        have hyes : Hid (begB l a = true) := by
          show begB l a = true
          unfold begB
          rw [decide_eq_true_iff, hln, ← hk9, htk, List.take_of_length_le (by omega)]
        subst hk9
        clear htk
        go_wp2
        go_ret
        exact ⟨ret_bool hyes.out.symm, hbel⟩
section
variable {w w' : World} {base ga gj f m next : Nat} {kind : Int} {p : DiskP} {D : DiskV}
set_option maxRecDepth 100000 in
set_option maxHeartbeats 4000000 in
theorem loads_any (hj : JrnAt w gj ga kind next) (hd : DiskS w base p D) (hs : base ≤ w.heap.size) (ha : AreaAt w ga p.d f m) (hfm : f + m ≤ D.many) (hnm : next ≤ 4096) (G : Nat → List UInt8)
    (hG : ∀ o k, k < next → (jGetV { D with ops := o } f m kind next (k : Int)).2 = (G k, 0) ∧ ∃ o', (jGetV { D with ops := o } f m kind next (k : Int)).1 = { D with ops := o' }) :
    Calls Try.prog 54 #[.pointer (some ⟨gj, 0, none⟩)] w fun e w' => ∃ B c, e = .returned (.tuple #[.slice B next c, .bool true]) ∧ LsOw w' w.heap.size B next c ((List.range next).map G) ∧ (∃ o, DiskS w' base p { D with ops := o }) ∧ Step mutD base p w w' := by
  have hlen := jlen_any hj
  have HJ := Lib.hid hj
  have HD := Lib.hid hd
  have HA := Lib.hid ha
  have HG := Lib.hid hG
  clear hj hd ha hG
  go_enter Try.func54, Try.ntmps54
  go_wp2_with (first
    | (go_at_call 56; (with_reducible refine (hlen).mono ?_); rintro e w1 ⟨rfl, rfl⟩)
    | fail "no arm")
  go_loopw [4, 5, 6, 7, 10] (fun v _ _ _ i wr => ∃ (k : Nat) (B : Option Addr) (c : Nat), k ≤ next ∧ i = .int .i64 (k : Nat) ∧ v = .slice B k c ∧ LsOw wr w.heap.size B k c ((List.range k).map G) ∧ (∃ o, DiskS wr base p { D with ops := o }) ∧ Step mutD base p w wr) (fun _ _ _ _ i _ => next - (intOf i).toNat)
  case atStart => exact ⟨0, none, 0, by omega, rfl, rfl, LsOw.nil _ _, ⟨D.ops, HD.out⟩, Step.refl _ _ _ _⟩
  case round =>
    obtain ⟨k, B, c, hk, rfl, rfl, hls, ⟨o, hdk⟩, hst⟩ := hrel
    by_cases hlt : k < next
    · have hsz := hst.size
      have hjk : JrnAt wr gj ga kind next := HD.out.blk HJ.out hst.tch (by decide)
      have hak := HD.out.area HA.out hst.tch (by decide)
      have hget := jget_any hjk hdk (by omega) hak hfm hnm (k : Int)
      obtain ⟨g1, o', g2⟩ := HG.out o k hlt
      rw [g1, g2] at hget
      simp only at hget
      have hrs : Hid ((List.range (k + 1)).map G = (List.range k).map G ++ [G k]) := by show _ = _; rw [List.range_succ, List.map_append]; rfl
      have HDk := Lib.hid hdk
      have HLS := Lib.hid hls
      have HST := Lib.hid hst
      clear hls hdk hst hjk hak
      go_wp2_with (first
        | ((go_at_call 91; (with_reducible refine (hget).mono ?_); rintro e w2 ⟨L, kk, dd, rfl, o2, h2, st2⟩); have H2 := Lib.hid h2; have O2 := Lib.hid o2; have LS2 := Lib.hid (HLS.out.touch HDk.out st2.tch (by decide) (by decide)); have ST2 := Lib.hid (HST.out.trans st2); have s2 := ST2.out.size; obtain ⟨hl2, hs2, ho2, hk2⟩ := LS2.out; clear h2 o2 st2)
        | (at_builtin; refine wpList_app rfl rfl elemHdr slV_one (s := .tmp 21) (N := k + 1) (L := hs2 ++ [⟨L, kk, dd⟩]) rfl (ho2.below (b := w2.heap.size) (by (repeat' (first | (with_reducible exact Below.refl _ _) | (with_reducible assumption) | (with_reducible refine Below.drew ?_) | (with_reducible refine below_drewN ?_ _) | (with_reducible refine Below.alloc ?_ ?_ _) | (with_reducible refine Below.setCell ?_ ?_ _) | omega | (simp; done) | (simp; omega)))) (by first | omega | (simp; done) | (simp; omega))) rfl (k := [⟨L, kk, dd⟩]) (hdr_rd w2 ⟨L, kk, dd⟩) rfl rfl (by unfold maxLen; omega) (by omega) (by first | omega | (simp; done) | (simp; omega)) ?_; intro A5 c5 w5 hown5 hg5 hat5 hb5)
        | fail "no arm")
      go_roundw
      case rel =>
        have bA : Below w2.heap.size w2 (w2.alloc (.cells #[.slice L kk dd] 23)) := (Below.refl _ _).alloc (Nat.le_refl _) _
        have hoA := ho2.below bA (Nat.le_refl _)
        have f1 : DiskS w5 base p { D with ops := o' } := (H2.out.below bA).grown hoA hg5 (by decide)
        have f2 : LsOw w5 w.heap.size A5 (k + 1) c5 ((List.range (k + 1)).map G) := by
          refine ⟨by simp, hs2 ++ [⟨L, kk, dd⟩], hown5, fun q x X q1 q2 => ?_⟩
          have hhl : hs2.length = k := ho2.1
          rw [hrs.out] at q2
          rcases Nat.lt_or_ge q k with hq | hq
          · rw [List.getElem?_append_left (by omega)] at q1
            rw [List.getElem?_append_left (by simp; exact hq)] at q2
            obtain ⟨b', ob⟩ := hk2 q x X q1 q2
            exact ⟨b', (ob.below bA (Nat.le_refl _)).grownOw hoA hg5 (by decide)⟩
          · have hq9 : q = k := by
              have : q < (hs2 ++ [(⟨L, kk, dd⟩ : SlV)]).length := (List.getElem?_eq_some_iff.1 q1).1
              rw [List.length_append, hhl, List.length_singleton] at this
              omega
            subst hq9
            rw [List.getElem?_append_right (by omega), hhl, Nat.sub_self] at q1
            rw [List.getElem?_append_right (by simp)] at q2
            simp only [List.getElem?_cons_zero, Option.some.injEq, List.length_map, List.length_range, Nat.sub_self] at q1 q2
            subst q1 q2
            exact ⟨_, (O2.out.below bA (Nat.le_refl _)).grownOw hoA hg5 (by decide)⟩
        have f3 : Step mutD base p w w5 := (ST2.out.trans (Step.of_below bA (by omega))).then_below hb5 hs
        first
          | exact ⟨k + 1, A5, c5, by omega, by go_num, rfl, f2, ⟨o', f1⟩, f3⟩
          | ((repeat apply Exists.intro); exact ⟨⟨k + 1, A5, c5, by omega, by go_num, rfl, f2, ⟨o', f1⟩, f3⟩, rfl⟩)
      case measure => simp [intOf]; omega
    · have hk9 : k = next := by omega
      subst hk9
      have HLS := Lib.hid hls
      have HST := Lib.hid hst
      have HDk := Lib.hid hdk
      clear hls hst hdk
      go_wp2
      go_ret2
      exact ⟨B, c, rfl, HLS.out, ⟨o, HDk.out⟩, HST.out⟩
end
end Go.Proofs.Ytninidpbchcliaa
