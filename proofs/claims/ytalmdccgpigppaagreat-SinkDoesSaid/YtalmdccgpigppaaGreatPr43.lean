/- Parts: RowE. -/
import Derived.Test.YtalmdccgpigppaaGreatPr42
namespace Go.Proofs.YtalmdccgpigppaaGreat
open Go.RowKit

/-- How the reading of a row's values ends. -/
def RdEnd (w0 w : World) (gb go : Nat) (bs : List UInt8) (s : List Int × Nat × Nat) : Prop := Below w0.heap.size w0 w ∧ (s.2.2 = 0 → RdSt w0 w gb go bs s.1 s.2.1)
theorem each_read (A : Option Addr) (n c gb go : Nat) (ts : List Int) (bs : List UInt8) (w0 w : World) (ht : RI w0 A n ts) (hn : n ≤ 8) (h : RdSt w0 w gb go bs [] 0) :
    Calls Tryz.prog 164 #[.slice A n c, .func (.func 165) #[] #[.pointer (some ⟨gb, 0, none⟩), .pointer (some ⟨go, 0, none⟩)]] w fun e w' => e = .returned (.int .i64 ((rowK ts bs n).2.2 : Nat)) ∧ RdEnd w0 w' gb go bs (rowK ts bs n) := by
  go_enter Tryz.func164, Tryz.ntmps164
  go_wp2
  go_loopw [10] (fun i wr => ∃ k : Nat, k ≤ n ∧ i = .int .i64 (k : Nat) ∧ Hid ((rowK ts bs k).2.2 = 0) ∧ RdSt w0 wr gb go bs (rowK ts bs k).1 (rowK ts bs k).2.1) (fun i _ => n - (intOf i).toNat)
  case atStart => exact ⟨0, by omega, rfl, rfl, h⟩
  case round =>
    obtain ⟨k, hk, rfl, he, hst⟩ := hrel
    by_cases hlt : k < n
    · have hbad : ∀ s', Hid (rowK ts bs (k + 1) = s' → s'.2.2 ≠ 0 → rowK ts bs n = s') := fun s' e1 e2 => by
        rw [← e1] at e2 ⊢
        exact rdK_bad (by omega) e2
      have hrd : Hid (rowK ts bs (k + 1) = rdStep bs (intAt ts k) (rowK ts bs k)) := rfl
      have hinv := (rdK_inv ts bs k).2.1
      have ht' := ht.below hst.below (Nat.le_refl _)
      obtain ⟨b, o, rfl, _, hc⟩ := ht'.at_ hlt
      have hs : Hid (rowK ts bs k = ((rowK ts bs k).1, (rowK ts bs k).2.1, 0)) := Prod.ext rfl (Prod.ext rfl he.out)
      generalize (rowK ts bs k).1 = out at *
      generalize (rowK ts bs k).2.1 = i at *
      generalize rowK ts bs k = s at *
      generalize hfin : rowK ts bs n = fin at *
      generalize hnxt : rowK ts bs (k + 1) = nxt at *
      have Hfin := Lib.hid hfin
      have Hnxt := Lib.hid hnxt
      clear hfin hnxt
      have hrd2 : Hid (nxt = rdStep bs (intAt ts k) (out, i, 0)) := by show nxt = _; rw [← hs.out]; exact hrd.out
      by_cases h1 : intAt ts k = 1
      · rw [h1] at hc hrd2
        have hcall := read1_int gb go bs out i w0 wr hst (by omega)
        by_cases hz : zagE (bs.drop i) = 0
        · have hn2 : Hid (nxt = (out ++ [zagV (bs.drop i)], i + zagS (bs.drop i), 0)) := by show nxt = _; rw [hrd2.out, rdStep_int hz]
          rw [hz] at hcall
          clear hz h1 hrd hrd2 hbad hs
          generalize zagV (bs.drop i) = v at *
          generalize zagS (bs.drop i) = sz at *
          go_wp2_with (go_at_call 165; (with_reducible refine (hcall).mono ?_); rintro e w2 ⟨rfl, hst2⟩)
          go_roundw
          case rel => exact ⟨k + 1, by omega, by go_num, by show (rowK ts bs (k + 1)).2.2 = 0; rw [Hnxt.out, hn2.out], by rw [Hnxt.out, hn2.out]; exact hst2⟩
          case measure => simp [intOf]; omega
        · have hn2 : Hid (fin = (out, i, zagE (bs.drop i))) := by
            show fin = _
            rw [(hbad nxt).out rfl (by rw [hrd2.out, rdStep_intE hz]; exact hz), hrd2.out, rdStep_intE hz]
          have hb : (((zagE (bs.drop i) : Nat) : Int) != 0) = true := by rw [bne_iff_ne]; omega
          have Hz := Lib.hid hz
          clear hz h1 hrd hrd2 hbad hs
          generalize zagE (bs.drop i) = z at *
          go_wp2_with (go_at_call 165; (with_reducible refine (hcall).mono ?_); rintro e w2 ⟨rfl, hst2⟩)
          go_ret
          exact ⟨ret_nat (by rw [Hfin.out, hn2.out]), hst2.below, fun hx => absurd (by rw [Hfin.out, hn2.out] at hx; exact hx) Hz.out⟩
      · by_cases h2 : bs.length ≤ i
        · have hcall := read1_end (intAt ts k) gb go bs out i w0 wr hst h1 h2
          have hn2 : Hid (fin = (out, i, 10)) := by
            show fin = _
            rw [(hbad nxt).out rfl (by rw [hrd2.out, rdStep_end h1 h2]; simp), hrd2.out, rdStep_end h1 h2]
          clear h1 hrd hrd2 hbad hs
          go_wp2_with (go_at_call 165; (with_reducible refine (hcall).mono ?_); rintro e w2 ⟨rfl, rfl⟩)
          go_ret
          exact ⟨ret_nat (b := (rowK ts bs n).2.2) (a := 10) (by rw [Hfin.out, hn2.out]), hst.below, fun hx => absurd hx (by rw [Hfin.out, hn2.out]; simp)⟩
        · by_cases h3 : 1 < byteAt bs i
          · have hcall := read1_form (intAt ts k) gb go bs out i w0 wr hst h1 (by omega) h3
            have hn2 : Hid (fin = (out, i, 11)) := by
              show fin = _
              rw [(hbad nxt).out rfl (by rw [hrd2.out, rdStep_form h1 (by omega) h3]; simp), hrd2.out, rdStep_form h1 (by omega) h3]
            clear h1 hrd hrd2 hbad hs
            go_wp2_with (go_at_call 165; (with_reducible refine (hcall).mono ?_); rintro e w2 ⟨rfl, rfl⟩)
            go_ret
            exact ⟨ret_nat (b := (rowK ts bs n).2.2) (a := 11) (by rw [Hfin.out, hn2.out]), hst.below, fun hx => absurd hx (by rw [Hfin.out, hn2.out]; simp)⟩
          · have hcall := read1_bool (intAt ts k) gb go bs out i w0 wr hst (by omega) h1 (by omega) (by omega)
            have hn2 : Hid (nxt = (out ++ [(byteAt bs i : Int)], i + 1, 0)) := by show nxt = _; rw [hrd2.out, rdStep_bool h1 (by omega) (by omega)]
            clear h1 hrd hrd2 hbad hs
            generalize byteAt bs i = y at *
            go_wp2_with (go_at_call 165; (with_reducible refine (hcall).mono ?_); rintro e w2 ⟨rfl, hst2⟩)
            go_roundw
            case rel => exact ⟨k + 1, by omega, by go_num, by show (rowK ts bs (k + 1)).2.2 = 0; rw [Hnxt.out, hn2.out], by rw [Hnxt.out, hn2.out]; exact hst2⟩
            case measure => simp [intOf]; omega
    · have hkn : k = n := by omega
      subst hkn
      go_wp2
      go_ret
      exact ⟨ret_nat (b := (rowK ts bs k).2.2) (a := 0) (by rw [he.out]), hst.below, fun _ => hst⟩

/-- What reading hands back. -/
def ReadEnd (w : World) (r : List Int × Nat) (e : Ending) (w' : World) : Prop := ∃ A n c, e = .returned (.tuple #[.slice A n c, .int .i64 (r.2 : Nat)]) ∧ Ow iv w' w.heap.size 3 A n c r.1 ∧ Below w.heap.size w w'
theorem ReadEnd.bad {w w' : World} {r : List Int × Nat} (z : Int) (h1 : r.1 = []) (h2 : z = (r.2 : Nat)) (hb : Below w.heap.size w w') : ReadEnd w r (.returned (.tuple #[.slice none 0 0, .int .i64 z])) w' :=
  ⟨none, 0, 0, by rw [h2], by rw [h1]; exact Ow.nil _ _ _ _, hb⟩
set_option maxHeartbeats 800000 in
theorem read_row (A B : Option Addr) (n m c d : Nat) (ts : List Int) (bs : List UInt8) (w : World) (ht : RI w A n ts) (hl : RB w B m bs) (hn : n ≤ maxLen) (hm : m ≤ d) (hd : d ≤ maxLen) :
    Calls Tryz.prog 102 #[.slice A n c, .slice B m d] w (ReadEnd w (readR ts bs)) := by
  have hright := fun w hl => right_any A n c ts w hl hn
  have hlen := ht.1
  generalize hr : readR ts bs = r
  unfold readR at hr
  cases hri : rightB ts with
  | false =>
    rw [hri] at hright
    rw [if_pos hri] at hr
    subst hr
    clear hri hlen
    go_enter Tryz.func102, Tryz.ntmps102
    go_wp2_with (go_at_call 49; (with_reducible refine (hright _ (ht.below ((Below.refl _ _).alloc (Nat.le_refl _) _) (Nat.le_refl _))).mono ?_); rintro e w' ⟨rfl, rfl⟩)
    go_ret2
    exact ReadEnd.bad 2 rfl rfl (by (repeat' (first | (with_reducible exact Below.refl _ _) | (with_reducible assumption) | (with_reducible refine Below.drew ?_) | (with_reducible refine below_drewN ?_ _) | (with_reducible refine Below.alloc ?_ ?_ _) | (with_reducible refine Below.setCell ?_ ?_ _) | omega | (simp; done) | (simp; omega))))
  | true =>
    have h8 := (rightB_true.1 hri).2.2
    rw [hri] at hright
    rw [if_neg (by simp [hri])] at hr
    rw [hlen] at hr h8
    have heach := fun w1 h => each_read A n c w.heap.size (w.heap.size + 1) ts bs w w1 ht h8 h
    have hst : ∀ w1, Blk w1 w.heap.size 22 [.slice B m d] → Blk w1 (w.heap.size + 1) 23 [.slice none 0 0] → Below w.heap.size w w1 → RdSt w w1 w.heap.size (w.heap.size + 1) bs [] 0 :=
      fun w1 h1 h2 h3 => ⟨h3, Nat.le_refl _, by omega, ⟨B, m, d, h1, by simpa using hl, hm, hd⟩, none, 0, 0, h2, Ow.nil _ _ _ _⟩
    have hi := (rdK_inv ts bs n).1
    generalize rowK ts bs n = s at *
    obtain ⟨out, i, z⟩ := s
    have Hr := Lib.hid hr
    clear hr hri hlen
    simp only at hi
    by_cases hz : z = 0
    · subst hz
      have heach2 : ∀ w1, RdSt w w1 w.heap.size (w.heap.size + 1) bs [] 0 → Calls Tryz.prog 164 #[.slice A n c, .func (.func 165) #[] #[.pointer (some ⟨w.heap.size, 0, none⟩), .pointer (some ⟨w.heap.size + 1, 0, none⟩)]] w1 fun e w' =>
          e = .returned (.int .i64 0) ∧ RdSt w w' w.heap.size (w.heap.size + 1) bs out i := fun w1 h => (heach w1 h).mono fun e w' ⟨h1, h2⟩ => ⟨h1, h2.2 rfl⟩
      clear heach
      by_cases hlt : i < bs.length
      · have hr2 : Hid (r = ([], 12)) := by show r = _; rw [← Hr.out]; simp [hlt]
        go_enter Tryz.func102, Tryz.ntmps102
        go_wp2_with (first
          | (go_at_call 49; (with_reducible refine (hright _ (ht.below ((Below.refl _ _).alloc (Nat.le_refl _) _) (Nat.le_refl _))).mono ?_); rintro e w' ⟨rfl, rfl⟩)
          | ((go_at_call 164; (with_reducible refine (heach2 _ (hst _ (by (repeat' (first | (with_reducible assumption) | (with_reducible refine Blk.top _ (by first | rfl | omega | (simp; done) | (simp; omega)) rfl) | (with_reducible refine Blk.alloc ?_ _) | (with_reducible refine Blk.drew ?_) | (with_reducible refine Blk.drewN ?_ _) | (with_reducible refine Blk.far ?_ (by first | omega | (simp; done) | (simp; omega)) _)))) (by (repeat' (first | (with_reducible assumption) | (with_reducible refine Blk.top _ (by first | rfl | omega | (simp; done) | (simp; omega)) rfl) | (with_reducible refine Blk.alloc ?_ _) | (with_reducible refine Blk.drew ?_) | (with_reducible refine Blk.drewN ?_ _) | (with_reducible refine Blk.far ?_ (by first | omega | (simp; done) | (simp; omega)) _)))) (by (repeat' (first | (with_reducible exact Below.refl _ _) | (with_reducible assumption) | (with_reducible refine Below.drew ?_) | (with_reducible refine below_drewN ?_ _) | (with_reducible refine Below.alloc ?_ ?_ _) | (with_reducible refine Below.setCell ?_ ?_ _) | omega | (simp; done) | (simp; omega)))))).mono ?_); rintro e w2 ⟨rfl, hst2⟩); obtain ⟨hb2, _, _, ⟨A3, n3, c3, hk3, hrb3, hn3, hc3⟩, A4, n4, c4, hk4, hown4⟩ := hst2; have hl3 := hrb3.1; rw [List.length_drop] at hl3; have h03 : (0 : Int) < (n3 : Int) := (by omega); clear hl3; have k3 : w2.cell? ⟨w.heap.size, 0, none⟩ = some (.slice A3 n3 c3) := hk3.cell 0; have k4 : w2.cell? ⟨w.heap.size + 1, 0, none⟩ = some (.slice A4 n4 c4) := hk4.cell 0; clear hk3 hk4))
        go_ret2
        exact ReadEnd.bad 12 (by rw [hr2.out]) (by rw [hr2.out]; rfl) hb2
      · have hr2 : Hid (r = (out, 0)) := by show r = _; rw [← Hr.out]; simp [hlt]
        go_enter Tryz.func102, Tryz.ntmps102
        go_wp2_with (first
          | (go_at_call 49; (with_reducible refine (hright _ (ht.below ((Below.refl _ _).alloc (Nat.le_refl _) _) (Nat.le_refl _))).mono ?_); rintro e w' ⟨rfl, rfl⟩)
          | ((go_at_call 164; (with_reducible refine (heach2 _ (hst _ (by (repeat' (first | (with_reducible assumption) | (with_reducible refine Blk.top _ (by first | rfl | omega | (simp; done) | (simp; omega)) rfl) | (with_reducible refine Blk.alloc ?_ _) | (with_reducible refine Blk.drew ?_) | (with_reducible refine Blk.drewN ?_ _) | (with_reducible refine Blk.far ?_ (by first | omega | (simp; done) | (simp; omega)) _)))) (by (repeat' (first | (with_reducible assumption) | (with_reducible refine Blk.top _ (by first | rfl | omega | (simp; done) | (simp; omega)) rfl) | (with_reducible refine Blk.alloc ?_ _) | (with_reducible refine Blk.drew ?_) | (with_reducible refine Blk.drewN ?_ _) | (with_reducible refine Blk.far ?_ (by first | omega | (simp; done) | (simp; omega)) _)))) (by (repeat' (first | (with_reducible exact Below.refl _ _) | (with_reducible assumption) | (with_reducible refine Below.drew ?_) | (with_reducible refine below_drewN ?_ _) | (with_reducible refine Below.alloc ?_ ?_ _) | (with_reducible refine Below.setCell ?_ ?_ _) | omega | (simp; done) | (simp; omega)))))).mono ?_); rintro e w2 ⟨rfl, hst2⟩); obtain ⟨hb2, _, _, ⟨A3, n3, c3, hk3, hrb3, hn3, hc3⟩, A4, n4, c4, hk4, hown4⟩ := hst2; have hl3 := hrb3.1; rw [List.length_drop] at hl3; have h03 : n3 = 0 := (by omega); subst h03; clear hl3; have k3 : w2.cell? ⟨w.heap.size, 0, none⟩ = some (.slice A3 0 c3) := hk3.cell 0; have k4 : w2.cell? ⟨w.heap.size + 1, 0, none⟩ = some (.slice A4 n4 c4) := hk4.cell 0; clear hk3 hk4))
        go_ret2
        exact ⟨A4, n4, c4, by rw [hr2.out]; rfl, by rw [hr2.out]; exact hown4, hb2⟩
    · have hr2 : Hid (r = ([], z)) := by show r = _; rw [← Hr.out]; simp [hz]
      have hb : (((z : Nat) : Int) != 0) = true := by rw [bne_iff_ne]; omega
      have hb3 : (((z : Nat) : Int) == 0) = false := by rw [beq_eq_false_iff_ne]; omega
      clear hz
      go_enter Tryz.func102, Tryz.ntmps102
      go_wp2_with (first
        | (go_at_call 49; (with_reducible refine (hright _ (ht.below ((Below.refl _ _).alloc (Nat.le_refl _) _) (Nat.le_refl _))).mono ?_); rintro e w' ⟨rfl, rfl⟩)
        | ((go_at_call 164; (with_reducible refine (heach _ (hst _ (by (repeat' (first | (with_reducible assumption) | (with_reducible refine Blk.top _ (by first | rfl | omega | (simp; done) | (simp; omega)) rfl) | (with_reducible refine Blk.alloc ?_ _) | (with_reducible refine Blk.drew ?_) | (with_reducible refine Blk.drewN ?_ _) | (with_reducible refine Blk.far ?_ (by first | omega | (simp; done) | (simp; omega)) _)))) (by (repeat' (first | (with_reducible assumption) | (with_reducible refine Blk.top _ (by first | rfl | omega | (simp; done) | (simp; omega)) rfl) | (with_reducible refine Blk.alloc ?_ _) | (with_reducible refine Blk.drew ?_) | (with_reducible refine Blk.drewN ?_ _) | (with_reducible refine Blk.far ?_ (by first | omega | (simp; done) | (simp; omega)) _)))) (by (repeat' (first | (with_reducible exact Below.refl _ _) | (with_reducible assumption) | (with_reducible refine Below.drew ?_) | (with_reducible refine below_drewN ?_ _) | (with_reducible refine Below.alloc ?_ ?_ _) | (with_reducible refine Below.setCell ?_ ?_ _) | omega | (simp; done) | (simp; omega)))))).mono ?_); rintro e w2 ⟨rfl, hst2⟩); have hb2 := hst2.1))
      go_ret2
      exact ReadEnd.bad _ (by rw [hr2.out]) (by rw [hr2.out]) hb2

set_option maxHeartbeats 2000000 in
theorem refread_row (A B : Option Addr) (n m c d : Nat) (ts : List Int) (bs : List UInt8) (w : World) (ht : RI w A n ts) (hl : RB w B m bs) (hn : n ≤ maxLen) (hm : m ≤ d) (hd : d ≤ maxLen) :
    Calls Tryz.prog 117 #[.slice A n c, .slice B m d] w (ReadEnd w (readR ts bs)) := by
  have hright := refright_any A n c ts w ht hn
  have hlen := ht.1
  have hml := hl.1
  generalize hr : readR ts bs = r
  unfold readR at hr
  cases hri : rightB ts with
  | false =>
    rw [hri] at hright
    rw [if_pos hri] at hr
    subst hr
    clear hri hlen hml
    go_enter Tryz.func117, Tryz.ntmps117
    go_wp2_with (go_at_call 54; (with_reducible refine (hright).mono ?_); rintro e w' ⟨rfl, rfl⟩)
    go_ret2
    exact ReadEnd.bad 2 rfl rfl (by (repeat' (first | (with_reducible exact Below.refl _ _) | (with_reducible assumption) | (with_reducible refine Below.drew ?_) | (with_reducible refine below_drewN ?_ _) | (with_reducible refine Below.alloc ?_ ?_ _) | (with_reducible refine Below.setCell ?_ ?_ _) | omega | (simp; done) | (simp; omega))))
  | true =>
    have h8 := (rightB_true.1 hri).2.2
    have h12 := (rightB_true.1 hri).1
    rw [hri] at hright
    rw [if_neg (by simp [hri])] at hr
    rw [hlen] at hr h8 h12
    have Hr := Lib.hid hr
    have Hml := Lib.hid hml
    have hmm : m ≤ 9223372036854775807 := by unfold maxLen at hd; omega
    clear hr hri hlen hml
    go_enter Tryz.func117, Tryz.ntmps117
    go_wp2_with (go_at_call 54; (with_reducible refine (hright).mono ?_); rintro e w' ⟨rfl, rfl⟩)
    go_loopw [6, 7, 8] (fun v x y wr => ∃ (k : Nat) (A3 : Option Addr) (n3 c3 : Nat), k ≤ n ∧ y = .int .i64 (k : Nat) ∧ x = .int .i64 ((rowK ts bs k).2.1 : Nat) ∧ v = .slice A3 n3 c3 ∧ Hid ((rowK ts bs k).2.2 = 0) ∧ Ow iv wr w.heap.size 3 A3 n3 c3 (rowK ts bs k).1 ∧ Below w.heap.size w wr) (fun _ _ y _ => n - (intOf y).toNat)
    case atStart => exact ⟨0, none, 0, 0, by omega, rfl, rfl, rfl, rfl, Ow.nil _ _ _ _, Below.refl _ _⟩
    case round =>
      obtain ⟨k, A3, n3, c3, hk, rfl, rfl, rfl, he, hown, hbel⟩ := hrel
      have hbs := hbel.size
      have hinv := (rdK_inv ts bs k).2.1
      have hinv1 := (rdK_inv ts bs k).1
      have hn3 := hown.1
      by_cases hlt : k < n
      · have hbad : ∀ s', Hid (rowK ts bs (k + 1) = s' → s'.2.2 ≠ 0 → rowK ts bs n = s') := fun s' e1 e2 => by
          rw [← e1] at e2 ⊢
          exact rdK_bad (by omega) e2
        have hrd : Hid (rowK ts bs (k + 1) = rdStep bs (intAt ts k) (rowK ts bs k)) := rfl
        have ht' := ht.below hbel (Nat.le_refl _)
        have hl' := hl.below hbel (Nat.le_refl _)
        obtain ⟨b, o, rfl, _, hc⟩ := ht'.at_ hlt
        have hs : Hid (rowK ts bs k = ((rowK ts bs k).1, (rowK ts bs k).2.1, 0)) := Prod.ext rfl (Prod.ext rfl he.out)
        have h12k := h12 k hlt
        have hn8 : n3 ≤ 8 := by omega
        generalize (rowK ts bs k).1 = out at *
        generalize (rowK ts bs k).2.1 = i at *
        generalize rowK ts bs k = s at *
        generalize hfin : rowK ts bs n = fin at *
        generalize hnxt : rowK ts bs (k + 1) = nxt at *
        have Hfin := Lib.hid hfin
        have Hnxt := Lib.hid hnxt
        have him : i ≤ m := by rw [← Hml.out]; exact hinv1
        clear hfin hnxt hn3 hinv hinv1 h12
        have hrd2 : Hid (nxt = rdStep bs (intAt ts k) (out, i, 0)) := by show nxt = _; rw [← hs.out]; exact hrd.out
        rcases h12k with h1 | h1
        · rw [h1] at hc hrd2
          have hcut := run_cut_from (P := Tryz.prog) elemU8 B m d i him
          have hrb2 := cut_rb hl' him hm
          have hzag := fun w A hl => refzag_any A (m - i) (d - i) (bs.drop i) w hl (by unfold maxLen at *; omega)
          generalize (if d = i then B else B.map (·.add (i * 1))) = B' at *
          have hS := zagS_le (bs.drop i)
          rw [List.length_drop, Hml.out] at hS
          by_cases hz : zagE (bs.drop i) = 0
          · have hn2 : Hid (nxt = (out ++ [zagV (bs.drop i)], i + zagS (bs.drop i), 0)) := by show nxt = _; rw [hrd2.out, rdStep_int hz]
            rw [hz] at hzag
            clear hz h1 hrd hrd2 hbad hs
            generalize zagV (bs.drop i) = v at *
            generalize zagS (bs.drop i) = sz at *
            go_wp2_with (first
              | ((go_at_call 175; (with_reducible refine (hzag _ _ hrb2).mono ?_); rintro e w2 ⟨rfl, hb2⟩); have hb2s := hb2.size; have hbw2 := below_then hbel hb2 hbs; have hown2 := hown.below hb2 (Nat.le_refl _))
              | (at_builtin; refine wpList_app rfl rfl elemInt iv_one (s := .tmp 37) (N := n3 + 1) (L := out ++ [v]) rfl (hown2.below (b := w2.heap.size) (by (repeat' (first | (with_reducible exact Below.refl _ _) | (with_reducible assumption) | (with_reducible refine Below.drew ?_) | (with_reducible refine below_drewN ?_ _) | (with_reducible refine Below.alloc ?_ ?_ _) | (with_reducible refine Below.setCell ?_ ?_ _) | omega | (simp; done) | (simp; omega)))) (by first | omega | (simp; done) | (simp; omega))) rfl (k := [v]) (Rd.of_block (l := [v]) (heap_top _ _ (by simp)) rfl) rfl (rfl) (by unfold maxLen; omega) (by omega) (by first | omega | (simp; done) | (simp; omega)) ?_; intro A5 c5 w5 hown5 hg5 hat5 hb5))
            replace hb5 := below_then' (a := w) (B := w.heap.size) (by (repeat' (first | (with_reducible exact Below.refl _ _) | (with_reducible assumption) | (with_reducible refine Below.drew ?_) | (with_reducible refine below_drewN ?_ _) | (with_reducible refine Below.alloc ?_ ?_ _) | (with_reducible refine Below.setCell ?_ ?_ _) | omega | (simp; done) | (simp; omega)))) hb5 (by first | omega | (simp; done) | (simp; omega)); have hb5s := hb5.size
            go_roundw
            case rel => exact ⟨k + 1, A5, n3 + 1, c5, by omega, by go_num, by rw [Hnxt.out, hn2.out]; go_num, rfl, by show (rowK ts bs (k + 1)).2.2 = 0; rw [Hnxt.out, hn2.out], by rw [Hnxt.out, hn2.out]; exact hown5, hb5⟩
            case measure => simp [intOf]; omega
          · have hn2 : Hid (fin = (out, i, zagE (bs.drop i))) := by
              show fin = _
              rw [(hbad nxt).out rfl (by rw [hrd2.out, rdStep_intE hz]; exact hz), hrd2.out, rdStep_intE hz]
            have hb : (((zagE (bs.drop i) : Nat) : Int) != 0) = true := by rw [bne_iff_ne]; omega
            have hr2 : Hid (r = ([], zagE (bs.drop i))) := by
              show r = _
              rw [← Hr.out, hn2.out]
              simp [hz]
            clear hz h1 hrd hrd2 hbad hs
            generalize zagE (bs.drop i) = z at *
            go_wp2_with ((go_at_call 175; (with_reducible refine (hzag _ _ hrb2).mono ?_); rintro e w2 ⟨rfl, hb2⟩); have hbw2 := below_then hbel hb2 hbs)
            go_ret2
            exact ReadEnd.bad _ (by rw [hr2.out]) (by rw [hr2.out]) hbw2
        · rw [h1] at hc hrd2
          by_cases h2 : bs.length ≤ i
          · have hi : i = m := by rw [Hml.out] at h2; omega
            have hr2 : Hid (r = ([], 10)) := by
              show r = _
              rw [← Hr.out, (hbad nxt).out rfl (by rw [hrd2.out, rdStep_end (by omega) h2]; simp), hrd2.out, rdStep_end (by omega) h2]
              simp
            subst hi
            clear h1 hrd hrd2 hbad hs h2
            go_wp2
            go_ret2
            exact ReadEnd.bad 10 (by rw [hr2.out]) (by rw [hr2.out]; rfl) hbel
          · have hi : i < m := by rw [Hml.out] at h2; omega
            obtain ⟨b2, o2, rfl, _, hc2⟩ := hl'.at_ hi
            have h256 := byteAt_lt bs i
            by_cases h3 : 1 < byteAt bs i
            · have hr2 : Hid (r = ([], 11)) := by
                show r = _
                rw [← Hr.out, (hbad nxt).out rfl (by rw [hrd2.out, rdStep_form (by omega) (by omega) h3]; simp), hrd2.out, rdStep_form (by omega) (by omega) h3]
                simp
              clear h1 hrd hrd2 hbad hs h2
              generalize byteAt bs i = y at *
              go_wp2
              go_ret2
              exact ReadEnd.bad 11 (by rw [hr2.out]) (by rw [hr2.out]; rfl) hbel
            · have hn2 : Hid (nxt = (out ++ [(byteAt bs i : Int)], i + 1, 0)) := by show nxt = _; rw [hrd2.out, rdStep_bool (by omega) (by omega) (by omega)]
              clear h1 hrd hrd2 hbad hs h2
              generalize byteAt bs i = y at *
              go_wp2_with (at_builtin; refine wpList_app rfl rfl elemInt iv_one (s := .tmp 53) (N := n3 + 1) (L := out ++ [((y : Nat) : Int)]) rfl (hown.below (b := wr.heap.size) (by (repeat' (first | (with_reducible exact Below.refl _ _) | (with_reducible assumption) | (with_reducible refine Below.drew ?_) | (with_reducible refine below_drewN ?_ _) | (with_reducible refine Below.alloc ?_ ?_ _) | (with_reducible refine Below.setCell ?_ ?_ _) | omega | (simp; done) | (simp; omega)))) (by first | omega | (simp; done) | (simp; omega))) rfl (k := [((y : Nat) : Int)]) (Rd.of_block (l := [((y : Nat) : Int)]) (heap_top _ _ (by simp)) rfl) rfl (rfl) (by unfold maxLen; omega) (by omega) (by first | omega | (simp; done) | (simp; omega)) ?_; intro A5 c5 w5 hown5 hg5 hat5 hb5)
              replace hb5 := below_then' (a := w) (B := w.heap.size) (by (repeat' (first | (with_reducible exact Below.refl _ _) | (with_reducible assumption) | (with_reducible refine Below.drew ?_) | (with_reducible refine below_drewN ?_ _) | (with_reducible refine Below.alloc ?_ ?_ _) | (with_reducible refine Below.setCell ?_ ?_ _) | omega | (simp; done) | (simp; omega)))) hb5 (by first | omega | (simp; done) | (simp; omega)); have hb5s := hb5.size
              go_roundw
              case rel => exact ⟨k + 1, A5, n3 + 1, c5, by omega, by go_num, by rw [Hnxt.out, hn2.out]; go_num, rfl, by show (rowK ts bs (k + 1)).2.2 = 0; rw [Hnxt.out, hn2.out], by rw [Hnxt.out, hn2.out]; exact hown5, hb5⟩
              case measure => simp [intOf]; omega
      · have hkn : k = n := by omega
        subst hkn
        have hi : (rowK ts bs k).2.1 ≤ m := by rw [← Hml.out]; exact hinv1
        have hr2 : Hid (r = if (rowK ts bs k).2.1 < m then ([], 12) else ((rowK ts bs k).1, 0)) := by
          show r = _
          rw [← Hr.out, if_neg (by rw [he.out]; simp), Hml.out]
        clear hn3 hinv hinv1 h12
        generalize (rowK ts bs k).1 = out at *
        generalize (rowK ts bs k).2.1 = i at *
        by_cases hlt2 : i < m
        · rw [if_pos hlt2] at hr2
          go_wp2
          go_ret2
          exact ReadEnd.bad 12 (by rw [hr2.out]) (by rw [hr2.out]; rfl) hbel
        · rw [if_neg hlt2] at hr2
          have hge : (m : Int) ≤ (i : Int) := by omega
          go_wp2
          go_ret2
          exact ⟨A3, n3, c3, by rw [hr2.out]; rfl, by rw [hr2.out]; exact hown, hbel⟩
end Go.Proofs.YtalmdccgpigppaaGreat
