/- The disk's law: the chapter's example. -/
import Derived.Test.YtninidpbchcliaaDiskG
import Derived.Test.YtninidpbchcliaaDiskH
namespace Go.Proofs.Ytninidpbchcliaa
open Go.RowKit
set_option linter.unusedVariables false
set_option linter.unusedSimpArgs false
theorem DiskAt.belowK {w w' : World} {base : Nat} {p : DiskP} {A : Option Addr} {c : Nat} {D : DiskV} (h : DiskAt w base p A c D) (k : Keep (foot p A) w w') (hb : base ≤ w.heap.size) : Below base w w' := k.below h.bs hb
def D6a : DiskV := newV 3 3
def D6b : DiskV := (writeV D6a 1 (fullL [7])).1
def D6c : DiskV := crashV D6b [2]
theorem d6_facts : D6a.many = 3 ∧ D6a.room - (trues D6a.might : Nat) = 3 ∧ mayV D6c 1 = 0 ∧ byteAt (secOf D6c.now 1) 0 = 7 ∧ byteAt (secOf D6c.now 1) 1 = 7 ∧ byteAt (secOf D6c.now 1) 2 = 0 ∧ (readV' D6c).room - (trues (readV' D6c).might : Nat) = 2 ∧ D6a.waits.length = 0 ∧ D6c.now.length = 384 := by decide +kernel
set_option maxRecDepth 100000 in
set_option maxHeartbeats 4000000 in
theorem awake6 (w : World) : Calls Try.prog 15 #[] w fun e w' => e = .returned (.bool true) ∧ Below w.heap.size w w' := by
  obtain ⟨f1, f2, f3, f4, f5, f6, f7, f8, f9⟩ := d6_facts
  have hnew : ∀ w, Calls Try.prog 17 #[.int .i64 3, .int .i64 3] w (NwPost w D6a) := fun w => new_ok 3 3 w (by omega) (by omega) (by omega) (by omega)
  have hsize : ∀ {w base p A c}, DiskAt w base p A c D6a → Calls Try.prog 28 #[.pointer (some ⟨p.d, 0, none⟩)] w fun e w' => e = .returned (.int .i64 3) ∧ w = w' := fun h => by have := size_any h; rw [f1] at this; exact this
  have hleft : ∀ {w base p A c}, DiskAt w base p A c D6a → Calls Try.prog 26 #[.pointer (some ⟨p.d, 0, none⟩)] w fun e w' => e = .returned (.int .i64 3) ∧ w = w' := fun h => by have := left_any h; rw [f2] at this; exact this
  have hwr : ∀ {w base p A c}, DiskAt w base p A c D6a → base ≤ w.heap.size → Calls Try.prog 18 #[.pointer (some ⟨p.d, 0, none⟩), .int .i64 1, aggB (fullL [7])] w fun e w' => e = .returned (.int .i64 (writeV D6a 1 (fullL [7])).2) ∧ DiskNext w base p A D6b w' := fun h hb => write_any h 1 (fullL [7]) (fullL_len _) (by rw [f8]; omega) hb
  have hcr : ∀ {w base p A c} {B : Option Addr} {d : Nat}, DiskAt w base p A c D6b → RB w B 1 [2] → (∀ g, foot p A g → B.map (·.block) ≠ some g) → Calls Try.prog 22 #[.pointer (some ⟨p.d, 0, none⟩), .slice B 1 d] w (CrPost w base p A D6c) := fun h hl hB => crash_any h _ 1 _ [2] hl (fun _ => hB) (by unfold maxLen; omega)
  have hrd : ∀ {w base p A c}, DiskAt w base p A c D6c → Calls Try.prog 21 #[.pointer (some ⟨p.d, 0, none⟩), .int .i64 1] w fun e w' => e = .returned (.tuple #[aggB (secOf D6c.now 1), .int .i64 0]) ∧ DiskAt w' base p A c (readV' D6c) ∧ Keep (foot p A) w w' := fun h => read_yes h 1 f3
  have hleft2 : ∀ {w base p A c}, DiskAt w base p A c (readV' D6c) → Calls Try.prog 26 #[.pointer (some ⟨p.d, 0, none⟩)] w fun e w' => e = .returned (.int .i64 2) ∧ w = w' := fun h => by have := left_any h; rw [f7] at this; exact this
  have hsl : (secOf D6c.now 1).length = 128 := by unfold secOf; rw [List.length_take, List.length_drop, f9]; rfl
  have g0 : ((secOf D6c.now 1).map bv)[0]? = some (.int .u8 7) := by rw [cellB 0 (by omega), f4]; rfl
  have g1 : ((secOf D6c.now 1).map bv)[1]? = some (.int .u8 7) := by rw [cellB 1 (by omega), f5]; rfl
  have g2 : ((secOf D6c.now 1).map bv)[2]? = some (.int .u8 0) := by rw [cellB 2 (by omega), f6]; rfl
  have hz := (zero_of_info zero128).1
  have Hi := Lib.hid (zero_of_info zero128).2
  have hlz : Hid ((zerosL.map bv).length = 128) := by show _ = _; simp [zerosL_len]
  have hS : Hid (((secOf D6c.now 1).map bv).length = 128) := by show _ = _; rw [List.length_map, hsl]
  have hSm := Lib.hid (mem_bv (l := secOf D6c.now 1))
  have hzz : Hid ((fK [7] 0).map bv = zerosL.map bv) := by show _ = _; rw [fK_zero]
  clear f1 f2 f3 f4 f5 f6 f7 f8 f9 hsl
  unfold aggB at *
  generalize (writeV D6a 1 (fullL [7])).2 = wz at *
  generalize (secOf D6c.now 1).map bv = S at *
  generalize zerosL.map bv = Z at *
  have G0 := Lib.hid g0
  have G1 := Lib.hid g1
  have G2 := Lib.hid g2
  clear g0 g1 g2
  go_enter Try.func15, Try.ntmps15
  go_wp2_with (first
    | ((go_at_call 17; (with_reducible refine (hnew _).mono ?_); rintro e w1 ⟨p, rfl, hd1, hb1⟩); have H1 := Lib.hid hd1; have s1 := hb1.size; clear hd1)
    | (go_at_call 28; (with_reducible refine (hsize H1.out).mono ?_); rintro e w2 ⟨rfl, rfl⟩)
    | (go_at_call 26; (with_reducible refine (hleft H1.out).mono ?_); rintro e w2 ⟨rfl, rfl⟩)
    | fail "no arm")
  go_loopw [4, 23] (fun _ i wr => ∃ k : Nat, k ≤ 128 ∧ i = .int .i64 (k : Nat) ∧ BlkB wr w1.heap.size 33 (fK [7] k) ∧ DiskAt wr w.heap.size p none 0 D6a ∧ Below w.heap.size w wr ∧ w1.heap.size < wr.heap.size) (fun _ i _ => 128 - (intOf i).toNat)
  case atStart => exact ⟨0, by omega, rfl, by unfold BlkB; rw [hzz.out]; exact (by (repeat' (first | (with_reducible assumption) | (with_reducible refine Blk.top _ (by first | rfl | omega | (simp; done) | (simp; omega)) rfl) | (with_reducible refine Blk.alloc ?_ _) | (with_reducible refine Blk.drew ?_) | (with_reducible refine Blk.drewN ?_ _) | (with_reducible refine Blk.far ?_ (by first | omega | (simp; done) | (simp; omega)) _)))), H1.out.alloc _, (by (repeat' (first | (with_reducible exact Below.refl _ _) | (with_reducible assumption) | (with_reducible refine Below.drew ?_) | (with_reducible refine below_drewN ?_ _) | (with_reducible refine Below.alloc ?_ ?_ _) | (with_reducible refine Below.setCell ?_ ?_ _) | omega | (simp; done) | (simp; omega)))), by simp⟩
  case round =>
    obtain ⟨k, hk, rfl, hx, hd, hbel, hsz⟩ := hrel
    by_cases hlt : k < 128
    · have hs := Lib.hid (fK_succ [7] hlt)
      have h7 : (fullL [7]).getD k 0 = 7 := by rw [fullL_at [7] hlt (by simp)]; simp [Nat.mod_one]
      have cx := hx.cellB k (by rw [fK_len _ (by omega)]; exact hlt)
      have fx := hx.frozen k
      have hst : BlkB (wr.setCell ⟨w1.heap.size, k, none⟩ (.int .u8 7)) w1.heap.size 33 (fK [7] (k + 1)) := by
        have := hx.setB k 7 (.int .u8 7) rfl
        rw [← hs.out, h7]; exact this
      have HST := Lib.hid hst
      have hlt1 := fun g hg => H1.out.lt g hg
      have hdk := Lib.hid (hd.keep (F := (· = w1.heap.size)) (Keep.one (grown_setCell (w := wr) (g := w1.heap.size) (k := k) (.int .u8 7))) (fun g hg e => by have := hlt1 g hg; omega))
      clear hx hst hd h7
      go_wp2
      go_roundw
      case rel => exact ⟨k + 1, by omega, by go_num, HST.out, hdk.out, hbel.setCell s1 _, by simpa [World.setCell] using hsz⟩
      case measure => simp [intOf]; omega
    · have hk9 : k = 128 := by omega
      subst hk9
      rw [fK_all] at hx
      have hfl : Hid (((fullL [7]).map bv).length = 128) := by show _ = _; rw [List.length_map, fullL_len]
      have HX := Lib.hid hx
      have HD := Lib.hid hd
      have hbs := hbel.size
      unfold BlkB at hx
      generalize (fullL [7]).map bv = T at *
      clear hd
      go_wp2_with (first
        | (refine wpList_load_arr rfl (x := .tmp 3) rfl rfl hx Try.underlying33 Hi.out hfl.out (by rw [List.drop_zero, List.take_of_length_le (by rw [hfl.out]; omega)]) ?_)
        | ((go_at_call 18; (with_reducible refine (hwr HD.out hbs).mono ?_); rintro e w3 ⟨rfl, A3, c3, h3, k3, n3⟩); have H3 := Lib.hid h3; have b3 : Below w.heap.size w w3 := hbel.trans (HD.out.belowK k3 hbs); have s3 := b3.size; clear h3)
        | ((go_at_call 22; (with_reducible refine (hcr (H3.out.alloc _) (RB.of_block (l := [2]) (heap_top _ _ rfl) rfl) (fun g hg e => by have := H3.out.lt g hg; simp at e; omega)).mono ?_); rintro e w4 ⟨rfl, A4, c4, h4, k4, n4⟩); have H4 := Lib.hid h4; have b4 : Below w.heap.size w w4 := (b3.alloc s3 _).trans ((H3.out.alloc (.cells #[.int .u8 2] 5)).belowK k4 (by simp; omega)); have s4 := b4.size; clear h4)
        | ((go_at_call 21; (with_reducible refine (hrd H4.out).mono ?_); rintro e w5 ⟨rfl, h5, k5⟩); have H5 := Lib.hid h5; have b5 : Below w.heap.size w w5 := b4.trans (H4.out.belowK k5 s4); have s5 := b5.size; clear h5)
        | (refine wpList_store_arr rfl (x := .tmp 5) (y := .tmp 38) rfl rfl rfl (t := 33) (cs := Z) (xs := S) (Blk.top _ rfl rfl) Hi.out hS.out (by rw [hlz.out]; omega) hSm.out ?_; intro w6 hb6 hg6 hs6; rw [splice_all _ _ (hlz.out.trans hS.out.symm)] at hb6; have hl5 := (fun g hg => H5.out.lt g hg); have H6 := Lib.hid ((H5.out.alloc (.cells Z.toArray 33)).keep (F := (· = w5.heap.size)) (Keep.one hg6) (fun g hg e => by have := hl5 g hg; omega)); have b6 : Below w.heap.size w w6 := below_of_only (b5.alloc s5 _) hg6 (by simp; omega) s5; have x0 : w6.cell? ⟨w5.heap.size, 0, none⟩ = some (.int .u8 7) := (hb6.cell 0).trans G0.out; have x1 : w6.cell? ⟨w5.heap.size, 1, none⟩ = some (.int .u8 7) := (hb6.cell 1).trans G1.out; have x2 : w6.cell? ⟨w5.heap.size, 2, none⟩ = some (.int .u8 0) := (hb6.cell 2).trans G2.out)
        | (go_at_call 26; (with_reducible refine (hleft2 H6.out).mono ?_); rintro e w7 ⟨rfl, rfl⟩)
        | fail "no arm")
      go_ret
      exact ⟨rfl, b6⟩
end Go.Proofs.Ytninidpbchcliaa
