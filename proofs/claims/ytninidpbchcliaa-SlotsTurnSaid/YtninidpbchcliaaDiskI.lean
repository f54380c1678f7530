/- What a disk does: Image. -/
import Derived.Test.YtninidpbchcliaaDiskF
namespace Go.Proofs.Ytninidpbchcliaa
open Go.RowKit
set_option linter.unusedVariables false
set_option linter.unusedSimpArgs false
section
variable {w : World} {base : Nat} {p : DiskP} {A : Option Addr} {c : Nat} {D : DiskV}
theorem run_slice_all {P : Program} {t e : TypeId} {n : Nat} (hu : P.underlying t = some (.array n e)) (hs : (P.info? e).map (·.size) = some 1) (g o : Nat) (W : World) :
    (Instr.sliceAt t (.pointer (some ⟨g, o, none⟩)) none none none).run P W = .ok (.slice (some ⟨g, o, none⟩) n n) W := by
  have e1 : P.arrayLen t = n := by unfold Program.arrayLen; rw [hu]
  have e2 : P.elem t = e := by unfold Program.elem; rw [hu]
  cases hq : P.info? e with
  | none => simp [hq] at hs
  | some i =>
    have hsz : i.size = 1 := by simpa [hq] using hs
    rw [run_sliceAt_array_all W t ⟨g, o, none⟩ (by rw [e1, e2]; exact hu), e2, e1]
    have hso : (sizeOf e).run P W = .ok 1 W := by simp [sizeOf, typeInfo, hq, hsz]
    have hadd : (⟨g, o, none⟩ : Addr).add 0 = ⟨g, o, none⟩ := by simp [Addr.add]
    rw [hso]
    simp [slicedAt, hadd]
theorem take_sec {l : List UInt8} {k : Nat} : l.take (k * 128) ++ (l.drop (k * 128)).take 128 = l.take ((k + 1) * 128) := by
  rw [show (k + 1) * 128 = k * 128 + 128 by omega, List.take_add]
set_option maxRecDepth 100000 in
set_option maxHeartbeats 4000000 in
theorem image_any (h : DiskAt w base p A c D) : Calls Try.prog 25 #[.pointer (some ⟨p.d, 0, none⟩)] w fun e w' => ∃ B N d, e = .returned (.slice B N d) ∧ OB w' w.heap.size 5 B N d D.kept ∧ Below w.heap.size w w' := by
  have his := isd h
  have c0 := h.cells.1
  have hm := h.ok.many1
  have hkl := Lib.hid h.ok.kept
  have H := Lib.hid h
  clear h
  go_enter Try.func25, Try.ntmps25
  go_wp2_with (first
    | (go_at_call 72; (with_reducible refine (his).mono ?_); rintro e w1 ⟨rfl, rfl⟩)
    | fail "no arm")
  go_loopw [3, 4, 13] (fun v _ i wr => ∃ (k : Nat) (B : Option Addr) (d : Nat), k ≤ D.many ∧ i = .int .i64 (k : Nat) ∧ v = .slice B (k * 128) d ∧ OB wr w.heap.size 5 B (k * 128) d (D.kept.take (k * 128)) ∧ Below w.heap.size w wr) (fun _ _ i _ => D.many - (intOf i).toNat)
  case atStart => exact ⟨0, none, 0, by omega, rfl, rfl, Ow.nil _ _ _ _, Below.refl _ _⟩
  case round =>
    obtain ⟨k, B, d, hk, rfl, rfl, hown, hbel⟩ := hrel
    have hbs := hbel.size
    by_cases hlt : k < D.many
    · have hX := H.out.below hbel
      have e0 := hX.cells.1
      have hrd : RB wr (some ⟨p.gk, k * 128, none⟩) 128 ((D.kept.drop (k * 128)).take 128) := hX.bk.rb rfl (by rw [hkl.out]; omega)
      have hcut := run_slice_all (P := Try.prog) Try.underlying33 (by kernel_rfl) p.gk (k * 128)
      have HX := Lib.hid hX
      clear hX
      go_wp2_with (first
        | (at_builtin; refine wpList_app rfl rfl elemU8 bv_one (s := .tmp 16) (N := (k + 1) * 128) (L := D.kept.take ((k + 1) * 128)) rfl (hown.below (b := wr.heap.size) (by (repeat' (first | (with_reducible exact Below.refl _ _) | (with_reducible assumption) | (with_reducible refine Below.drew ?_) | (with_reducible refine below_drewN ?_ _) | (with_reducible refine Below.alloc ?_ ?_ _) | (with_reducible refine Below.setCell ?_ ?_ _) | omega | (simp; done) | (simp; omega)))) (by first | omega | (simp; done) | (simp; omega))) rfl (k := (D.kept.drop (k * 128)).take 128) hrd.rd (by omega) take_sec (by unfold maxLen; omega) (by omega) (by first | omega | (simp; done) | (simp; omega)) ?_; intro A5 c5 w5 hown5 hg5 hat5 hb5; replace hb5 := below_then' (a := w) (B := w.heap.size) (by (repeat' (first | (with_reducible exact Below.refl _ _) | (with_reducible assumption) | (with_reducible refine Below.drew ?_) | (with_reducible refine below_drewN ?_ _) | (with_reducible refine Below.alloc ?_ ?_ _) | (with_reducible refine Below.setCell ?_ ?_ _) | omega | (simp; done) | (simp; omega)))) hb5 (by first | omega | (simp; done) | (simp; omega)); have hb5s := hb5.size)
        | fail "no arm")
      go_roundw
      case rel => first | exact ⟨k + 1, A5, c5, by omega, by go_num, rfl, hown5, hb5⟩ | exact ⟨_, _, _, ⟨k + 1, A5, c5, by omega, by go_num, rfl, hown5, hb5⟩, rfl, rfl, rfl⟩
      case measure => simp [intOf]; omega
    · have hk9 : k = D.many := by omega
      subst hk9
      rw [List.take_of_length_le (by rw [hkl.out]; omega)] at hown
      go_wp2
      go_ret
      exact ⟨B, _, d, rfl, hown, hbel⟩
end
end Go.Proofs.Ytninidpbchcliaa
