/- Parts: DiskC. -/
import Derived.Test.YtalmdccgpigppaaPr18
import Derived.Test.YtalmdccgpigppaaPr01
namespace Go.Proofs.Ytalmdccgpigppaa
open Go.RowKit
set_option linter.unusedVariables false
set_option linter.unusedSimpArgs false
section
variable {w : World} {base : Nat} {p : DiskP} {A : Option Addr} {c : Nat} {D : DiskV}
set_option maxRecDepth 100000 in
set_option maxHeartbeats 1000000 in
theorem read_no (h : DiskAt w base p A c D) (n : Int) (hn : mayV D n ≠ 0) : Calls Try.prog 107 #[.pointer (some ⟨p.d, 0, none⟩), .int .i64 n] w fun e w' =>
    e = .returned (.tuple #[aggB zerosL, .int .i64 (mayV D n)]) ∧ Below w.heap.size w w' := by
  have hz := (zero_of_info zero128).1
  have Hi := Lib.hid (zero_of_info zero128).2
  have hlz : Hid ((zerosL.map bv).length = 128) := by show _ = _; simp [zerosL_len]
  have H1 := Lib.hid (mem_bv (l := zerosL))
  have hmay : ∀ o, Calls Try.prog 111 #[.pointer (some ⟨p.d, 0, none⟩), .int .i64 n] (w.alloc o) fun e w' => e = .returned (.int .i64 (mayV D n)) ∧ (w.alloc o) = w' := fun o => may_any (h.alloc o) n
  have hne : (mayV D n != 0) = true := by rw [bne_iff_ne]; exact hn
  unfold aggB at *
  generalize zerosL.map bv = Z at *
  generalize mayV D n = z at *
  clear h hn
  go_enter Try.func107, Try.ntmps107
  go_wp2_with (first
    | (go_at_call 111; (with_reducible refine (hmay _).mono ?_); rintro e w1 ⟨rfl, rfl⟩)
    | (refine wpList_store_arr rfl (x := .tmp 4) (y := .tmp 12) rfl rfl rfl (t := 128) (cs := Z) (xs := Z) (Blk.top _ rfl rfl) Hi.out hlz.out (by rw [hlz.out]; omega) H1.out ?_; intro w2 hb2 hg2 hs2; rw [splice_all _ _ rfl] at hb2)
    | fail "no arm")
  refine bodyPost_ret (v := .tuple #[.agg Z.toArray, .int .i64 z]) (results_arr_tmp Try.results107 _ rfl rfl hb2 Try.underlying128 Hi.out hlz.out) rfl ?_
  exact ⟨rfl, below_of_only ((Below.refl _ _).alloc (Nat.le_refl _) _) hg2 (by simp) (Nat.le_refl _)⟩
set_option maxRecDepth 100000 in
set_option maxHeartbeats 1000000 in
theorem read_yes (h : DiskAt w base p A c D) (n : Int) (hn : mayV D n = 0) : Calls Try.prog 107 #[.pointer (some ⟨p.d, 0, none⟩), .int .i64 n] w fun e w' =>
    e = .returned (.tuple #[aggB (secOf D.now n), .int .i64 0]) ∧ DiskAt w' base p A c (readV' D) ∧ Keep (foot p A) w w' := by
  have hz := (zero_of_info zero128).1
  have Hi := Lib.hid (zero_of_info zero128).2
  have hlz : Hid ((zerosL.map bv).length = 128) := by show _ = _; simp [zerosL_len]
  have hmay : ∀ o, Calls Try.prog 111 #[.pointer (some ⟨p.d, 0, none⟩), .int .i64 n] (w.alloc o) fun e w' => e = .returned (.int .i64 (mayV D n)) ∧ (w.alloc o) = w' := fun o => may_any (h.alloc o) n
  rw [hn] at hmay
  obtain ⟨_, h0, h1⟩ := mayV_zero hn
  obtain ⟨k, rfl⟩ : ∃ k : Nat, n = (k : Int) := ⟨n.toNat, by omega⟩
  have hk : k < D.many := by omega
  have hsec := secOf_len h.ok.now h0 h1
  have hadd := fun w' (hm : MeterAt w' p.gc D.ops) => add_any p.gc D.ops 1 1 w' hm
  have c8 := h.cells.2.2.2.2.2.2.2.2
  have hl8 := h.st.lt
  have hH := Lib.hid h
  unfold aggB at *
  generalize hZ : zerosL.map bv = Z at *
  have hsecl : Hid (((secOf D.now (k : Int)).map bv).length = 128) := by show _ = _; simp [hsec]
  have hsm : Hid (∀ v ∈ (secOf D.now (k : Int)).map bv, v.oneCell' = true) := mem_bv
  have hat : Hid ((((D.now.map bv).drop (k * 128)).take 128) = (secOf D.now (k : Int)).map bv) := by show _ = _; unfold secOf; rw [Int.toNat_natCast, List.map_take, List.map_drop]
  generalize (secOf D.now (k : Int)).map bv = S at *
  clear h hn hZ hsec
  go_enter Try.func107, Try.ntmps107
  go_wp2_with (first
    | (go_at_call 111; (with_reducible refine (hmay _).mono ?_); rintro e w1 ⟨rfl, rfl⟩)
    | ((go_at_call 133; (with_reducible refine (hadd _ (hH.out.alloc _).mt).mono ?_); rintro e w2 ⟨rfl, hm2, hg2, hs2⟩); have H2 := Lib.hid ((hH.out.alloc (.cells Z.toArray 128)).turnOps hg2 hm2); have d1 : w2.cell? ⟨p.d, 1, none⟩ = some (.slice (some ⟨p.gn, 0, none⟩) D.many D.many) := H2.out.cells.2.1; have hz2 := Blk.grown (w' := w2) (g := w.heap.size) (t := 128) (cs := Z) (by (repeat' (first | (with_reducible assumption) | (with_reducible refine Blk.top _ (by first | rfl | omega | (simp; done) | (simp; omega)) rfl) | (with_reducible refine Blk.alloc ?_ _) | (with_reducible refine Blk.drew ?_) | (with_reducible refine Blk.drewN ?_ _) | (with_reducible refine Blk.far ?_ (by first | omega | (simp; done) | (simp; omega)) _)))) hg2 (by have := hH.out.mt.2.lt; intro e; injection e with e; omega))
    | (refine wpList_load_arr rfl (x := .tmp 24) rfl rfl H2.out.bn Try.underlying128 Hi.out hsecl.out hat.out ?_)
    | (refine wpList_store_arr rfl (x := .tmp 4) (y := .tmp 25) rfl rfl rfl hz2 Hi.out hsecl.out (by rw [hlz.out]; omega) hsm.out ?_; intro w3 hb3 hg3 hs3; rw [splice_all _ _ (hlz.out.trans hsecl.out.symm)] at hb3)
    | fail "no arm")
  refine bodyPost_ret (v := .tuple #[.agg S.toArray, .int .i64 0]) (results_arr_tmp Try.results107 _ rfl rfl hb3 Try.underlying128 Hi.out hsecl.out) rfl ?_
  have k2 : Keep (foot p A) w w2 := ((Keep.refl _ _).alloc _).then_grown hg2 (fun g e => by injection e with e; exact .inr (.inr (.inr (.inr (.inr (.inl e.symm))))))
  have hlt := fun g hg => hH.out.lt g hg
  refine ⟨rfl, H2.out.keep (F := (· = w.heap.size)) (Keep.one hg3) (fun g hg e => by have := hlt g hg; omega), k2.trans (G := (· = w.heap.size)) (Keep.one hg3) (fun x hx e => by omega)⟩
end
end Go.Proofs.Ytalmdccgpigppaa
