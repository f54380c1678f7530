/- Parts: Sq, Region, Script, Tab, PlainNum, NumA. -/
import Derived.Test.YtmeebofhlilcmaaGreatPr01
import Derived.Deep.DeepCutAuto
import Derived.Deep.CutBlock
import Derived.StillTail
import Derived.Laws.MakeOwn
set_option linter.unusedVariables false
set_option linter.unusedSimpArgs false
set_option maxRecDepth 100000
set_option maxHeartbeats 0
namespace Go.Proofs.YtmeebofhlilcmaaGreat
variable {w:World} {p q:Prop} {t:TypeId} {cs:List Value} {n fuel u:Nat} {oi:Oper} {a:Act}
open Go.RowKit
theorem ba {b:Nat}{w':World}(h:Below b w w':=by (repeat' (first | (with_reducible exact Below.refl _ _) | (with_reducible assumption) | (with_reducible refine Below.drew ?_) | (with_reducible refine below_drewN ?_ _) | (with_reducible refine Below.alloc ?_ ?_ _) | (with_reducible refine Below.setCell ?_ ?_ _) | omega | (simp;done) | (simp;omega)))):Below b w w':=h
theorem bq (h:p:=by first | omega | (simp;done) | (simp;omega)):p:=h
theorem bH {g:Nat}(h:Blk w g t cs:=by (repeat' (first | (with_reducible assumption) | (with_reducible refine Blk.top _ (by first | rfl | omega | (simp;done) | (simp;omega)) rfl) | (with_reducible refine Blk.alloc ?_ _) | (with_reducible refine Blk.drew ?_) | (with_reducible refine Blk.drewN ?_ _) | (with_reducible refine Blk.far ?_ (by first | omega | (simp;done) | (simp;omega)) _)))):Blk w g t cs:=h
theorem oK {g:Nat}(h:Blk w g t cs:=by (repeat' (first | (with_reducible assumption) | (with_reducible refine Blk.top _ (by first | rfl | omega | (simp;done) | (simp;omega)) rfl) | (with_reducible refine Blk.alloc ?_ _) | (with_reducible refine Blk.drew ?_) | (with_reducible refine Blk.drewN ?_ _) | (with_reducible refine Blk.setCellsFar (by first | omega | (simp;done) | (simp;omega)) _ _ _ ?_) | (with_reducible refine Blk.far ?_ (by first | omega | (simp;done) | (simp;omega)) _)))):Blk w g t cs:=h
theorem bu (h:q)(e:p=q:=by ((try (conv=>lhs;simp only[List.getElem_toArray,List.getElem_cons_zero,List.getElem_cons_succ,Act.put,List.setIfInBounds_toArray,List.set_cons_zero,List.set_cons_succ]));try exact rfl)):p:=e ▸ h
theorem aS (h:p:=by omega):p:=h
theorem aZ (h:p:=by simp):p:=h
theorem aU (h:p:=by decide):p:=h
theorem bU (h:p:=by unfold maxLen;omega):p:=h
theorem aX :n<=n:=Nat.le_refl n
theorem aT (h:p):Hid p:=Lib.hid h
section
variable {P:Program} {ops:Array Oper} {Q:Exit→Act→World→Prop} {md:Region.Mode} {S:World→Prop}
theorem aV (i:Nat){v:Value}{listed:Array Bool}(h:q)(hi:ops[i]?=some oi:=by rfl)
 (hs:Region.noSelect ops=true:=by decide +kernel) (hf:Region.free md ops listed i=true:=by decide +kernel) (hr:(Region.ready md ops listed).contains i=true:=by decide +kernel)
 (hQ:∀ c a w,Q (.panic c) (a.put oi.dst v) w->Q (.panic c) a w:=by exact fun _ _ _ h=>h)
 (hy:YieldsIf P ops S oi v a:=by (refine Or.inl ⟨by rfl,?_⟩;intro w hSw;(try dsimp only at hSw);go_simp;try (with_reducible rfl))) (hS:S w:=by assumption)
 (e:wpAnyH P md ops Q S fuel (listed.setIfInBounds i true) (a.put oi.dst v) w=q:=by ((try (conv=>lhs;simp only[List.getElem_toArray,List.getElem_cons_zero,List.getElem_cons_succ,Act.put,List.setIfInBounds_toArray,List.set_cons_zero,List.set_cons_succ]));try exact rfl)):wpAnyH P md ops Q S (fuel+1) listed a w :=
 wpAnyH_take hi hs hf hr hQ hy hS (e ▸ h)
theorem bR (i:Nat){listed:Array Bool}(h:q)(hi:ops[i]?=some oi:=by rfl)
 (hs:Region.noSelect ops=true:=by decide +kernel) (hf:Region.free md ops listed i=true:=by decide +kernel) (hr:(Region.ready md ops listed).contains i=true:=by decide +kernel)
 (hQ:∀ c a w,Q (.panic c) (a.put oi.dst undef) w->Q (.panic c) a w:=by exact fun _ _ _ h=>h)
 (hy:YieldsIf P ops S oi undef a:=by exact Or.inr ⟨by rfl,rfl⟩) (hS:S w:=by assumption)
 (e:wpAnyH P md ops Q S fuel (listed.setIfInBounds i true) (a.put oi.dst undef) w=q:=by ((try (conv=>lhs;simp only[List.getElem_toArray,List.getElem_cons_zero,List.getElem_cons_succ,Act.put,List.setIfInBounds_toArray,List.set_cons_zero,List.set_cons_succ]));try exact rfl)):wpAnyH P md ops Q S (fuel+1) listed a w :=
 wpAnyH_take hi hs hf hr hQ hy hS (e ▸ h)
theorem bI (i:Nat){o:Oper}{listed:Array Bool}
 (h:∀ K':Act->World->Prop,Shut (∀ a w,S w->(S w->wpAnyH P md ops Q S fuel (listed.setIfInBounds i true) a w)->K' a w)->if Region.wanted o (yielded ops a.tmps)=true then Oper.wp P o a w K' Q else K' (a.put o.dst undef) w)
 (ho:ops[i]?=some o:=by rfl) (hr:Region.ready md ops listed=[i]:=by decide +kernel):wpAnyH P md ops Q S (fuel+1) listed a w :=
 wpAnyH_ready hr (by simp) (AllReadyH.cons ho h AllReadyH.nil)
theorem qb{P:Prop}(h:P:=by (intro w hSw;(try dsimp only at hSw);obtain⟨s1,s2⟩:=hSw;go_simp;rfl)):P:=h
theorem oL{P:Prop}(h:P:=by (intro w hSw;(try dsimp only at hSw);obtain⟨s1,s2,s3⟩:=hSw;go_simp;rfl)):P:=h
theorem bE{P:Prop}(h:P:=by kernel_rfl):P:=h
theorem bO{P:Prop}(h:P:=by decide +kernel):P:=h
theorem qe{P:Prop}(h:P:=by (repeat' (first | (with_reducible assumption) | (with_reducible refine Blk.top _ (by first | rfl | omega | (simp;done) | (simp;omega)) rfl) | (with_reducible refine Blk.alloc ?_ _) | (with_reducible refine Blk.drew ?_) | (with_reducible refine bx.drewD ?_) | (with_reducible refine bx.alloc ?_ _) | (with_reducible exact Below.refl _ _) | (with_reducible refine Below.drew ?_) | (with_reducible refine Below.alloc ?_ ?_ _) | omega | (simp;done) | (simp;omega)))):P:=h
theorem fP{P:Prop}(h:P:=by rw[List.drop_zero,List.take_of_length_le (by rw[hsl.out];omega)]):P:=h
theorem cY{P:Prop}(h:P:=by simp;try omega):P:=h
theorem cH{P:Prop}(h:P:=by simp;omega):P:=h
theorem eg{P:Prop}(h:P:=by rw[hv.out]):P:=h
theorem jY{P:Prop}(h:P:=by rw[List.drop_zero,List.take_of_length_le (by rw[hlb.out];omega)]):P:=h
theorem qf{P:Prop}(h:P:=by (repeat' (first | (with_reducible assumption) | (with_reducible refine Blk.top _ (by first | rfl | omega | (simp;done) | (simp;omega)) rfl) | (with_reducible refine Blk.alloc ?_ _) | (with_reducible refine Blk.drew ?_) | (with_reducible refine bx.drewD ?_) | (with_reducible refine bx.alloc ?_ _) | (with_reducible exact Below.refl _ _) | (with_reducible refine Below.drew ?_) | (with_reducible refine Below.alloc ?_ ?_ _) | omega | (simp;done) | (simp;omega)))):P:=h
theorem dD{P:Prop}(h:P:=by (exact qb)):P:=h
theorem ly{P:Prop}(h:P:=by first | exact congrArg (fun x=>[x]) hbv.out.symm | (show [_]=[_];congr 1;rw[hbv.out];congr 1;omega)):P:=h
theorem eC{P:Prop}(h:P:=by (exact oL)):P:=h
theorem gd{P:Prop}(h:P:=by rw[hlz.out];omega):P:=h
theorem lz{P:Prop}(h:P:=by (intro w hSw;(try dsimp only at hSw);obtain⟨s1,s2,s3,s4⟩:=hSw;go_simp;rfl)):P:=h
theorem jZ{P:Prop}(h:P:=by simp[results,Tryz.results51,go_sem ,q0,q1]):P:=h
theorem oM{P:Prop}(h:P:=by have q:=X1.out.cell 2;rw[show slotC ga gb s' B0 n0 d0=[.pointer (some ⟨ga,0,none⟩),.pointer (some ⟨gb,0,none⟩),I (nowI s'.now),I s'.number,.slice B0 n0 d0] from rfl,H22.out] at q;exact q):P:=h
theorem mH{P:Prop}(h:P:=by rw[hVS.out,List.drop_succ_cons,List.drop_zero,List.take_of_length_le (by rw[hSl.out];omega)]):P:=h
theorem kF{P:Prop}(h:P:=by first | rfl | (simp;done) | (simp;omega)):P:=h
theorem gH{P:Prop}(h:P:=by assumption):P:=h
theorem qg{P:Prop}(h:P:=by (repeat' (first | (with_reducible assumption) | (with_reducible refine Blk.top _ (by first | rfl | omega | (simp;done) | (simp;omega)) rfl) | (with_reducible refine Blk.alloc ?_ _) | (with_reducible refine Blk.drew ?_) | (with_reducible refine bx.drewD ?_) | (with_reducible refine bx.alloc ?_ _) | (with_reducible exact Below.refl _ _) | (with_reducible refine Below.drew ?_) | (with_reducible refine Below.alloc ?_ ?_ _) | omega | (simp;done) | (simp;omega)))):P:=h
theorem mI{P:Prop}(h:P:=by simp[results,Tryz.results135,go_sem ,q0,q1,q2,q3,q4,q5,q6,q7,q8,q9]):P:=h
theorem mJ{P:Prop}(h:P:=by simp[results,Tryz.results99,go_sem ,r0,r1,r2,r3,r4,r5,r6,r7,r8,r9]):P:=h
theorem mK{P:Prop}(h:P:=by rw[List.drop_zero,List.take_of_length_le (by rw[HL.out];omega)]):P:=h
theorem iB{P:Prop}(h:P:=by rw[e1];simp):P:=h
theorem iC{P:Prop}(h:P:=by rw[b1];simp):P:=h
theorem j7{P:Prop}(h:P:=by have:=HJ4.out.lt;omega):P:=h
theorem ju{P:Prop}(h:P:=by rw[Hl.out];omega):P:=h
theorem j8{P:Prop}(h:P:=by have:=hb.size;omega):P:=h
theorem iD{P:Prop}(h:P:=by simp[gI]):P:=h
theorem oN{P:Prop}(h:P:=by have q9:=mL (some ⟨gh,oh,none⟩) d (L.take 8) w1 ((o1.rd.take_ aS).rb);rw[HN.out] at q9;exact q9):P:=h
theorem qh{P:Prop}(h:P:=by (repeat' (first | (with_reducible assumption) | (with_reducible refine Blk.top _ (by first | rfl | omega | (simp;done) | (simp;omega)) rfl) | (with_reducible refine Blk.alloc ?_ _) | (with_reducible refine Blk.drew ?_) | (with_reducible refine bx.drewD ?_) | (with_reducible refine bx.alloc ?_ _) | (with_reducible exact Below.refl _ _) | (with_reducible refine Below.drew ?_) | (with_reducible refine Below.alloc ?_ ?_ _) | omega | (simp;done) | (simp;omega)))):P:=h
theorem mM{P:Prop}(h:P:=by simp[results,Tryz.results161,go_sem,j10,j11,j12]):P:=h
theorem kG{P:Prop}(h:P:=by simp[UInt8.size];omega):P:=h
theorem kH{P:Prop}(h:P:=by rw[hlen.out];exact hlt):P:=h
theorem oO{P:Prop}(h:P:=by first | exact hz.out.symm | (rw[hz.out];done) | (rw[hz.out];simp;done) | (rw[hz.out];simp;omega)):P:=h
theorem oP{P:Prop}(h:P:=by unfold Func.isWrapper;first | (rw[if_pos bO];kernel_rfl) | (rw[if_neg bO];exact⟨rfl,rfl⟩)):P:=h
theorem jd{P:Prop}(h:P:=by rw[n1];simp):P:=h
theorem je{P:Prop}(h:P:=by rw[d1];simp):P:=h
theorem oQ{P:Prop}(h:P:=by simp[results,Tryz.results214,go_sem,HO.out,oneT,hwn,E1.out,E2.out,E3.out,E4.out,E5.out,E6.out]):P:=h
theorem lA{P:Prop}(h:P:=by show w.heap.size+2≠g5;omega):P:=h
theorem j9{P:Prop}(h:P:=by rw[eo];exact hfm):P:=h
theorem qi{P:Prop}(h:P:=by (repeat' (first | (with_reducible assumption) | (with_reducible refine Blk.top _ (by first | rfl | omega | (simp;done) | (simp;omega)) rfl) | (with_reducible refine Blk.alloc ?_ _) | (with_reducible refine Blk.drew ?_) | (with_reducible refine bx.drewD ?_) | (with_reducible refine bx.alloc ?_ _) | (with_reducible exact Below.refl _ _) | (with_reducible refine Below.drew ?_) | (with_reducible refine Below.alloc ?_ ?_ _) | omega | (simp;done) | (simp;omega)))):P:=h
theorem mN{P:Prop}(h:P:=by (intro w hSw;(try dsimp only at hSw);go_simp;rfl)):P:=h
theorem lC{P:Prop}(h:P:=by show w.heap.size≤g5;omega):P:=h
theorem kI{P:Prop}(h:P:=by have:=s2.size;omega):P:=h
theorem lD{P:Prop}(h:P:=by rw[List.length_take];omega):P:=h
theorem oR{P:Prop}(h:P:=by rw[hz2.out,Bool.eq_iff_iff];simp only[Bool.and_eq_true,decide_eq_true_eq];omega):P:=h
theorem ka{P:Prop}(h:P:=by rw[hl];omega):P:=h
theorem oS{P:Prop}(h:P:=by (intro w hSw;(try dsimp only at hSw);obtain⟨s1,s3,s5⟩:=hSw;go_simp;rfl)):P:=h
theorem mO{P:Prop}(h:P:=by rw[e];exact List.mem_cons_self ..):P:=h
theorem mP{P:Prop}(h:P:=by have:=s2.size;have:=b3.size;omega):P:=h
theorem qk{P:Prop}(h:P:=by (repeat' (first | (with_reducible assumption) | (with_reducible refine Blk.top _ (by first | rfl | omega | (simp;done) | (simp;omega)) rfl) | (with_reducible refine Blk.alloc ?_ _) | (with_reducible refine Blk.drew ?_) | (with_reducible refine bx.drewD ?_) | (with_reducible refine bx.alloc ?_ _) | (with_reducible exact Below.refl _ _) | (with_reducible refine Below.drew ?_) | (with_reducible refine Below.alloc ?_ ?_ _) | omega | (simp;done) | (simp;omega)))):P:=h
theorem ql{P:Prop}(h:P:=by (repeat' (first | (with_reducible assumption) | (with_reducible refine Blk.top _ (by first | rfl | omega | (simp;done) | (simp;omega)) rfl) | (with_reducible refine Blk.alloc ?_ _) | (with_reducible refine Blk.drew ?_) | (with_reducible refine bx.drewD ?_) | (with_reducible refine bx.alloc ?_ _) | (with_reducible exact Below.refl _ _) | (with_reducible refine Below.drew ?_) | (with_reducible refine Below.alloc ?_ ?_ _) | omega | (simp;done) | (simp;omega)))):P:=h
theorem qm{P:Prop}(h:P:=by (repeat' (first | (with_reducible assumption) | (with_reducible refine Blk.top _ (by first | rfl | omega | (simp;done) | (simp;omega)) rfl) | (with_reducible refine Blk.alloc ?_ _) | (with_reducible refine Blk.drew ?_) | (with_reducible refine bx.drewD ?_) | (with_reducible refine bx.alloc ?_ _) | (with_reducible exact Below.refl _ _) | (with_reducible refine Below.drew ?_) | (with_reducible refine Below.alloc ?_ ?_ _) | omega | (simp;done) | (simp;omega)))):P:=h
theorem qn{P:Prop}(h:P:=by (repeat' (first | (with_reducible assumption) | (with_reducible refine Blk.top _ (by first | rfl | omega | (simp;done) | (simp;omega)) rfl) | (with_reducible refine Blk.alloc ?_ _) | (with_reducible refine Blk.drew ?_) | (with_reducible refine bx.drewD ?_) | (with_reducible refine bx.alloc ?_ _) | (with_reducible exact Below.refl _ _) | (with_reducible refine Below.drew ?_) | (with_reducible refine Below.alloc ?_ ?_ _) | omega | (simp;done) | (simp;omega)))):P:=h
theorem qo{P:Prop}(h:P:=by (repeat' (first | (with_reducible assumption) | (with_reducible refine Blk.top _ (by first | rfl | omega | (simp;done) | (simp;omega)) rfl) | (with_reducible refine Blk.alloc ?_ _) | (with_reducible refine Blk.drew ?_) | (with_reducible refine bx.drewD ?_) | (with_reducible refine bx.alloc ?_ _) | (with_reducible exact Below.refl _ _) | (with_reducible refine Below.drew ?_) | (with_reducible refine Below.alloc ?_ ?_ _) | omega | (simp;done) | (simp;omega)))):P:=h
theorem qp{P:Prop}(h:P:=by (repeat' (first | (with_reducible assumption) | (with_reducible refine Blk.top _ (by first | rfl | omega | (simp;done) | (simp;omega)) rfl) | (with_reducible refine Blk.alloc ?_ _) | (with_reducible refine Blk.drew ?_) | (with_reducible refine bx.drewD ?_) | (with_reducible refine bx.alloc ?_ _) | (with_reducible exact Below.refl _ _) | (with_reducible refine Below.drew ?_) | (with_reducible refine Below.alloc ?_ ?_ _) | omega | (simp;done) | (simp;omega)))):P:=h
theorem qq{P:Prop}(h:P:=by (repeat' (first | (with_reducible assumption) | (with_reducible refine Blk.top _ (by first | rfl | omega | (simp;done) | (simp;omega)) rfl) | (with_reducible refine Blk.alloc ?_ _) | (with_reducible refine Blk.drew ?_) | (with_reducible refine bx.drewD ?_) | (with_reducible refine bx.alloc ?_ _) | (with_reducible exact Below.refl _ _) | (with_reducible refine Below.drew ?_) | (with_reducible refine Below.alloc ?_ ?_ _) | omega | (simp;done) | (simp;omega)))):P:=h
theorem qr{P:Prop}(h:P:=by (repeat' (first | (with_reducible assumption) | (with_reducible refine Blk.top _ (by first | rfl | omega | (simp;done) | (simp;omega)) rfl) | (with_reducible refine Blk.alloc ?_ _) | (with_reducible refine Blk.drew ?_) | (with_reducible refine bx.drewD ?_) | (with_reducible refine bx.alloc ?_ _) | (with_reducible exact Below.refl _ _) | (with_reducible refine Below.drew ?_) | (with_reducible refine Below.alloc ?_ ?_ _) | omega | (simp;done) | (simp;omega)))):P:=h
theorem qs{P:Prop}(h:P:=by (repeat' (first | (with_reducible assumption) | (with_reducible refine Blk.top _ (by first | rfl | omega | (simp;done) | (simp;omega)) rfl) | (with_reducible refine Blk.alloc ?_ _) | (with_reducible refine Blk.drew ?_) | (with_reducible refine bx.drewD ?_) | (with_reducible refine bx.alloc ?_ _) | (with_reducible exact Below.refl _ _) | (with_reducible refine Below.drew ?_) | (with_reducible refine Below.alloc ?_ ?_ _) | omega | (simp;done) | (simp;omega)))):P:=h
theorem qt{P:Prop}(h:P:=by (repeat' (first | (with_reducible assumption) | (with_reducible refine Blk.top _ (by first | rfl | omega | (simp;done) | (simp;omega)) rfl) | (with_reducible refine Blk.alloc ?_ _) | (with_reducible refine Blk.drew ?_) | (with_reducible refine bx.drewD ?_) | (with_reducible refine bx.alloc ?_ _) | (with_reducible exact Below.refl _ _) | (with_reducible refine Below.drew ?_) | (with_reducible refine Below.alloc ?_ ?_ _) | omega | (simp;done) | (simp;omega)))):P:=h
theorem qu{P:Prop}(h:P:=by (repeat' (first | (with_reducible assumption) | (with_reducible refine Blk.top _ (by first | rfl | omega | (simp;done) | (simp;omega)) rfl) | (with_reducible refine Blk.alloc ?_ _) | (with_reducible refine Blk.drew ?_) | (with_reducible refine bx.drewD ?_) | (with_reducible refine bx.alloc ?_ _) | (with_reducible exact Below.refl _ _) | (with_reducible refine Below.drew ?_) | (with_reducible refine Below.alloc ?_ ?_ _) | omega | (simp;done) | (simp;omega)))):P:=h
theorem qv{P:Prop}(h:P:=by (repeat' (first | (with_reducible assumption) | (with_reducible refine Blk.top _ (by first | rfl | omega | (simp;done) | (simp;omega)) rfl) | (with_reducible refine Blk.alloc ?_ _) | (with_reducible refine Blk.drew ?_) | (with_reducible refine bx.drewD ?_) | (with_reducible refine bx.alloc ?_ _) | (with_reducible exact Below.refl _ _) | (with_reducible refine Below.drew ?_) | (with_reducible refine Below.alloc ?_ ?_ _) | omega | (simp;done) | (simp;omega)))):P:=h
theorem qw{P:Prop}(h:P:=by (repeat' (first | (with_reducible assumption) | (with_reducible refine Blk.top _ (by first | rfl | omega | (simp;done) | (simp;omega)) rfl) | (with_reducible refine Blk.alloc ?_ _) | (with_reducible refine Blk.drew ?_) | (with_reducible refine bx.drewD ?_) | (with_reducible refine bx.alloc ?_ _) | (with_reducible exact Below.refl _ _) | (with_reducible refine Below.drew ?_) | (with_reducible refine Below.alloc ?_ ?_ _) | omega | (simp;done) | (simp;omega)))):P:=h
theorem qx{P:Prop}(h:P:=by (repeat' (first | (with_reducible assumption) | (with_reducible refine Blk.top _ (by first | rfl | omega | (simp;done) | (simp;omega)) rfl) | (with_reducible refine Blk.alloc ?_ _) | (with_reducible refine Blk.drew ?_) | (with_reducible refine bx.drewD ?_) | (with_reducible refine bx.alloc ?_ _) | (with_reducible exact Below.refl _ _) | (with_reducible refine Below.drew ?_) | (with_reducible refine Below.alloc ?_ ?_ _) | omega | (simp;done) | (simp;omega)))):P:=h
theorem qy{P:Prop}(h:P:=by (repeat' (first | (with_reducible assumption) | (with_reducible refine Blk.top _ (by first | rfl | omega | (simp;done) | (simp;omega)) rfl) | (with_reducible refine Blk.alloc ?_ _) | (with_reducible refine Blk.drew ?_) | (with_reducible refine bx.drewD ?_) | (with_reducible refine bx.alloc ?_ _) | (with_reducible exact Below.refl _ _) | (with_reducible refine Below.drew ?_) | (with_reducible refine Below.alloc ?_ ?_ _) | omega | (simp;done) | (simp;omega)))):P:=h
theorem qz{P:Prop}(h:P:=by (repeat' (first | (with_reducible assumption) | (with_reducible refine Blk.top _ (by first | rfl | omega | (simp;done) | (simp;omega)) rfl) | (with_reducible refine Blk.alloc ?_ _) | (with_reducible refine Blk.drew ?_) | (with_reducible refine bx.drewD ?_) | (with_reducible refine bx.alloc ?_ _) | (with_reducible exact Below.refl _ _) | (with_reducible refine Below.drew ?_) | (with_reducible refine Below.alloc ?_ ?_ _) | omega | (simp;done) | (simp;omega)))):P:=h
theorem qA{P:Prop}(h:P:=by (repeat' (first | (with_reducible assumption) | (with_reducible refine Blk.top _ (by first | rfl | omega | (simp;done) | (simp;omega)) rfl) | (with_reducible refine Blk.alloc ?_ _) | (with_reducible refine Blk.drew ?_) | (with_reducible refine bx.drewD ?_) | (with_reducible refine bx.alloc ?_ _) | (with_reducible exact Below.refl _ _) | (with_reducible refine Below.drew ?_) | (with_reducible refine Below.alloc ?_ ?_ _) | omega | (simp;done) | (simp;omega)))):P:=h
theorem qB{P:Prop}(h:P:=by (repeat' (first | (with_reducible assumption) | (with_reducible refine Blk.top _ (by first | rfl | omega | (simp;done) | (simp;omega)) rfl) | (with_reducible refine Blk.alloc ?_ _) | (with_reducible refine Blk.drew ?_) | (with_reducible refine bx.drewD ?_) | (with_reducible refine bx.alloc ?_ _) | (with_reducible exact Below.refl _ _) | (with_reducible refine Below.drew ?_) | (with_reducible refine Below.alloc ?_ ?_ _) | omega | (simp;done) | (simp;omega)))):P:=h
theorem qC{P:Prop}(h:P:=by (repeat' (first | (with_reducible assumption) | (with_reducible refine Blk.top _ (by first | rfl | omega | (simp;done) | (simp;omega)) rfl) | (with_reducible refine Blk.alloc ?_ _) | (with_reducible refine Blk.drew ?_) | (with_reducible refine bx.drewD ?_) | (with_reducible refine bx.alloc ?_ _) | (with_reducible exact Below.refl _ _) | (with_reducible refine Below.drew ?_) | (with_reducible refine Below.alloc ?_ ?_ _) | omega | (simp;done) | (simp;omega)))):P:=h
theorem qD{P:Prop}(h:P:=by (repeat' (first | (with_reducible assumption) | (with_reducible refine Blk.top _ (by first | rfl | omega | (simp;done) | (simp;omega)) rfl) | (with_reducible refine Blk.alloc ?_ _) | (with_reducible refine Blk.drew ?_) | (with_reducible refine bx.drewD ?_) | (with_reducible refine bx.alloc ?_ _) | (with_reducible exact Below.refl _ _) | (with_reducible refine Below.drew ?_) | (with_reducible refine Below.alloc ?_ ?_ _) | omega | (simp;done) | (simp;omega)))):P:=h
theorem qE{P:Prop}(h:P:=by (repeat' (first | (with_reducible assumption) | (with_reducible refine Blk.top _ (by first | rfl | omega | (simp;done) | (simp;omega)) rfl) | (with_reducible refine Blk.alloc ?_ _) | (with_reducible refine Blk.drew ?_) | (with_reducible refine bx.drewD ?_) | (with_reducible refine bx.alloc ?_ _) | (with_reducible exact Below.refl _ _) | (with_reducible refine Below.drew ?_) | (with_reducible refine Below.alloc ?_ ?_ _) | omega | (simp;done) | (simp;omega)))):P:=h
theorem qF{P:Prop}(h:P:=by (repeat' (first | (with_reducible assumption) | (with_reducible refine Blk.top _ (by first | rfl | omega | (simp;done) | (simp;omega)) rfl) | (with_reducible refine Blk.alloc ?_ _) | (with_reducible refine Blk.drew ?_) | (with_reducible refine bx.drewD ?_) | (with_reducible refine bx.alloc ?_ _) | (with_reducible exact Below.refl _ _) | (with_reducible refine Below.drew ?_) | (with_reducible refine Below.alloc ?_ ?_ _) | omega | (simp;done) | (simp;omega)))):P:=h
theorem qG{P:Prop}(h:P:=by (repeat' (first | (with_reducible assumption) | (with_reducible refine Blk.top _ (by first | rfl | omega | (simp;done) | (simp;omega)) rfl) | (with_reducible refine Blk.alloc ?_ _) | (with_reducible refine Blk.drew ?_) | (with_reducible refine bx.drewD ?_) | (with_reducible refine bx.alloc ?_ _) | (with_reducible exact Below.refl _ _) | (with_reducible refine Below.drew ?_) | (with_reducible refine Below.alloc ?_ ?_ _) | omega | (simp;done) | (simp;omega)))):P:=h
theorem qH{P:Prop}(h:P:=by (repeat' (first | (with_reducible assumption) | (with_reducible refine Blk.top _ (by first | rfl | omega | (simp;done) | (simp;omega)) rfl) | (with_reducible refine Blk.alloc ?_ _) | (with_reducible refine Blk.drew ?_) | (with_reducible refine bx.drewD ?_) | (with_reducible refine bx.alloc ?_ _) | (with_reducible exact Below.refl _ _) | (with_reducible refine Below.drew ?_) | (with_reducible refine Below.alloc ?_ ?_ _) | omega | (simp;done) | (simp;omega)))):P:=h
theorem qI{P:Prop}(h:P:=by (repeat' (first | (with_reducible assumption) | (with_reducible refine Blk.top _ (by first | rfl | omega | (simp;done) | (simp;omega)) rfl) | (with_reducible refine Blk.alloc ?_ _) | (with_reducible refine Blk.drew ?_) | (with_reducible refine bx.drewD ?_) | (with_reducible refine bx.alloc ?_ _) | (with_reducible exact Below.refl _ _) | (with_reducible refine Below.drew ?_) | (with_reducible refine Below.alloc ?_ ?_ _) | omega | (simp;done) | (simp;omega)))):P:=h
theorem qJ{P:Prop}(h:P:=by (repeat' (first | (with_reducible assumption) | (with_reducible refine Blk.top _ (by first | rfl | omega | (simp;done) | (simp;omega)) rfl) | (with_reducible refine Blk.alloc ?_ _) | (with_reducible refine Blk.drew ?_) | (with_reducible refine bx.drewD ?_) | (with_reducible refine bx.alloc ?_ _) | (with_reducible exact Below.refl _ _) | (with_reducible refine Below.drew ?_) | (with_reducible refine Below.alloc ?_ ?_ _) | omega | (simp;done) | (simp;omega)))):P:=h
theorem qK{P:Prop}(h:P:=by (repeat' (first | (with_reducible assumption) | (with_reducible refine Blk.top _ (by first | rfl | omega | (simp;done) | (simp;omega)) rfl) | (with_reducible refine Blk.alloc ?_ _) | (with_reducible refine Blk.drew ?_) | (with_reducible refine bx.drewD ?_) | (with_reducible refine bx.alloc ?_ _) | (with_reducible exact Below.refl _ _) | (with_reducible refine Below.drew ?_) | (with_reducible refine Below.alloc ?_ ?_ _) | omega | (simp;done) | (simp;omega)))):P:=h
theorem qL{P:Prop}(h:P:=by (repeat' (first | (with_reducible assumption) | (with_reducible refine Blk.top _ (by first | rfl | omega | (simp;done) | (simp;omega)) rfl) | (with_reducible refine Blk.alloc ?_ _) | (with_reducible refine Blk.drew ?_) | (with_reducible refine bx.drewD ?_) | (with_reducible refine bx.alloc ?_ _) | (with_reducible exact Below.refl _ _) | (with_reducible refine Below.drew ?_) | (with_reducible refine Below.alloc ?_ ?_ _) | omega | (simp;done) | (simp;omega)))):P:=h
theorem qM{P:Prop}(h:P:=by (repeat' (first | (with_reducible assumption) | (with_reducible refine Blk.top _ (by first | rfl | omega | (simp;done) | (simp;omega)) rfl) | (with_reducible refine Blk.alloc ?_ _) | (with_reducible refine Blk.drew ?_) | (with_reducible refine bx.drewD ?_) | (with_reducible refine bx.alloc ?_ _) | (with_reducible exact Below.refl _ _) | (with_reducible refine Below.drew ?_) | (with_reducible refine Below.alloc ?_ ?_ _) | omega | (simp;done) | (simp;omega)))):P:=h
theorem qN{P:Prop}(h:P:=by (repeat' (first | (with_reducible assumption) | (with_reducible refine Blk.top _ (by first | rfl | omega | (simp;done) | (simp;omega)) rfl) | (with_reducible refine Blk.alloc ?_ _) | (with_reducible refine Blk.drew ?_) | (with_reducible refine bx.drewD ?_) | (with_reducible refine bx.alloc ?_ _) | (with_reducible exact Below.refl _ _) | (with_reducible refine Below.drew ?_) | (with_reducible refine Below.alloc ?_ ?_ _) | omega | (simp;done) | (simp;omega)))):P:=h
theorem qO{P:Prop}(h:P:=by (repeat' (first | (with_reducible assumption) | (with_reducible refine Blk.top _ (by first | rfl | omega | (simp;done) | (simp;omega)) rfl) | (with_reducible refine Blk.alloc ?_ _) | (with_reducible refine Blk.drew ?_) | (with_reducible refine bx.drewD ?_) | (with_reducible refine bx.alloc ?_ _) | (with_reducible exact Below.refl _ _) | (with_reducible refine Below.drew ?_) | (with_reducible refine Below.alloc ?_ ?_ _) | omega | (simp;done) | (simp;omega)))):P:=h
theorem qP{P:Prop}(h:P:=by (repeat' (first | (with_reducible assumption) | (with_reducible refine Blk.top _ (by first | rfl | omega | (simp;done) | (simp;omega)) rfl) | (with_reducible refine Blk.alloc ?_ _) | (with_reducible refine Blk.drew ?_) | (with_reducible refine bx.drewD ?_) | (with_reducible refine bx.alloc ?_ _) | (with_reducible exact Below.refl _ _) | (with_reducible refine Below.drew ?_) | (with_reducible refine Below.alloc ?_ ?_ _) | omega | (simp;done) | (simp;omega)))):P:=h
theorem qQ{P:Prop}(h:P:=by (repeat' (first | (with_reducible assumption) | (with_reducible refine Blk.top _ (by first | rfl | omega | (simp;done) | (simp;omega)) rfl) | (with_reducible refine Blk.alloc ?_ _) | (with_reducible refine Blk.drew ?_) | (with_reducible refine bx.drewD ?_) | (with_reducible refine bx.alloc ?_ _) | (with_reducible exact Below.refl _ _) | (with_reducible refine Below.drew ?_) | (with_reducible refine Below.alloc ?_ ?_ _) | omega | (simp;done) | (simp;omega)))):P:=h
theorem qR{P:Prop}(h:P:=by (repeat' (first | (with_reducible assumption) | (with_reducible refine Blk.top _ (by first | rfl | omega | (simp;done) | (simp;omega)) rfl) | (with_reducible refine Blk.alloc ?_ _) | (with_reducible refine Blk.drew ?_) | (with_reducible refine bx.drewD ?_) | (with_reducible refine bx.alloc ?_ _) | (with_reducible exact Below.refl _ _) | (with_reducible refine Below.drew ?_) | (with_reducible refine Below.alloc ?_ ?_ _) | omega | (simp;done) | (simp;omega)))):P:=h
theorem qS{P:Prop}(h:P:=by (repeat' (first | (with_reducible assumption) | (with_reducible refine Blk.top _ (by first | rfl | omega | (simp;done) | (simp;omega)) rfl) | (with_reducible refine Blk.alloc ?_ _) | (with_reducible refine Blk.drew ?_) | (with_reducible refine bx.drewD ?_) | (with_reducible refine bx.alloc ?_ _) | (with_reducible exact Below.refl _ _) | (with_reducible refine Below.drew ?_) | (with_reducible refine Below.alloc ?_ ?_ _) | omega | (simp;done) | (simp;omega)))):P:=h
theorem qT{P:Prop}(h:P:=by (repeat' (first | (with_reducible assumption) | (with_reducible refine Blk.top _ (by first | rfl | omega | (simp;done) | (simp;omega)) rfl) | (with_reducible refine Blk.alloc ?_ _) | (with_reducible refine Blk.drew ?_) | (with_reducible refine bx.drewD ?_) | (with_reducible refine bx.alloc ?_ _) | (with_reducible exact Below.refl _ _) | (with_reducible refine Below.drew ?_) | (with_reducible refine Below.alloc ?_ ?_ _) | omega | (simp;done) | (simp;omega)))):P:=h
theorem qU{P:Prop}(h:P:=by (repeat' (first | (with_reducible assumption) | (with_reducible refine Blk.top _ (by first | rfl | omega | (simp;done) | (simp;omega)) rfl) | (with_reducible refine Blk.alloc ?_ _) | (with_reducible refine Blk.drew ?_) | (with_reducible refine bx.drewD ?_) | (with_reducible refine bx.alloc ?_ _) | (with_reducible exact Below.refl _ _) | (with_reducible refine Below.drew ?_) | (with_reducible refine Below.alloc ?_ ?_ _) | omega | (simp;done) | (simp;omega)))):P:=h
theorem qV{P:Prop}(h:P:=by (repeat' (first | (with_reducible assumption) | (with_reducible refine Blk.top _ (by first | rfl | omega | (simp;done) | (simp;omega)) rfl) | (with_reducible refine Blk.alloc ?_ _) | (with_reducible refine Blk.drew ?_) | (with_reducible refine bx.drewD ?_) | (with_reducible refine bx.alloc ?_ _) | (with_reducible exact Below.refl _ _) | (with_reducible refine Below.drew ?_) | (with_reducible refine Below.alloc ?_ ?_ _) | omega | (simp;done) | (simp;omega)))):P:=h
theorem qW{P:Prop}(h:P:=by (repeat' (first | (with_reducible assumption) | (with_reducible refine Blk.top _ (by first | rfl | omega | (simp;done) | (simp;omega)) rfl) | (with_reducible refine Blk.alloc ?_ _) | (with_reducible refine Blk.drew ?_) | (with_reducible refine bx.drewD ?_) | (with_reducible refine bx.alloc ?_ _) | (with_reducible exact Below.refl _ _) | (with_reducible refine Below.drew ?_) | (with_reducible refine Below.alloc ?_ ?_ _) | omega | (simp;done) | (simp;omega)))):P:=h
theorem qX{P:Prop}(h:P:=by (repeat' (first | (with_reducible assumption) | (with_reducible refine Blk.top _ (by first | rfl | omega | (simp;done) | (simp;omega)) rfl) | (with_reducible refine Blk.alloc ?_ _) | (with_reducible refine Blk.drew ?_) | (with_reducible refine bx.drewD ?_) | (with_reducible refine bx.alloc ?_ _) | (with_reducible exact Below.refl _ _) | (with_reducible refine Below.drew ?_) | (with_reducible refine Below.alloc ?_ ?_ _) | omega | (simp;done) | (simp;omega)))):P:=h
theorem qY{P:Prop}(h:P:=by (repeat' (first | (with_reducible assumption) | (with_reducible refine Blk.top _ (by first | rfl | omega | (simp;done) | (simp;omega)) rfl) | (with_reducible refine Blk.alloc ?_ _) | (with_reducible refine Blk.drew ?_) | (with_reducible refine bx.drewD ?_) | (with_reducible refine bx.alloc ?_ _) | (with_reducible exact Below.refl _ _) | (with_reducible refine Below.drew ?_) | (with_reducible refine Below.alloc ?_ ?_ _) | omega | (simp;done) | (simp;omega)))):P:=h
theorem qZ{P:Prop}(h:P:=by (repeat' (first | (with_reducible assumption) | (with_reducible refine Blk.top _ (by first | rfl | omega | (simp;done) | (simp;omega)) rfl) | (with_reducible refine Blk.alloc ?_ _) | (with_reducible refine Blk.drew ?_) | (with_reducible refine bx.drewD ?_) | (with_reducible refine bx.alloc ?_ _) | (with_reducible exact Below.refl _ _) | (with_reducible refine Below.drew ?_) | (with_reducible refine Below.alloc ?_ ?_ _) | omega | (simp;done) | (simp;omega)))):P:=h
theorem re{P:Prop}(h:P:=by (repeat' (first | (with_reducible assumption) | (with_reducible refine Blk.top _ (by first | rfl | omega | (simp;done) | (simp;omega)) rfl) | (with_reducible refine Blk.alloc ?_ _) | (with_reducible refine Blk.drew ?_) | (with_reducible refine bx.drewD ?_) | (with_reducible refine bx.alloc ?_ _) | (with_reducible exact Below.refl _ _) | (with_reducible refine Below.drew ?_) | (with_reducible refine Below.alloc ?_ ?_ _) | omega | (simp;done) | (simp;omega)))):P:=h
theorem rf{P:Prop}(h:P:=by (repeat' (first | (with_reducible assumption) | (with_reducible refine Blk.top _ (by first | rfl | omega | (simp;done) | (simp;omega)) rfl) | (with_reducible refine Blk.alloc ?_ _) | (with_reducible refine Blk.drew ?_) | (with_reducible refine bx.drewD ?_) | (with_reducible refine bx.alloc ?_ _) | (with_reducible exact Below.refl _ _) | (with_reducible refine Below.drew ?_) | (with_reducible refine Below.alloc ?_ ?_ _) | omega | (simp;done) | (simp;omega)))):P:=h
theorem rg{P:Prop}(h:P:=by (repeat' (first | (with_reducible assumption) | (with_reducible refine Blk.top _ (by first | rfl | omega | (simp;done) | (simp;omega)) rfl) | (with_reducible refine Blk.alloc ?_ _) | (with_reducible refine Blk.drew ?_) | (with_reducible refine bx.drewD ?_) | (with_reducible refine bx.alloc ?_ _) | (with_reducible exact Below.refl _ _) | (with_reducible refine Below.drew ?_) | (with_reducible refine Below.alloc ?_ ?_ _) | omega | (simp;done) | (simp;omega)))):P:=h
theorem rh{P:Prop}(h:P:=by (repeat' (first | (with_reducible assumption) | (with_reducible refine Blk.top _ (by first | rfl | omega | (simp;done) | (simp;omega)) rfl) | (with_reducible refine Blk.alloc ?_ _) | (with_reducible refine Blk.drew ?_) | (with_reducible refine bx.drewD ?_) | (with_reducible refine bx.alloc ?_ _) | (with_reducible exact Below.refl _ _) | (with_reducible refine Below.drew ?_) | (with_reducible refine Below.alloc ?_ ?_ _) | omega | (simp;done) | (simp;omega)))):P:=h
theorem rj{P:Prop}(h:P:=by (repeat' (first | (with_reducible assumption) | (with_reducible refine Blk.top _ (by first | rfl | omega | (simp;done) | (simp;omega)) rfl) | (with_reducible refine Blk.alloc ?_ _) | (with_reducible refine Blk.drew ?_) | (with_reducible refine bx.drewD ?_) | (with_reducible refine bx.alloc ?_ _) | (with_reducible exact Below.refl _ _) | (with_reducible refine Below.drew ?_) | (with_reducible refine Below.alloc ?_ ?_ _) | omega | (simp;done) | (simp;omega)))):P:=h
theorem rk{P:Prop}(h:P:=by (repeat' (first | (with_reducible assumption) | (with_reducible refine Blk.top _ (by first | rfl | omega | (simp;done) | (simp;omega)) rfl) | (with_reducible refine Blk.alloc ?_ _) | (with_reducible refine Blk.drew ?_) | (with_reducible refine bx.drewD ?_) | (with_reducible refine bx.alloc ?_ _) | (with_reducible exact Below.refl _ _) | (with_reducible refine Below.drew ?_) | (with_reducible refine Below.alloc ?_ ?_ _) | omega | (simp;done) | (simp;omega)))):P:=h
theorem rm{P:Prop}(h:P:=by (repeat' (first | (with_reducible assumption) | (with_reducible refine Blk.top _ (by first | rfl | omega | (simp;done) | (simp;omega)) rfl) | (with_reducible refine Blk.alloc ?_ _) | (with_reducible refine Blk.drew ?_) | (with_reducible refine bx.drewD ?_) | (with_reducible refine bx.alloc ?_ _) | (with_reducible exact Below.refl _ _) | (with_reducible refine Below.drew ?_) | (with_reducible refine Below.alloc ?_ ?_ _) | omega | (simp;done) | (simp;omega)))):P:=h
theorem rp{P:Prop}(h:P:=by (repeat' (first | (with_reducible assumption) | (with_reducible refine Blk.top _ (by first | rfl | omega | (simp;done) | (simp;omega)) rfl) | (with_reducible refine Blk.alloc ?_ _) | (with_reducible refine Blk.drew ?_) | (with_reducible refine bx.drewD ?_) | (with_reducible refine bx.alloc ?_ _) | (with_reducible exact Below.refl _ _) | (with_reducible refine Below.drew ?_) | (with_reducible refine Below.alloc ?_ ?_ _) | omega | (simp;done) | (simp;omega)))):P:=h
theorem rq{P:Prop}(h:P:=by (repeat' (first | (with_reducible assumption) | (with_reducible refine Blk.top _ (by first | rfl | omega | (simp;done) | (simp;omega)) rfl) | (with_reducible refine Blk.alloc ?_ _) | (with_reducible refine Blk.drew ?_) | (with_reducible refine bx.drewD ?_) | (with_reducible refine bx.alloc ?_ _) | (with_reducible exact Below.refl _ _) | (with_reducible refine Below.drew ?_) | (with_reducible refine Below.alloc ?_ ?_ _) | omega | (simp;done) | (simp;omega)))):P:=h
theorem ru{P:Prop}(h:P:=by (repeat' (first | (with_reducible assumption) | (with_reducible refine Blk.top _ (by first | rfl | omega | (simp;done) | (simp;omega)) rfl) | (with_reducible refine Blk.alloc ?_ _) | (with_reducible refine Blk.drew ?_) | (with_reducible refine bx.drewD ?_) | (with_reducible refine bx.alloc ?_ _) | (with_reducible exact Below.refl _ _) | (with_reducible refine Below.drew ?_) | (with_reducible refine Below.alloc ?_ ?_ _) | omega | (simp;done) | (simp;omega)))):P:=h
theorem rv{P:Prop}(h:P:=by (repeat' (first | (with_reducible assumption) | (with_reducible refine Blk.top _ (by first | rfl | omega | (simp;done) | (simp;omega)) rfl) | (with_reducible refine Blk.alloc ?_ _) | (with_reducible refine Blk.drew ?_) | (with_reducible refine bx.drewD ?_) | (with_reducible refine bx.alloc ?_ _) | (with_reducible exact Below.refl _ _) | (with_reducible refine Below.drew ?_) | (with_reducible refine Below.alloc ?_ ?_ _) | omega | (simp;done) | (simp;omega)))):P:=h
theorem rx{P:Prop}(h:P:=by (repeat' (first | (with_reducible assumption) | (with_reducible refine Blk.top _ (by first | rfl | omega | (simp;done) | (simp;omega)) rfl) | (with_reducible refine Blk.alloc ?_ _) | (with_reducible refine Blk.drew ?_) | (with_reducible refine bx.drewD ?_) | (with_reducible refine bx.alloc ?_ _) | (with_reducible exact Below.refl _ _) | (with_reducible refine Below.drew ?_) | (with_reducible refine Below.alloc ?_ ?_ _) | omega | (simp;done) | (simp;omega)))):P:=h
theorem ry{P:Prop}(h:P:=by (repeat' (first | (with_reducible assumption) | (with_reducible refine Blk.top _ (by first | rfl | omega | (simp;done) | (simp;omega)) rfl) | (with_reducible refine Blk.alloc ?_ _) | (with_reducible refine Blk.drew ?_) | (with_reducible refine bx.drewD ?_) | (with_reducible refine bx.alloc ?_ _) | (with_reducible exact Below.refl _ _) | (with_reducible refine Below.drew ?_) | (with_reducible refine Below.alloc ?_ ?_ _) | omega | (simp;done) | (simp;omega)))):P:=h
end
def gJ (k n:Int)(r c:Nat):Bool :=
 if k=1 then decide (1<=r) && decide (r<=8) && decide (c=0) && decide (n=0)
 else if k=2\/k=4 then decide (r=0) && decide (c=0) && decide (0<=n)
 else if k=3 then decide (r=0) && decide (c=0) && decide (n=0)
 else if k=5 then decide (r=0) && decide (c<=64) && decide (-1<=n)
 else false
section
variable {k n:Int} {r r' c c':Nat} {R C:Option Addr} {w:World}
theorem kJ:gJ k n r c=true ↔ (k=1/\1<=r/\r<=8/\c=0/\n=0)\/((k=2\/k=4)/\r=0/\c=0/\0<=n)\/(k=3/\r=0/\c=0/\n=0)\/(k=5/\r=0/\c<=64/\-1<=n):=by
 unfold gJ
 split
 · simp;omega
 split
 · simp;omega
 split
 · simp;omega
 split
 · simp;omega
 · simp;omega
theorem oT:Ca 133 #[.agg #[I k,I n,.slice R r r',.slice C c c']] w fun e w'=>e=.returned (.bool (gJ k n r c))/\Below w.heap.size w w':=by
 have hQ:=aT (kJ (k:=k) (n:=n) (r:=r) (c:=c));generalize gJ k n r c=Q at *;go_enter Tryz.func133,Tryz.ntmps133;go_upto_region 1 with fail;go_big_quiet (fail);go_wp2_with fail
 all_goals go_ret
 all_goals (refine⟨?_,ba⟩;try subst_vars)
 all_goals (refine Eq.trans (b:=Ending.returned (.bool _)) rfl (congrArg (fun b=>Ending.returned (.bool b)) (Bool.eq_iff_iff.2 (Iff.trans ?_ hQ.out.symm)));clear hQ;(try simp only[beq_iff_eq,ah,aq,reduceCtorEq,false_iff,true_iff,Bool.not_eq_true,af,aD,Bool.false_eq_true,true_and,and_true] at *);first | omega | skip)
end
section
variable {w:World} {base g n c:Nat} {e:TypeId} {f:Nat→Nat}
theorem Ow.drew' {α:Type}{enc:α->Value}{A:Option Addr}{l:List α}(h:Ow enc w base e A n c l):Ow enc w.drew base e A n c l:=h
end
def tabB (n:Nat)(f:Nat->Nat):List UInt8:=(List.range n).map fun i=>UInt8.ofNat (f i)
theorem kK (n:Nat)(f:Nat->Nat):(tabB n f).length=n:=by simp[tabB]
theorem tabB_at {k:Nat}(f:Nat->Nat)(h:k<n)(hf:f k<256):bw (tabB n f) k=f k:=by
 simp only[bw,tabB,ag,List.getElem?_map,List.getElem?_range h,Option.map_some,Option.getD_some];exact UInt8.toNat_ofNat_of_lt' (by simp[UInt8.size];omega)
theorem oU {f g:Nat->Nat}(h:∀ i,i<n->f i=g i):tabB n f=tabB n g:=by
 unfold tabB;apply List.map_congr_left;intro i hi;rw[h i (List.mem_range.1 hi)]
theorem tabB_set {k:Nat}(f:Nat->Nat)(v:Nat)(h:k<n):(tabB n f).set k (UInt8.ofNat v)=tabB n (fun i=>if i=k then v else f i):=by
 apply List.ext_getElem?;intro i
 by_cases hi:i=k
 · subst hi;rw[List.getElem?_set_self (by rw[kK];exact h)];simp[tabB,h]
 · rw[List.getElem?_set_ne aS];rcases az i n with h1 | h1
   · simp[tabB,h1,hi]
   · rw[aL (by rw[kK];exact h1),aL (by rw[kK];exact h1)]
theorem jf {v:Nat}(h:v<256):bv (UInt8.ofNat v)=.int .u8 (v:Nat):=by
 unfold bv;rw[UInt8.toNat_ofNat_of_lt' (by simp[UInt8.size];omega)]
section
variable {w:World} {base g n c:Nat} {e:TypeId} {f:Nat→Nat}
theorem Ow.tabB_set (h:Ow bv w base e (some ⟨g,0,none⟩) n c (tabB n f)){f':Nat->Nat}(k:Nat)(v:Nat)(u:Value)(hk:k<n)(hv:v<256)(hu:u=.int .u8 (v:Nat))(hf:∀ i,i<n->(if i=k then v else f i)=f' i) :
 Ow bv (w.setCell ⟨g,k,none⟩ u) base e (some ⟨g,0,none⟩) n c (tabB n f'):=by
 have:=h.set k (UInt8.ofNat v) u (by rw[jf hv];exact hu)
 rwa [Go.Proofs.YtmeebofhlilcmaaGreat.tabB_set f v hk,oU hf] at this
end
theorem kb {P:Program}{e:TypeId}{z:Value}{bytes:Nat}(hE:dI P t e z 1 bytes)(n:Nat)(hb:bytes * n<=281474976710656)(h63:n<=9223372036854775807)(W:World) :
 (Instr.makeSlice t (I (n:Int)) (I (n:Int))).run P W=.ok (.slice (some ⟨W.heap.size,0,none⟩) n n) (W.alloc (.cells (madeCells z.cells n) e)):=by
 obtain⟨ht,⟨i,hi,hz,hs,hby⟩,hzs,_⟩:=hE;have h:(i.bytes:Int) * (n:Int)<=281474976710656:=by
  rw[hby];have:((bytes * n:Nat):Int)<=281474976710656:=aS
  rwa [Int.natCast_mul] at this
 have hr:=run_make (P:=P) W t e i z ht hi hz .i64 .i64 n n aS aS h aS;simp only[ay,hs,Nat.mul_one] at hr;exact hr
theorem Ow.made {α:Type}{enc:α->Value}(w:World)(e:TypeId)(x:α)(z:Value)(n:Nat)(hz:z.cells=#[enc x])(hm:n<=maxLen) :
 Ow enc (w.alloc (.cells (madeCells z.cells n) e)) w.heap.size e (some ⟨w.heap.size,0,none⟩) n n (List.replicate n x):=by
 have:=Ow.new (enc:=enc) w e (madeCells z.cells n) (List.replicate n x) (by rw[hz,toList_madeCells_one];simp) (by simpa using hm);simpa using this
theorem tabB_zero (n:Nat):List.replicate n (0:UInt8)=tabB n (fun _=>0):=by simp[tabB,List.map_const']
def un (n:Int):Nat:=(n % 18446744073709551616).toNat
def sg (u:Nat):Int:=if u<9223372036854775808 then (u:Int) else (u:Int) - 18446744073709551616
theorem un_lt (n:Int):un n<18446744073709551616:=by unfold un;omega
theorem sg_un {n:Int}(h0:-9223372036854775808<=n)(h1:n<=9223372036854775807):sg (un n)=n:=by unfold sg un;split <;> omega
theorem un_sg (h:u<18446744073709551616):un (sg u)=u:=by unfold sg un;split <;> omega
theorem sg_bd (h:u<18446744073709551616):-9223372036854775808<=sg u/\sg u<=9223372036854775807:=by unfold sg;split <;> omega
theorem wrap_un (n:Int):IntKind.u64.wrap n=(un n:Nat):=by rw[IntKind.wrap_u64];unfold un;omega
theorem wrap_sg (h:u<18446744073709551616):IntKind.i64.wrap (u:Int)=sg u:=by rw[IntKind.wrap_i64];unfold sg;split <;> omega
def putL (u:Nat):List UInt8:=tabB 8 (fun i=>u / 256 ^ i % 256)
def getL:List UInt8->Nat
 | []=>0
 | c :: l=>c.toNat+256 * getL l
theorem lE (l:List UInt8):getL l<256 ^ l.length:=by
 induction l with
 | nil=>simp[getL]
 | cons c l ih=>
   have:=c.toNat_lt;simp only[getL,aE,Nat.pow_succ];omega
theorem iE (u:Nat):(putL u).length=8:=by simp[putL,kK]
theorem getL_tab (u n:Nat):getL (tabB n (fun i=>u / 256 ^ i % 256))=u % 256 ^ n:=by
 induction n generalizing u with
 | zero=>simp[tabB,getL,Nat.mod_one]
 | succ n ih=>
   have e:tabB (n+1) (fun i=>u / 256 ^ i % 256)=UInt8.ofNat (u % 256) :: tabB n (fun i=>u / 256 / 256 ^ i % 256):=by
    unfold tabB;rw[List.range_succ_eq_map,List.map_cons,List.map_map]
    congr 1
    · simp
    · apply List.map_congr_left;intro i _;simp only[Function.comp,Nat.succ_eq_add_one];rw[Nat.div_div_eq_div_mul,Nat.pow_succ,Nat.mul_comm 256]
   rw[e];simp only[getL];rw[ih,UInt8.toNat_ofNat_of_lt' (by simp[UInt8.size];omega),Nat.pow_succ,Nat.mul_comm (256 ^ n) 256,Nat.mod_mul]
theorem mQ (u:Nat)(h:u<18446744073709551616):getL (putL u)=u:=by
 unfold putL;rw[getL_tab];exact Nat.mod_eq_of_lt aS
def cu (most:Nat):Nat->List UInt8->Nat × Nat
 | i,[]=>(0,if i<most then 10 else 11)
 | i,c :: l=>if most<=i then (0,11) else if c.toNat<128 then (if 0<i/\c.toNat=0 then (0,11) else (i+1,0)) else cu most (i+1) l
def sevL:List UInt8->Nat
 | []=>0
 | c :: l=>c.toNat % 128+128 * sevL l
def digL:Nat->Nat->List UInt8
 | 0,n=>[UInt8.ofNat n]
 | f+1,n=>if n<128 then [UInt8.ofNat n] else UInt8.ofNat (n % 128+128) :: digL f (n / 128)
def zz (n:Int):Nat:=if 0<=n then (2 * n).toNat else (-2 * n - 1).toNat
def unzz (u:Nat):Int:=if u % 2=0 then ((u / 2:Nat):Int) else -((u / 2:Nat):Int) - 1
theorem unzz_zz (n:Int):unzz (zz n)=n:=by
 unfold unzz zz
 by_cases h:0<=n
 · rw[if_pos h,if_pos aS];omega
 · rw[if_neg h,if_neg aS];omega
theorem zz_unzz (u:Nat):zz (unzz u)=u:=by
 unfold unzz
 by_cases h:u % 2=0
 · rw[if_pos h];unfold zz;rw[if_pos aS];omega
 · rw[if_neg h];unfold zz;rw[if_neg aS];omega
theorem zz_lt {n:Int}(h0:-9223372036854775808<=n)(h1:n<=9223372036854775807):zz n<18446744073709551616:=by unfold zz;split <;> omega
theorem unzz_bd (h:u<18446744073709551616):-9223372036854775808<=unzz u/\unzz u<=9223372036854775807:=by unfold unzz;split <;> omega
theorem sevL_append (a b:List UInt8):sevL (a ++ b)=sevL a+128 ^ a.length * sevL b:=by
 induction a with
 | nil=>simp[sevL]
 | cons c a ih=>
   simp only[List.cons_append,sevL,aE,ih,Nat.pow_succ,Nat.mul_add];rw[<- Nat.mul_assoc,Nat.mul_comm 128 (128 ^ a.length)];omega
theorem sevL_lt (l:List UInt8):sevL l<128 ^ l.length:=by
 induction l with
 | nil=>simp[sevL]
 | cons c l ih=>simp only[sevL,aE,Nat.pow_succ];omega
theorem mR {f:Nat}(h:n<128):digL f n=[UInt8.ofNat n]:=by
 cases f with
 | zero=>rfl
 | succ f=>unfold digL;rw[if_pos h]
theorem gw (f:Nat):∀ n,(digL f n).length<=f+1/\1<=(digL f n).length:=by
 induction f with
 | zero=>intro n;simp[digL]
 | succ f ih=>
   intro n;unfold digL
   split
   · simp
   · have:=ih (n / 128);simp;omega
/-! ### What the readers answer -/
theorem jv (most:Nat)(l:List UInt8):∀ i,(cu most i l).2=0->i<(cu most i l).1/\(cu most i l).1<=most/\(cu most i l).1<=i+l.length:=by
 induction l with
 | nil=>intro i h;unfold cu at h;split at h <;> simp at h
 | cons c l ih=>
   intro i h;unfold cu at h ⊢
   by_cases h1:most<=i
   · simp[h1] at h
   · rw[if_neg h1] at h ⊢
     by_cases h2:c.toNat<128
     · rw[if_pos h2] at h ⊢
       by_cases h3:0<i/\c.toNat=0
       · rw[if_pos h3] at h;simp at h
       · rw[if_neg h3];simp only[aE];omega
     · rw[if_neg h2] at h ⊢;have:=ih (i+1) h;simp only[aE];omega
theorem endsL_err (most:Nat)(l:List UInt8):∀ i,(cu most i l).2≠0->(cu most i l).1=0/\((cu most i l).2=10\/(cu most i l).2=11):=by
 induction l with
 | nil=>intro i _;unfold cu;split <;> simp
 | cons c l ih=>
   intro i h;unfold cu at h ⊢
   by_cases h1:most<=i
   · simp[h1]
   · rw[if_neg h1] at h ⊢
     by_cases h2:c.toNat<128
     · rw[if_pos h2] at h ⊢
       by_cases h3:0<i/\c.toNat=0
       · rw[if_pos h3];simp
       · rw[if_neg h3] at h;simp at h
     · rw[if_neg h2] at h ⊢;exact ih (i+1) h
theorem lF (n:Int)(w:World):Ca 254 #[I n] w fun e w'=>∃ A c,e=.returned (.slice A 8 c)/\OB w' w.heap.size 5 A 8 c (putL (un n))/\Below w.heap.size w w':=by
 have hw:=wrap_un n;have hu:=un_lt n;generalize un n=U at *;have hmk:∀ W:World,(Instr.makeSlice 27 (I 8) (I 8)).run Tryz.prog W=.ok (.slice (some ⟨W.heap.size,0,none⟩) 8 8) (W.alloc (.cells (madeCells (Value.int .u8 0).cells 8) 5)):=kb cG 8 aS aS;have hown0:Ow bv (w.alloc (.cells (madeCells (Value.int .u8 0).cells 8) 5)) w.heap.size 5 (some ⟨w.heap.size,0,none⟩) 8 8 (tabB 8 (fun i=>if i<0 then U / 256 ^ i % 256 else 0)):=by
  have:=Ow.made (enc:=bv) w 5 0 (.int .u8 0) 8 rfl aU
  rwa [tabB_zero] at this
 have hb0:Below w.heap.size w (w.alloc (.cells (madeCells (Value.int .u8 0).cells 8) 5)):=ba;go_enter Tryz.func254,Tryz.ntmps254;go_wp2;go_loopw [4,11] (fun uu kk wr=>∃ k u,k<=8/\kk=I (k:Nat)/\uu=.int .u64 (u:Nat)/\Hid (u=U / 256 ^ k)/\u<18446744073709551616/\Ow bv wr w.heap.size 5 (some ⟨w.heap.size,0,none⟩) 8 8 (tabB 8 (fun i=>if i<k then U / 256 ^ i % 256 else 0))/\Below w.heap.size w wr) (fun _ kk _=>8 - (intOf kk).toNat)
 case atStart=>exact⟨0,U,aS,rfl,rfl,by show U=U / 256 ^ 0;omega,hu,hown0,hb0⟩
 case round=>
  obtain⟨k,u,hk,rfl,rfl,hU,hu,hown,hb⟩:=hrel;have hbs:=hb.size
  by_cases hk8:k<8
  · have hfree:=hown.free k;have hset:=fun v hv=>aT (hown.tabB_set (f':=fun i=>if i<k+1 then U / 256 ^ i % 256 else 0) k (u % 256) v hk8 aS hv (fun i hi=>by
     by_cases h1:i=k
     · subst h1;simp[hU.out]
     · by_cases h2:i<k
       · simp[h1,h2,Nat.lt_succ_of_lt h2]
       · simp[h1,h2,show ¬ i<k+1 from by omega]))
    have hU2:Hid (u / 256=U / 256 ^ (k+1)):=by
     show _=_
     rw[hU.out,Nat.div_div_eq_div_mul,Nat.pow_succ]
    obtain⟨b1,o1,hA,_,hc⟩:=hown.rd.rb.at_ hk8;injection hA with hA;injection hA with h1 h2 _;subst h1 h2;rw[aC] at hc;clear hown;go_wp2;go_roundw
    case rel=>exact⟨k+1,u / 256,aS,by go_num,by go_num,hU2,aS,(hset _ (by first | rfl | (congr 1;omega))).out,ba⟩
    case measure=>simp[intOf];omega
  · have hk9:k=8:=aS;subst hk9;go_wp2;go_ret;refine⟨_,8,rfl,?_,hb⟩;unfold putL;rw[oU (g:=fun i=>U / 256 ^ i % 256)] at hown
    · exact hown
    · intro i hi;simp[hi]
theorem ke (a:Nat)(ha:a<18446744073709551616):(BitVec.ofInt 64 (a:Int)).toNat=a:=by
 rw[BitVec.ofInt_natCast,BitVec.toNat_ofNat];exact Nat.mod_eq_of_lt aS
theorem u64_shl8_or (u y:Nat)(hu:u<=72057594037927935)(hy:y<256):bits .or .u64 ((u:Int) * 256) (y:Int)=((y+256 * u:Nat):Int):=by
 have h:=Nat.two_pow_add_eq_or_of_lt (i:=8) (b:=y) aS u
 show IntKind.u64.wrap ((BitVec.ofInt 64 ((u * 256:Nat):Int) ||| BitVec.ofInt 64 (y:Int)).toNat:Int)=_
 rw[BitVec.toNat_or,ke _ aS,ke y aS,IntKind.wrap_u64,show u * 256=2 ^ 8 * u from by omega,<- h];omega
theorem getL_drop (l:List UInt8)(k:Nat)(h:k<l.length):getL (l.drop k)=bw l k+256 * getL (l.drop (k+1)):=by
 rw[aR h];simp[getL,bw,ag,h]
theorem mL (A:Option Addr)(c:Nat)(l:List UInt8)(w:World)(hl:RB w A 8 l):Ca 237 #[.slice A 8 c] w fun e w'=>e=.returned (.tuple #[I (sg (getL l)),I 0])/\w=w':=by
 have hlt:getL l<18446744073709551616:=by have:=lE l;rw[hl.1] at this;omega
 have hwr:=wrap_sg hlt;have hlen:=aT hl.1;generalize hz:sg (getL l)=z at *;clear hz;go_enter Tryz.func237,Tryz.ntmps237;go_wp2;go_loop [4,5] (fun uu kk=>∃ k u,k<=8/\kk=I (8 - (k:Nat))/\uu=.int .u64 (u:Nat)/\Hid (u=getL (l.drop (8 - k)))) (fun _ kk=>(intOf kk).toNat)
 case atStart=>exact⟨0,0,aS,rfl,rfl,by show 0=_;rw[aQ (by rw[hlen.out];omega)];rfl⟩
 case round=>
  obtain⟨k,u,hk,rfl,rfl,hU⟩:=hrel
  by_cases hk8:k<8
  · obtain⟨b,o,rfl,_,hc⟩:=hl.at_ (k:=7 - k) aS;rw[show o+(7 - k)=o+(8 - k - 1) from by omega] at hc;have hb:=gQ l (7 - k);have hd:=getL_drop l (7 - k) (by rw[hlen.out];omega);rw[show 7 - k+1=8 - k from by omega,<- hU.out] at hd;have hd2:Hid (getL (l.drop (8 - (k+1)))=bw l (7 - k)+256 * u):=by rw[show 8 - (k+1)=7 - k from by omega];exact hd
    clear hd;have hu:u<=72057594037927935:=by
     rw[hU.out];have h1:=lE (l.drop (8 - k));have h2:(l.drop (8 - k)).length<=7:=by rw[aK,hlen.out];omega
     have h3:256 ^ (l.drop (8 - k)).length<=256 ^ 7:=Nat.pow_le_pow_right aS h2;omega
    generalize bw l (7 - k)=y at *;have hor:=u64_shl8_or u y hu hb;go_wp2;go_round
    case rel=>exact⟨k+1,y+256 * u,aS,by go_num,by go_num,hd2.out.symm⟩
    case measure=>simp[intOf];omega
  · have hk9:k=8:=aS;subst hk9;have hU2:u=getL l:=hU.out;rw[<- hU2] at hwr;clear hU hU2;go_wp2;go_ret2;exact⟨rfl,rfl⟩
end Go.Proofs.YtmeebofhlilcmaaGreat
