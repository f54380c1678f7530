/- Parts: VerifyC, VerifyD, VerifyE. -/
import Derived.Test.YtmeebofhlilcmaaGreatPr02
import Derived.Test.YtmeebofhlilcmaaGreatPr30
import Derived.Test.YtmeebofhlilcmaaGreatPr25
set_option linter.unusedVariables false
set_option linter.unusedSimpArgs false
set_option maxRecDepth 100000
set_option maxHeartbeats 40000000
namespace Go.Proofs.YtmeebofhlilcmaaGreat
open Go.RowKit
section
variable {w w':World} {base g:Nat} {x:PA} {p:PV} {s s':LkV}
def Olds (w:World) (base:Nat) (x:PA) (p:PV):Prop:=∃ w0,qg2 w0 x p∧w0.heap.size≤base∧Below base w0 w
theorem Olds.rd (h:Olds w base x p) (hb:Below base w w'):qg2 w' x p:=by
  obtain ⟨w0,h1,h2,h3⟩:=h;exact h1.below (h3.trans hb) h2
theorem lkinstr_cell (h:LkAt w base g x p s) (hs:base≤w.heap.size) (hp:Olds w base x p) (y:Ins) (i:Nat) (ho:y.op=21) :
    Calls Tryz.prog 224 #[.pointer (some ⟨g,0,none⟩),.int .i64 (i:Nat),.agg #[.int .i64 y.op,.int .i64 y.a,.int .i64 y.b,.int .i64 y.c,.int .i64 y.k]] w (qk0 w base g x p (qc4 p s i y) none):=by
  obtain ⟨op,ya,yb,yc,yk⟩:=y;have S0:=hdd (show LkS w base g x p ⟨op,ya,yb,yc,yk⟩ w.heap.size s (w.alloc (.cells #[.int .i64 op,.int .i64 ya,.int .i64 yb,.int .i64 yc,.int .i64 yk] 144)) from LkS.first h hs ⟨op,ya,yb,yc,yk⟩);simp only at ho;subst ho;have hsg:=fun W => qq2 21 W
  rw [show sgn3 21 = (0, 0, false) from rfl] at hsg; obtain ⟨z0, z1, z2, z3, z4, z5⟩ := S0.out.ib.cells; go_enter Tryz.func224, Tryz.ntmps224; go_upto_region 20 with (first | (go_at_call 271; (with_reducible refine (hsg _).mono ?_); rintro e w1 ⟨rfl, rfl⟩) | fail "no arm"); go_region_held3 (fun w' => w'.cell? ⟨w.heap.size, 1, none⟩ = some (.int .i64 ya) ∧ w'.cell? ⟨w.heap.size, 4, none⟩ = some (.int .i64 yk)) (first | go_keep | (refine ⟨?_, ?_⟩ <;> assumption)) (first | ((go_at_call 276; (with_reducible refine (vo1 S0.out.drew.lk (hp.rd S0.out.drew.bel) _).mono ?_); rintro e w1 hk1); have S1 := hdd (S0.out.drew.next hk1); obtain ⟨rfl, _, _, _⟩ := hk1; obtain ⟨z1_0, z1_1, z1_2, z1_3, z1_4, z1_5⟩ := S1.out.ib.cells) | ((go_at_call 273; (with_reducible refine (qe0 S1.out.lk _ _).mono ?_); rintro e w6 hk6); have S6 := hdd (S1.out.next hk6); obtain ⟨rfl, _, _, _⟩ := hk6; obtain ⟨z6_0, z6_1, z6_2, z6_3, z6_4, z6_5⟩ := S6.out.ib.cells) | fail "no arm"); go_wp2; go_end0; exact S6.out.done.as rfl
theorem lkinstr_in (h:LkAt w base g x p s) (hs:base≤w.heap.size) (hp:Olds w base x p) (y:Ins) (i:Nat) (ho:y.op=28) :
    Calls Tryz.prog 224 #[.pointer (some ⟨g,0,none⟩),.int .i64 (i:Nat),.agg #[.int .i64 y.op,.int .i64 y.a,.int .i64 y.b,.int .i64 y.c,.int .i64 y.k]] w (qk0 w base g x p (qc4 p s i y) none):=by
  obtain ⟨op,ya,yb,yc,yk⟩:=y;have S0:=hdd (show LkS w base g x p ⟨op,ya,yb,yc,yk⟩ w.heap.size s (w.alloc (.cells #[.int .i64 op,.int .i64 ya,.int .i64 yb,.int .i64 yc,.int .i64 yk] 144)) from LkS.first h hs ⟨op,ya,yb,yc,yk⟩);simp only at ho;subst ho;have hsg:=fun W => qq2 28 W
  rw [show sgn3 28 = (0, 0, false) from rfl] at hsg; obtain ⟨z0, z1, z2, z3, z4, z5⟩ := S0.out.ib.cells; obtain ⟨g0, g1, g3, g4, g7, g8, gf, gl⟩ := S0.out.lk.cells; clear g1 g3 g4 g7 g8; go_enter Tryz.func224, Tryz.ntmps224; go_upto_region 22 with (first | (go_at_call 271; (with_reducible refine (hsg _).mono ?_); rintro e w1 ⟨rfl, rfl⟩) | fail "no arm"); go_region_held3 (fun w' => w'.cell? ⟨w.heap.size, 1, none⟩ = some (.int .i64 ya) ∧ w'.cell? ⟨w.heap.size, 4, none⟩ = some (.int .i64 yk) ∧ w'.cell? ⟨g, 0, none⟩ = some (.slice x.A1 x.n1 x.c1)) (first | go_keep | (refine ⟨?_, ?_, ?_⟩ <;> assumption)) (first | ((go_at_call 277; (with_reducible refine (lkone_any S0.out.drew.lk _ _ _ _ (hp.rd S0.out.drew.bel).r1 _).mono ?_); rintro e w1 hk1); have S1 := hdd (S0.out.drew.next hk1); obtain ⟨rfl, _, _, _⟩ := hk1; obtain ⟨z1_0, z1_1, z1_2, z1_3, z1_4, z1_5⟩ := S1.out.ib.cells; obtain ⟨g1_0, _, _, _, _, _, _, _⟩ := S1.out.lk.cells) | ((go_at_call 273; (with_reducible refine (qe0 S1.out.lk _ _).mono ?_); rintro e w6 hk6); have S6 := hdd (S1.out.next hk6); obtain ⟨rfl, _, _, _⟩ := hk6; obtain ⟨z6_0, z6_1, z6_2, z6_3, z6_4, z6_5⟩ := S6.out.ib.cells; obtain ⟨g6_0, _, _, _, _, _, _, _⟩ := S6.out.lk.cells) | fail "no arm"); go_wp2; go_end0; exact S6.out.done.as rfl
theorem lkinstr_keep (h:LkAt w base g x p s) (hs:base≤w.heap.size) (hp:Olds w base x p) (y:Ins) (i:Nat) (ho:y.op=32) :
    Calls Tryz.prog 224 #[.pointer (some ⟨g,0,none⟩),.int .i64 (i:Nat),.agg #[.int .i64 y.op,.int .i64 y.a,.int .i64 y.b,.int .i64 y.c,.int .i64 y.k]] w (qk0 w base g x p (qc4 p s i y) none):=by
  obtain ⟨op,ya,yb,yc,yk⟩:=y;have S0:=hdd (show LkS w base g x p ⟨op,ya,yb,yc,yk⟩ w.heap.size s (w.alloc (.cells #[.int .i64 op,.int .i64 ya,.int .i64 yb,.int .i64 yc,.int .i64 yk] 144)) from LkS.first h hs ⟨op,ya,yb,yc,yk⟩);simp only at ho;subst ho;have hsg:=fun W => qq2 32 W
  rw [show sgn3 32 = (0, 0, false) from rfl] at hsg; obtain ⟨z0, z1, z2, z3, z4, z5⟩ := S0.out.ib.cells; go_enter Tryz.func224, Tryz.ntmps224; go_upto_region 30 with (first | (go_at_call 271; (with_reducible refine (hsg _).mono ?_); rintro e w1 ⟨rfl, rfl⟩) | fail "no arm"); go_region_held3 (fun w' => w'.cell? ⟨w.heap.size, 1, none⟩ = some (.int .i64 ya) ∧ w'.cell? ⟨w.heap.size, 4, none⟩ = some (.int .i64 yk)) (first | go_keep | (refine ⟨?_, ?_⟩ <;> assumption)) (first | ((go_at_call 275; (with_reducible refine (qd9 S0.out.drew.lk _).mono ?_); rintro e w1 hk1); have S1 := hdd (S0.out.drew.next hk1); obtain ⟨rfl, _, _, _⟩ := hk1; obtain ⟨z1_0, z1_1, z1_2, z1_3, z1_4, z1_5⟩ := S1.out.ib.cells) | ((go_at_call 276; (with_reducible refine (vo1 S1.out.lk (hp.rd S1.out.bel) _).mono ?_); rintro e w2 hk2); have S2 := hdd (S1.out.next hk2); obtain ⟨rfl, _, _, _⟩ := hk2; obtain ⟨z2_0, z2_1, z2_2, z2_3, z2_4, z2_5⟩ := S2.out.ib.cells) | ((go_at_call 274; (with_reducible refine (qd7 S2.out.lk _).mono ?_); rintro e w6 hk6); have S6 := hdd (S2.out.next hk6); obtain ⟨rfl, _, _, _⟩ := hk6; obtain ⟨z6_0, z6_1, z6_2, z6_3, z6_4, z6_5⟩ := S6.out.ib.cells) | fail "no arm"); go_wp2; go_end0; exact S6.out.done.as rfl
end
section
variable {w w':World} {base g:Nat} {x:PA} {p:PV} {s s':LkV}
theorem outs_at (h:LkAt w base g x p s) {k:Nat} (hk:k<s.outs.length):∃ go no co,w.cell? ⟨g,6,none⟩=some (.slice (some ⟨go,0,none⟩) no co)∧k<no∧w.cell? ⟨go,k,none⟩=some (.bool (s.outs.getD k false))∧w.frozen? ⟨go,k,none⟩=false∧go<w.heap.size∧g≠go ∧
    qk0 w base g x p { s with outs:=s.outs.set k true } none (.returned (.tuple #[])) (w.setCell ⟨go,k,none⟩ (.bool true)):=by
  obtain ⟨K,nk,ck,O,no,co,hb,hg,hk',ho⟩:=h;have hol:=ho.1;obtain ⟨go,hO,hgo,hgl⟩:=ho.addr omg;obtain ⟨b1,o1,hO1,hb1,hc⟩:=ho.rd.2.at_ (show k<no by omega);rw [hO] at hO1;injection hO1 with hO1;injection hO1 with q1 q2 _;subst q1 q2;rw [qs1 s.outs k hk,Nat.zero_add] at hc;have e:s.outs.getD k false=s.outs[k]:=by rw [List.getD_eq_getElem?_getD,List.getElem?_eq_getElem hk];rfl
  subst hO;obtain ⟨cs,hbk⟩:=qq8 (g:=go) ho rfl;have hne9:g≠go:=hb.ne_ hbk dcd;exact ⟨go,no,co,hb.cell 6,omg,by rw [e];exact hc,ho.free k,hgl,hne9,rfl,⟨K,nk,ck,_,no,co,hb.far (p:=⟨go,k,none⟩) hne9 _,hg,hk'.setFar hbk dcd k _,ho.set k true _ rfl⟩,(Below.refl _ _).setCell hgo _,Stay.set hbk dcd _ _⟩
theorem lkneed_set (h:LkAt w base g x p s) (hb0:s.bad=false) (b:Bool):Calls Tryz.prog 274 #[.pointer (some ⟨g,0,none⟩),.bool b] w fun e w' => qk0 w base g x p (qh5 s b) none e w'∧w'=w.setCell ⟨g,8,none⟩ (.bool (!b)):=by
  obtain ⟨K,nk,ck,O,no,co,hb,hg,hk,ho⟩:=h;have c8:w.cell? ⟨g,8,none⟩=some (.bool s.bad):=hb.cell 8;have f8:=hb.frozen 8;have hl:=hb.lt;have HB:=hdd hb;have HK:=hdd hk;have HO:=hdd ho;have HB0:=hdd hb0;clear hb hk ho;rw [hb0] at c8;clear hb0;go_enter Tryz.func274,Tryz.ntmps274;go_wp2;go_end0;refine ⟨⟨rfl,⟨K,nk,ck,O,no,co,?_,hg,HK.out.setFar HB.out dcd 8 _,HO.out.setFar HB.out dcd 8 _⟩,(Below.refl _ _).setCell hg _,Stay.set HB.out dcd _ _⟩,rfl⟩;have:=HB.out.set_ 8 (.bool (!b));simpa [lkC,qh5,HB0.out] using this
theorem lkinstr_out (h:LkAt w base g x p s) (hs:base≤w.heap.size) (hp:Olds w base x p) (y:Ins) (i:Nat) (ho:y.op=29) (hol:s.outs.length=p.outs.length) :
    Calls Tryz.prog 224 #[.pointer (some ⟨g,0,none⟩),.int .i64 (i:Nat),.agg #[.int .i64 y.op,.int .i64 y.a,.int .i64 y.b,.int .i64 y.c,.int .i64 y.k]] w (qk0 w base g x p (qc4 p s i y) none):=by
  obtain ⟨op,ya,yb,yc,yk⟩:=y;have S0:=hdd (show LkS w base g x p ⟨op,ya,yb,yc,yk⟩ w.heap.size s (w.alloc (.cells #[.int .i64 op,.int .i64 ya,.int .i64 yb,.int .i64 yc,.int .i64 yk] 144)) from LkS.first h hs ⟨op,ya,yb,yc,yk⟩);simp only at ho;subst ho;have hsg:=fun W => qq2 29 W
  rw [show sgn3 29 = (0, 0, false) from rfl] at hsg; obtain ⟨z0, z1, z2, z3, z4, z5⟩ := S0.out.ib.cells; obtain ⟨g0, g1, g3, g4, g7, g8, gf, gl⟩ := S0.out.lk.cells; clear g0 g3 g4 g8; go_enter Tryz.func224, Tryz.ntmps224; go_upto_region 24 with (first | (go_at_call 271; (with_reducible refine (hsg _).mono ?_); rintro e w1 ⟨rfl, rfl⟩) | fail "no arm"); go_region_held3 (fun w' => w'.cell? ⟨w.heap.size, 1, none⟩ = some (.int .i64 ya) ∧ w'.cell? ⟨w.heap.size, 4, none⟩ = some (.int .i64 yk) ∧ w'.cell? ⟨g, 1, none⟩ = some (.slice x.A2 x.n2 x.c2)) (first | go_keep | (refine ⟨?_, ?_, ?_⟩ <;> assumption)) (first | ((go_at_call 275; (with_reducible refine (qd9 S0.out.drew.lk _).mono ?_); rintro e w1 hk1); have S1 := hdd (S0.out.drew.next hk1); obtain ⟨rfl, _, _, _⟩ := hk1; obtain ⟨z1_0, z1_1, z1_2, z1_3, z1_4, z1_5⟩ := S1.out.ib.cells; obtain ⟨_, g1_1, _, _, _, _, _, gl1⟩ := S1.out.lk.cells) | ((go_at_call 277; (with_reducible refine (lkone_any S1.out.lk _ _ _ _ (hp.rd S1.out.bel).r2 _).mono ?_); rintro e w2 hk2); have S2 := hdd (S1.out.next hk2); obtain ⟨rfl, _, _, _⟩ := hk2; obtain ⟨z2_0, z2_1, z2_2, z2_3, z2_4, z2_5⟩ := S2.out.ib.cells; obtain ⟨_, g2_1, _, _, _, _, _, gl2⟩ := S2.out.lk.cells) | ((go_at_call 274; (with_reducible refine (qd7 S2.out.lk _).mono ?_); rintro e w3 hk3); have S3 := hdd (S2.out.next hk3); obtain ⟨rfl, _, _, _⟩ := hk3; obtain ⟨z3_0, z3_1, z3_2, z3_3, z3_4, z3_5⟩ := S3.out.ib.cells; obtain ⟨_, g3_1, _, _, g3_7, _, _, gl3⟩ := S3.out.lk.cells) | fail "no arm"); have hpast : (qh5 (oneV (qe6 s ya).1 p.outs yk).1 ((qe6 s ya).2 == (oneV (qe6 s ya).1 p.outs yk).2)).past = s.past := by
    rw [ql6,vd3];rfl
  rw [hpast] at g3_7;go_upto_region 26 with (first | ((go_at_call 274;(with_reducible refine (qd7 S3.out.lk _).mono ?_);rintro e w4 hk4);have S4:=hdd (S3.out.next hk4);obtain ⟨rfl,_,_,_⟩:=hk4;obtain ⟨z4_0,z4_1,z4_2,z4_3,z4_4,z4_5⟩:=S4.out.ib.cells) | fail "no arm");have hfin:qc4 p s i ⟨29,ya,yb,yc,yk⟩=(if (qh5 (qh5 (oneV (qe6 s ya).1 p.outs yk).1 ((qe6 s ya).2 == (oneV (qe6 s ya).1 p.outs yk).2)) (decide (s.past≤(i:Int)))).bad then (qh5 (qh5 (oneV (qe6 s ya).1 p.outs yk).1 ((qe6 s ya).2 == (oneV (qe6 s ya).1 p.outs yk).2)) (decide (s.past≤(i:Int)))) else { qh5 (qh5 (qh5 (oneV (qe6 s ya).1 p.outs yk).1 ((qe6 s ya).2 == (oneV (qe6 s ya).1 p.outs yk).2)) (decide (s.past≤(i:Int)))) (!((qh5 (qh5 (oneV (qe6 s ya).1 p.outs yk).1 ((qe6 s ya).2 == (oneV (qe6 s ya).1 p.outs yk).2)) (decide (s.past≤(i:Int)))).outs.getD yk.toNat false)) with outs:=(qh5 (qh5 (oneV (qe6 s ya).1 p.outs yk).1 ((qe6 s ya).2 == (oneV (qe6 s ya).1 p.outs yk).2)) (decide (s.past≤(i:Int)))).outs.set yk.toNat true }):=by
    show (if _ then _ else _)=_
    rfl
  have hrange:(qh5 (qh5 (oneV (qe6 s ya).1 p.outs yk).1 ((qe6 s ya).2 == (oneV (qe6 s ya).1 p.outs yk).2)) (decide (s.past≤(i:Int)))).bad=false→0≤yk∧yk<(p.outs.length:Int):=fun e => by
    by_cases q:yk<0∨(p.outs.length:Int)≤yk
    · exfalso
      rw [vd3,decide_eq_true q] at e;simp [qh5] at e
    · omega
  have hlen:(qh5 (qh5 (oneV (qe6 s ya).1 p.outs yk).1 ((qe6 s ya).2 == (oneV (qe6 s ya).1 p.outs yk).2)) (decide (s.past≤(i:Int)))).outs.length=p.outs.length:=by
    rw [ql6,vd3];exact hol
  generalize qh5 (qh5 (oneV (qe6 s ya).1 p.outs yk).1 ((qe6 s ya).2 == (oneV (qe6 s ya).1 p.outs yk).2)) (decide (s.past≤(i:Int)))=s4 at *;have HF:=hdd hfin;have HL:=hdd hlen;obtain ⟨_,_,_,_,_,g4_8,_,gl4⟩:=S4.out.lk.cells;clear hfin hlen hpast
  cases hb:s4.bad with
  | true =>
    rw [hb] at g4_8;have HB:=hdd hb;clear hb hrange;go_wp2_with fail;go_end0;refine S4.out.done.as ?_;rw [HF.out,if_pos HB.out]
  | false =>
    rw [hb] at g4_8;obtain ⟨r1,r2⟩:=hrange hb;obtain ⟨k,rfl⟩:∃ k:Nat,yk=k:=⟨yk.toNat,omg⟩;have HB:=hdd hb;clear hb hrange r1;obtain ⟨go,no,co,c6,hkn,cgo,fgo,lgo,hne,hst⟩:=outs_at S4.out.lk (k:=k) (by rw [HL.out];omega);clear hst;have hk4:k<s4.outs.length:=by rw [HL.out];omega
    have n6:(⟨g,8,none⟩:Addr)≠⟨g,6,none⟩:=by simp
    have nk:(⟨g,8,none⟩:Addr)≠⟨go,k,none⟩:=fun e => hne (by injection e)
    have N6:=hdd n6;have NK:=hdd nk;clear n6 nk;have HK4:=hdd hk4;clear hk4;generalize hov:s4.outs.getD k false=ov at *;have HOV:=hdd hov;clear hov;go_upto_region 27 with fail;go_region_held3 (fun w' => w'.cell? ⟨w.heap.size,4,none⟩=some (.int .i64 (k:Nat))∧w'.cell? ⟨g,6,none⟩=some (.slice (some ⟨go,0,none⟩) no co)∧w'.cell? ⟨go,k,none⟩=some (.bool ov)) (first | go_keep | (refine ⟨?_,?_,?_⟩ <;> assumption)) (first | ((go_at_call 274;(with_reducible refine (lkneed_set S4.out.drew.lk HB.out _).mono ?_);rintro e w5 ⟨hk5,hw5⟩);have S5:=hdd (S4.out.drew.next hk5);obtain ⟨rfl,_,_,_⟩:=hk5;obtain ⟨z5_0,z5_1,z5_2,z5_3,z5_4,z5_5⟩:=S5.out.ib.cells;have c65:w5.cell? ⟨g,6,none⟩=some (.slice (some ⟨go,0,none⟩) no co):=(by rw [hw5];exact (World.cell?_setCell_other _ _ _ _ N6.out).trans c6);have cgo5:w5.cell? ⟨go,k,none⟩=some (.bool ov):=(by rw [hw5];exact (World.cell?_setCell_other _ _ _ _ NK.out).trans cgo);clear hw5) | fail "no arm");obtain ⟨go5,no5,co5,c65b,hkn5,cgo5b,fgo5,lgo5,hne5,hst5⟩:=outs_at S5.out.lk (k:=k) (show k<(qh5 s4 (!ov)).outs.length from HK4.out);have e5:=c65.symm.trans c65b;injection e5 with e5;injection e5 with e5 _ _;injection e5 with e5;injection e5 with e5 _ _;subst e5;have H5:=hdd (S5.out.next hst5);clear c65b hkn5 cgo5b hst5;go_upto_region 28 with fail;go_region;go_wp2;go_end0;exact H5.out.drew.done.as (by rw [HF.out,if_neg (by rw [HB.out];simp),Int.toNat_natCast,HOV.out];rfl)
end
section
variable {w w':World} {base g:Nat} {x:PA} {p:PV} {s s':LkV}
theorem qr3 (h:LkAt w base g x p s) (z:Int):qk0 w base g x p { s with past:=z } none (.returned (.tuple #[])) (w.setCell ⟨g,7,none⟩ (.int .i64 z)):=by
  obtain ⟨K,nk,ck,O,no,co,hb,hg,hk,ho⟩:=h;exact ⟨rfl,⟨K,nk,ck,O,no,co,hb.set_ 7 (.int .i64 z),hg,hk.setFar hb dcd 7 _,ho.setFar hb dcd 7 _⟩,(Below.refl _ _).setCell hg _,Stay.set hb dcd _ _⟩
theorem qy8 {s1:LkV} {b b':Bool} {z z':Int} (hb:b=b') (hz:z=z'):({ qh5 s1 b with past:=z }:LkV)={ qh5 s1 b' with past:=z' }:=by subst hb hz;rfl
def skipOp (op:Int):Prop:=qy9 op=false∧op≠1∧op≠2∧op≠3∧op≠27∧op≠21∧op≠28∧op≠29∧op≠32
theorem instrV_skip {y:Ins} (h:skipOp y.op) (i:Nat):qc4 p s i y={ qh5 (qe6 s y.a).1 (decide ((qe6 s y.a).2=2) && (decide (0≤y.k) && decide (y.k≤(p.code.length:Int) - 1 - (i:Int)))) with past:=max s.past ((i:Int)+1+min y.k (p.code.length:Int)) }:=by
  obtain ⟨h0,h1,h2,h3,h4,h5,h6,h7,h8⟩:=h;unfold qc4;rw [h0,if_neg smp,if_neg h1,if_neg h2,if_neg h3,if_neg h4,if_neg h5,if_neg h6,if_neg h7,if_neg h8];rw [ql6]
  rfl
theorem lkinstr_skip (h:LkAt w base g x p s) (hs:base≤w.heap.size) (hp:Olds w base x p) (y:Ins) (i:Nat) (ho:skipOp y.op) (hi:i<p.code.length) (hcode:p.code.length≤100000) (hk:-9223372036854775808≤y.k∧y.k≤9223372036854775807) :
    Calls Tryz.prog 224 #[.pointer (some ⟨g,0,none⟩),.int .i64 (i:Nat),.agg #[.int .i64 y.op,.int .i64 y.a,.int .i64 y.b,.int .i64 y.c,.int .i64 y.k]] w (qk0 w base g x p (qc4 p s i y) none):=by
  rw [instrV_skip ho];obtain ⟨op,ya,yb,yc,yk⟩:=y;have S0:=hdd (show LkS w base g x p ⟨op,ya,yb,yc,yk⟩ w.heap.size s (w.alloc (.cells #[.int .i64 op,.int .i64 ya,.int .i64 yb,.int .i64 yc,.int .i64 yk] 144)) from LkS.first h hs ⟨op,ya,yb,yc,yk⟩);simp only at ho hk ⊢;obtain ⟨o0,o1,o2,o3,o27,o21,o28,o29,o32⟩:=ho;have hsg:=fun W => qq2 op W
  rw [show sgn3 op=(0,0,false) from by unfold sgn3;rw [o0];rfl] at hsg;have b1:(op == 1)=false:=by rw [beq_eq_false_iff_ne];exact o1
  have b2:(op == 2)=false:=by rw [beq_eq_false_iff_ne];exact o2
  have b3:(op == 3)=false:=by rw [beq_eq_false_iff_ne];exact o3
  have b27:(op == 27)=false:=by rw [beq_eq_false_iff_ne];exact o27
  have b21:(op == 21)=false:=by rw [beq_eq_false_iff_ne];exact o21
  have b28:(op == 28)=false:=by rw [beq_eq_false_iff_ne];exact o28
  have b29:(op == 29)=false:=by rw [beq_eq_false_iff_ne];exact o29
  have b32:(op == 32)=false:=by rw [beq_eq_false_iff_ne];exact o32
  clear o0 o1 o2 o3 o27 o21 o28 o29 o32;obtain ⟨z0,z1,z2,z3,z4,z5⟩:=S0.out.ib.cells;obtain ⟨g0,g1,g3,g4,g7,g8,gf,gl⟩:=S0.out.lk.cells;clear g0 g1 g3 g7 g8;have hn4:p.code.length=x.n4:=by obtain ⟨w0,hr,_⟩:=hp;exact hr.r4.1
  have hn4m:x.n4≤maxLen:=by obtain ⟨w0,hr,_⟩:=hp;have:=hr.k4;omega
  rw [hn4] at hi hcode ⊢;unfold maxLen at hn4m;have HN4:=hdd hn4;clear hn4;have hpast:∀ b,(qh5 (qe6 s ya).1 b).past=s.past:=fun b => by rw [ql6];rfl
  have HPT:=hdd hpast;clear hpast;have htk:=fun {W:World} (L:LkAt W base g x p s) => qd9 L ya
  generalize qe6 s ya=T at *;obtain ⟨s1,tv⟩:=T;simp only at htk HPT ⊢;generalize hM:max s.past ((i:Int)+1+min yk (x.n4:Int))=M;generalize htb:(decide (tv=2) && (decide (0≤yk) && decide (yk≤(x.n4:Int) - 1 - (i:Int))))=tb;have HM:=hdd hM;clear hM;have w1:IntKind.i64.wrap ((x.n4:Int) - 1)=(x.n4:Int) - 1:=by rw [IntKind.wrap_i64];omega
  have w2':IntKind.i64.wrap ((x.n4:Int) - 1 - (i:Int))=(x.n4:Int) - 1 - (i:Int):=by rw [IntKind.wrap_i64];omega
  by_cases t2:tv=2
  · subst t2
    by_cases k0:0≤yk
    · by_cases k1:yk≤(x.n4:Int) - 1 - (i:Int)
      · have hB := hdd (show true = tb from by rw [← htb, decide_eq_true (rfl : (2 : Int) = 2), decide_eq_true k0, decide_eq_true k1]; rfl); clear htb; go_enter Tryz.func224, Tryz.ntmps224; go_upto_region 5 with (first | (go_at_call 271; (with_reducible refine (hsg _).mono ?_); rintro e w1 ⟨rfl, rfl⟩) | fail "no arm"); go_region_held3 (fun w' => w'.cell? ⟨w.heap.size, 1, none⟩ = some (.int .i64 ya) ∧ w'.cell? ⟨w.heap.size, 4, none⟩ = some (.int .i64 yk) ∧ w'.cell? ⟨g, 4, none⟩ = some (.slice x.A4 x.n4 x.c4)) (first | go_keep | (refine ⟨?_, ?_, ?_⟩ <;> assumption)) (first | ((go_at_call 275; (with_reducible refine (htk S0.out.drew.lk).mono ?_); rintro e w1 hk1); have S1 := hdd (S0.out.drew.next hk1); obtain ⟨rfl, _, _, _⟩ := hk1; obtain ⟨z1_0, z1_1, z1_2, z1_3, z1_4, z1_5⟩ := S1.out.ib.cells; obtain ⟨_, _, _, g1_4, _, _, _, gl1⟩ := S1.out.lk.cells) | ((go_at_call 274; (with_reducible refine (qd7 S1.out.lk _).mono ?_); rintro e w2 hk2); have S2 := hdd (S1.out.next hk2); obtain ⟨rfl, _, _, _⟩ := hk2; obtain ⟨z2_0, z2_1, z2_2, z2_3, z2_4, z2_5⟩ := S2.out.ib.cells; obtain ⟨_, _, _, g2_4, g2_7, _, gf2, gl2⟩ := S2.out.lk.cells) | fail "no arm"); rw [HPT.out] at g2_7; have hmin : yk ≤ (x.n4 : Int) := omg
        by_cases hmax:s.past≤(i:Int)+1+yk
        · skip
          go_upto_region 6 with fail;go_region
          all_goals go_wp2
          all_goals
            go_end0;refine ((S2.out.next (qr3 S2.out.lk _)).drew.done).as (qy8 ?_ ?_)
            · first
                | exact hB.out
                | (rw [← hB.out,decide_eq_false_iff_not];omega)
                | (exfalso;omega)
            · have:=HM.out;omega
        · skip
          go_upto_region 6 with fail;go_region
          all_goals go_wp2
          all_goals
            go_end0;refine ((S2.out.next (qr3 S2.out.lk _)).drew.done).as (qy8 ?_ ?_)
            · first
                | exact hB.out
                | (rw [← hB.out,decide_eq_false_iff_not];omega)
                | (exfalso;omega)
            · have:=HM.out;omega
      · have hB := hdd (show false = tb from by rw [← htb, decide_eq_false k1, Bool.and_false, Bool.and_false]); clear htb; go_enter Tryz.func224, Tryz.ntmps224; go_upto_region 5 with (first | (go_at_call 271; (with_reducible refine (hsg _).mono ?_); rintro e w1 ⟨rfl, rfl⟩) | fail "no arm"); go_region_held3 (fun w' => w'.cell? ⟨w.heap.size, 1, none⟩ = some (.int .i64 ya) ∧ w'.cell? ⟨w.heap.size, 4, none⟩ = some (.int .i64 yk) ∧ w'.cell? ⟨g, 4, none⟩ = some (.slice x.A4 x.n4 x.c4)) (first | go_keep | (refine ⟨?_, ?_, ?_⟩ <;> assumption)) (first | ((go_at_call 275; (with_reducible refine (htk S0.out.drew.lk).mono ?_); rintro e w1 hk1); have S1 := hdd (S0.out.drew.next hk1); obtain ⟨rfl, _, _, _⟩ := hk1; obtain ⟨z1_0, z1_1, z1_2, z1_3, z1_4, z1_5⟩ := S1.out.ib.cells; obtain ⟨_, _, _, g1_4, _, _, _, gl1⟩ := S1.out.lk.cells) | ((go_at_call 274; (with_reducible refine (qd7 S1.out.lk _).mono ?_); rintro e w2 hk2); have S2 := hdd (S1.out.next hk2); obtain ⟨rfl, _, _, _⟩ := hk2; obtain ⟨z2_0, z2_1, z2_2, z2_3, z2_4, z2_5⟩ := S2.out.ib.cells; obtain ⟨_, _, _, g2_4, g2_7, _, gf2, gl2⟩ := S2.out.lk.cells) | fail "no arm"); rw [HPT.out] at g2_7
        by_cases hmin:yk≤(x.n4:Int)
        · by_cases hmax:s.past≤(i:Int)+1+yk
          · skip
            go_upto_region 6 with fail;go_region
            all_goals go_wp2
            all_goals
              go_end0;refine ((S2.out.next (qr3 S2.out.lk _)).drew.done).as (qy8 ?_ ?_)
              · first
                  | exact hB.out
                  | (rw [← hB.out,decide_eq_false_iff_not];omega)
                  | (exfalso;omega)
              · have:=HM.out;omega
          · skip
            go_upto_region 6 with fail;go_region
            all_goals go_wp2
            all_goals
              go_end0;refine ((S2.out.next (qr3 S2.out.lk _)).drew.done).as (qy8 ?_ ?_)
              · first
                  | exact hB.out
                  | (rw [← hB.out,decide_eq_false_iff_not];omega)
                  | (exfalso;omega)
              · have:=HM.out;omega
        · by_cases hmax:s.past≤(i:Int)+1+(x.n4:Int)
          · skip
            go_upto_region 6 with fail;go_region
            all_goals go_wp2
            all_goals
              go_end0;refine ((S2.out.next (qr3 S2.out.lk _)).drew.done).as (qy8 ?_ ?_)
              · first
                  | exact hB.out
                  | (rw [← hB.out,decide_eq_false_iff_not];omega)
                  | (exfalso;omega)
              · have:=HM.out;omega
          · skip
            go_upto_region 6 with fail;go_region
            all_goals go_wp2
            all_goals
              go_end0;refine ((S2.out.next (qr3 S2.out.lk _)).drew.done).as (qy8 ?_ ?_)
              · first
                  | exact hB.out
                  | (rw [← hB.out,decide_eq_false_iff_not];omega)
                  | (exfalso;omega)
              · have:=HM.out;omega
    · have kd:decide (0≤yk)=false:=decide_eq_false k0;have hB:=hdd (show false=tb from by rw [← htb,decide_eq_false k0,Bool.false_and,Bool.and_false]);clear htb;go_enter Tryz.func224,Tryz.ntmps224;go_upto_region 5 with (first | (go_at_call 271;(with_reducible refine (hsg _).mono ?_);rintro e w1 ⟨rfl,rfl⟩) | fail "no arm");refine wp_region_held_drew (S:=fun w' => w'.cell? ⟨w.heap.size,1,none⟩=some (.int .i64 ya)∧w'.cell? ⟨w.heap.size,4,none⟩=some (.int .i64 yk)∧w'.cell? ⟨g,4,none⟩=some (.slice x.A4 x.n4 x.c4)) (by kernel_rfl) ⟨z1,z4,g4⟩ (fun hHeld => ?_);refine tkS 0 ?_;refine tkS 1 ?_;refine tkS 2 ?_;refine tkS 3 ?_ (hy:=Or.inl ⟨by rfl,by (intro w hSw;(try dsimp only at hSw);obtain ⟨s1,s2,s3⟩:=hSw;go_simp;rfl)⟩);refine on1 4 (fun K hK => ?_);go_simp
      (go_at_call 275;(with_reducible refine (htk S0.out.drew.lk).mono ?_);rintro e w1 hk1)
      have S1:=hdd (S0.out.drew.next hk1);obtain ⟨rfl,_,_,_⟩:=hk1;obtain ⟨z1_0,z1_1,z1_2,z1_3,z1_4,z1_5⟩:=S1.out.ib.cells;obtain ⟨_,_,_,g1_4,_,_,_,gl1⟩:=S1.out.lk.cells;refine hK.out _ _ (⟨z1_1,z1_4,g1_4⟩) (fun hHeld => ?_);clear hK K;refine nmz ?_;refine tkS 5 ?_;refine tkS 6 ?_;refine tkS 7 ?_;refine tkS 8 ?_ (hy:=Or.inl ⟨by rfl,by (intro w hSw;(try dsimp only at hSw);obtain ⟨s1,s2,s3⟩:=hSw;go_simp;rfl)⟩);refine tkS 9 ?_;refine tkS 10 ?_;refine tkS 11 ?_;refine tkU 12 ?_;refine tkU 13 ?_;refine tkU 14 ?_;refine tkU 15 ?_;refine tkU 16 ?_;refine tkU 17 ?_;refine tkU 18 ?_;refine tkU 19 ?_;refine tkU 20 ?_;refine tkU 21 ?_;refine tkU 22 ?_;refine tkU 23 ?_;refine tkS 24 ?_;refine on1 25 (fun K hK => ?_);go_simp
      (go_at_call 274;(with_reducible refine (qd7 S1.out.lk _).mono ?_);rintro e w2 hk2)
      have S2:=hdd (S1.out.next hk2);obtain ⟨rfl,_,_,_⟩:=hk2;obtain ⟨z2_0,z2_1,z2_2,z2_3,z2_4,z2_5⟩:=S2.out.ib.cells;obtain ⟨_,_,_,g2_4,g2_7,_,gf2,gl2⟩:=S2.out.lk.cells;refine hK.out _ _ (⟨z2_1,z2_4,g2_4⟩) (fun hHeld => ?_);clear hK K;refine nmz ?_;refine wpAnyH_done (by decide +kernel) ?_ _;rw [HPT.out] at g2_7;have hmin:yk≤(x.n4:Int):=omg
      by_cases hmax:s.past≤(i:Int)+1+yk
      · skip
        go_upto_region 6 with fail;go_region
        all_goals go_wp2
        all_goals
          go_end0;refine ((S2.out.next (qr3 S2.out.lk _)).drew.done).as (qy8 ?_ ?_)
          · first
              | exact hB.out
              | (rw [← hB.out,decide_eq_false_iff_not];omega)
              | (exfalso;omega)
          · have:=HM.out;omega
      · skip
        go_upto_region 6 with fail;go_region
        all_goals go_wp2
        all_goals
          go_end0;refine ((S2.out.next (qr3 S2.out.lk _)).drew.done).as (qy8 ?_ ?_)
          · first
              | exact hB.out
              | (rw [← hB.out,decide_eq_false_iff_not];omega)
              | (exfalso;omega)
          · have:=HM.out;omega
  · have t2b:(tv == 2)=false:=by rw [beq_eq_false_iff_ne];exact t2
    have hB:=hdd (show false=tb from by rw [← htb,decide_eq_false t2,Bool.false_and]);clear htb;go_enter Tryz.func224,Tryz.ntmps224;go_upto_region 5 with (first | (go_at_call 271;(with_reducible refine (hsg _).mono ?_);rintro e w1 ⟨rfl,rfl⟩) | fail "no arm");refine wp_region_held_drew (S:=fun w' => w'.cell? ⟨w.heap.size,1,none⟩=some (.int .i64 ya)∧w'.cell? ⟨w.heap.size,4,none⟩=some (.int .i64 yk)∧w'.cell? ⟨g,4,none⟩=some (.slice x.A4 x.n4 x.c4)) (by kernel_rfl) ⟨z1,z4,g4⟩ (fun hHeld => ?_);refine tkS 0 ?_;refine tkS 1 ?_;refine tkS 2 ?_;refine tkS 3 ?_ (hy:=Or.inl ⟨by rfl,by (intro w hSw;(try dsimp only at hSw);obtain ⟨s1,s2,s3⟩:=hSw;go_simp;rfl)⟩);refine on1 4 (fun K hK => ?_);go_simp
    (go_at_call 275;(with_reducible refine (htk S0.out.drew.lk).mono ?_);rintro e w1 hk1)
    have S1:=hdd (S0.out.drew.next hk1);obtain ⟨rfl,_,_,_⟩:=hk1;obtain ⟨z1_0,z1_1,z1_2,z1_3,z1_4,z1_5⟩:=S1.out.ib.cells;obtain ⟨_,_,_,g1_4,_,_,_,gl1⟩:=S1.out.lk.cells;refine hK.out _ _ (⟨z1_1,z1_4,g1_4⟩) (fun hHeld => ?_);clear hK K;refine nmz ?_;refine tkS 5 ?_;refine tkS 6 ?_;refine tkU 7 ?_;refine tkU 8 ?_;refine tkU 9 ?_;refine tkS 10 ?_;refine tkS 11 ?_;refine tkU 12 ?_;refine tkU 13 ?_;refine tkU 14 ?_;refine tkU 15 ?_;refine tkU 16 ?_;refine tkU 17 ?_;refine tkU 18 ?_;refine tkU 19 ?_;refine tkU 20 ?_;refine tkU 21 ?_;refine tkU 22 ?_;refine tkU 23 ?_;refine tkS 24 ?_;refine on1 25 (fun K hK => ?_);go_simp
    (go_at_call 274;(with_reducible refine (qd7 S1.out.lk _).mono ?_);rintro e w2 hk2)
    have S2:=hdd (S1.out.next hk2);obtain ⟨rfl,_,_,_⟩:=hk2;obtain ⟨z2_0,z2_1,z2_2,z2_3,z2_4,z2_5⟩:=S2.out.ib.cells;obtain ⟨_,_,_,g2_4,g2_7,_,gf2,gl2⟩:=S2.out.lk.cells;refine hK.out _ _ (⟨z2_1,z2_4,g2_4⟩) (fun hHeld => ?_);clear hK K;refine nmz ?_;refine wpAnyH_done (by decide +kernel) ?_ _;rw [HPT.out] at g2_7
    by_cases hmin:yk≤(x.n4:Int)
    · by_cases hmax:s.past≤(i:Int)+1+yk
      · skip
        go_upto_region 6 with fail;go_region
        all_goals go_wp2
        all_goals
          go_end0;refine ((S2.out.next (qr3 S2.out.lk _)).drew.done).as (qy8 ?_ ?_)
          · first
              | exact hB.out
              | (rw [← hB.out,decide_eq_false_iff_not];omega)
              | (exfalso;omega)
          · have:=HM.out;omega
      · skip
        go_upto_region 6 with fail;go_region
        all_goals go_wp2
        all_goals
          go_end0;refine ((S2.out.next (qr3 S2.out.lk _)).drew.done).as (qy8 ?_ ?_)
          · first
              | exact hB.out
              | (rw [← hB.out,decide_eq_false_iff_not];omega)
              | (exfalso;omega)
          · have:=HM.out;omega
    · by_cases hmax:s.past≤(i:Int)+1+(x.n4:Int)
      · skip
        go_upto_region 6 with fail;go_region
        all_goals go_wp2
        all_goals
          go_end0;refine ((S2.out.next (qr3 S2.out.lk _)).drew.done).as (qy8 ?_ ?_)
          · first
              | exact hB.out
              | (rw [← hB.out,decide_eq_false_iff_not];omega)
              | (exfalso;omega)
          · have:=HM.out;omega
      · skip
        go_upto_region 6 with fail;go_region
        all_goals go_wp2
        all_goals
          go_end0;refine ((S2.out.next (qr3 S2.out.lk _)).drew.done).as (qy8 ?_ ?_)
          · first
              | exact hB.out
              | (rw [← hB.out,decide_eq_false_iff_not];omega)
              | (exfalso;omega)
          · have:=HM.out;omega
end
end Go.Proofs.YtmeebofhlilcmaaGreat
