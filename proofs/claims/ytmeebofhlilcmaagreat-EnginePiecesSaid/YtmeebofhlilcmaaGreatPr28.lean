/- Parts. -/
import Derived.Test.YtmeebofhlilcmaaGreatPr27
set_option linter.unusedVariables false
set_option linter.unusedSimpArgs false
set_option maxRecDepth 100000
set_option maxHeartbeats 0
namespace Go.Proofs.YtmeebofhlilcmaaGreat
open Go.RowKit
section
variable {w w':World} {base g:Nat} {x:PA} {p:PV} {s s':LkV}
def Olds (w:World)(base:Nat)(x:PA)(p:PV):Prop:=∃ w0,bZ w0 x p/\w0.heap.size<=base/\Below base w0 w
theorem Olds.rd (h:Olds w base x p)(hb:Below base w w'):bZ w' x p:=by
 obtain⟨w0,h1,h2,h3⟩:=h;exact h1.below (h3.trans hb) h2
theorem lkinstr_cell (h:LkAt w base g x p s)(hs:base<=w.heap.size)(hp:Olds w base x p)(y:Ins)(i:Nat)(ho:y.op=21) :
 Ca 224 #[.pointer (some ⟨g,0,none⟩),I (i:Nat),.agg #[I y.op,I y.a,I y.b,I y.c,I y.k]] w (eq w base g x p (bU p s i y) none):=by
 obtain⟨op,ya,yb,yc,yk⟩:=y;have S0:=aT (show LkS w base g x p ⟨op,ya,yb,yc,yk⟩ w.heap.size s (w.alloc (.cells #[I op,I ya,I yb,I yc,I yk] 144)) from LkS.first h hs ⟨op,ya,yb,yc,yk⟩);simp only at ho;subst ho;have hsg:=fun W=>iQ 21 W
 rw[show sgn3 21=(0,0,false) from rfl] at hsg;obtain⟨z0,z1,z2,z3,z4,z5⟩:=S0.out.ib.cells;go_enter Tryz.func224,Tryz.ntmps224;go_upto_region 20 with (first | (go_at_call 271;go_call (hsg _) as e w1 ⟨rfl,rfl⟩) | fail);go_region_held3 (fun w'=>w'.cell? ⟨w.heap.size,1,none⟩=some (I ya)/\w'.cell? ⟨w.heap.size,4,none⟩=some (I yk)) (first | go_keep | (refine⟨?_,?_⟩ <;> assumption)) (first | ((go_at_call 276;go_call (pA S0.out.drew.lk (hp.rd S0.out.drew.bel) _) as e w1 hk1);have S1:=aT (S0.out.drew.next hk1);obtain⟨rfl,_,_,_⟩:=hk1;obtain⟨z1_0,z1_1,z1_2,z1_3,z1_4,z1_5⟩:=S1.out.ib.cells) | ((go_at_call 273;go_call (fQ S1.out.lk _ _) as e w6 hk6);have S6:=aT (S1.out.next hk6);obtain⟨rfl,_,_,_⟩:=hk6;obtain⟨z6_0,z6_1,z6_2,z6_3,z6_4,z6_5⟩:=S6.out.ib.cells) | fail);go_wp2;go_end0;exact S6.out.done.as rfl
theorem lkinstr_in (h:LkAt w base g x p s)(hs:base<=w.heap.size)(hp:Olds w base x p)(y:Ins)(i:Nat)(ho:y.op=28) :
 Ca 224 #[.pointer (some ⟨g,0,none⟩),I (i:Nat),.agg #[I y.op,I y.a,I y.b,I y.c,I y.k]] w (eq w base g x p (bU p s i y) none):=by
 obtain⟨op,ya,yb,yc,yk⟩:=y;have S0:=aT (show LkS w base g x p ⟨op,ya,yb,yc,yk⟩ w.heap.size s (w.alloc (.cells #[I op,I ya,I yb,I yc,I yk] 144)) from LkS.first h hs ⟨op,ya,yb,yc,yk⟩);simp only at ho;subst ho;have hsg:=fun W=>iQ 28 W
 rw[show sgn3 28=(0,0,false) from rfl] at hsg;obtain⟨z0,z1,z2,z3,z4,z5⟩:=S0.out.ib.cells;obtain⟨g0,g1,g3,g4,g7,g8,gf,gl⟩:=S0.out.lk.cells;clear g1 g3 g4 g7 g8;go_enter Tryz.func224,Tryz.ntmps224;go_upto_region 22 with (first | (go_at_call 271;go_call (hsg _) as e w1 ⟨rfl,rfl⟩) | fail);go_region_held3 (fun w'=>w'.cell? ⟨w.heap.size,1,none⟩=some (I ya)/\w'.cell? ⟨w.heap.size,4,none⟩=some (I yk)/\w'.cell? ⟨g,0,none⟩=some (.slice x.A1 x.n1 x.c1)) (first | go_keep | (refine⟨?_,?_,?_⟩ <;> assumption)) (first | ((go_at_call 277;go_call (lkone_any S0.out.drew.lk _ _ _ _ (hp.rd S0.out.drew.bel).r1 _) as e w1 hk1);have S1:=aT (S0.out.drew.next hk1);obtain⟨rfl,_,_,_⟩:=hk1;obtain⟨z1_0,z1_1,z1_2,z1_3,z1_4,z1_5⟩:=S1.out.ib.cells;obtain⟨g1_0,_,_,_,_,_,_,_⟩:=S1.out.lk.cells) | ((go_at_call 273;go_call (fQ S1.out.lk _ _) as e w6 hk6);have S6:=aT (S1.out.next hk6);obtain⟨rfl,_,_,_⟩:=hk6;obtain⟨z6_0,z6_1,z6_2,z6_3,z6_4,z6_5⟩:=S6.out.ib.cells;obtain⟨g6_0,_,_,_,_,_,_,_⟩:=S6.out.lk.cells) | fail);go_wp2;go_end0;exact S6.out.done.as rfl
theorem lkinstr_keep (h:LkAt w base g x p s)(hs:base<=w.heap.size)(hp:Olds w base x p)(y:Ins)(i:Nat)(ho:y.op=32) :
 Ca 224 #[.pointer (some ⟨g,0,none⟩),I (i:Nat),.agg #[I y.op,I y.a,I y.b,I y.c,I y.k]] w (eq w base g x p (bU p s i y) none):=by
 obtain⟨op,ya,yb,yc,yk⟩:=y;have S0:=aT (show LkS w base g x p ⟨op,ya,yb,yc,yk⟩ w.heap.size s (w.alloc (.cells #[I op,I ya,I yb,I yc,I yk] 144)) from LkS.first h hs ⟨op,ya,yb,yc,yk⟩);simp only at ho;subst ho;have hsg:=fun W=>iQ 32 W
 rw[show sgn3 32=(0,0,false) from rfl] at hsg;obtain⟨z0,z1,z2,z3,z4,z5⟩:=S0.out.ib.cells;go_enter Tryz.func224,Tryz.ntmps224;go_upto_region 30 with (first | (go_at_call 271;go_call (hsg _) as e w1 ⟨rfl,rfl⟩) | fail);go_region_held3 (fun w'=>w'.cell? ⟨w.heap.size,1,none⟩=some (I ya)/\w'.cell? ⟨w.heap.size,4,none⟩=some (I yk)) (first | go_keep | (refine⟨?_,?_⟩ <;> assumption)) (first | ((go_at_call 275;go_call (fP S0.out.drew.lk _) as e w1 hk1);have S1:=aT (S0.out.drew.next hk1);obtain⟨rfl,_,_,_⟩:=hk1;obtain⟨z1_0,z1_1,z1_2,z1_3,z1_4,z1_5⟩:=S1.out.ib.cells) | ((go_at_call 276;go_call (pA S1.out.lk (hp.rd S1.out.bel) _) as e w2 hk2);have S2:=aT (S1.out.next hk2);obtain⟨rfl,_,_,_⟩:=hk2;obtain⟨z2_0,z2_1,z2_2,z2_3,z2_4,z2_5⟩:=S2.out.ib.cells) | ((go_at_call 274;go_call (fe S2.out.lk _) as e w6 hk6);have S6:=aT (S2.out.next hk6);obtain⟨rfl,_,_,_⟩:=hk6;obtain⟨z6_0,z6_1,z6_2,z6_3,z6_4,z6_5⟩:=S6.out.ib.cells) | fail);go_wp2;go_end0;exact S6.out.done.as rfl
end
section
variable {w w':World} {base g:Nat} {x:PA} {p:PV} {s s':LkV}
theorem outs_at (h:LkAt w base g x p s){k:Nat}(hk:k<s.outs.length):∃ go no co,w.cell? ⟨g,6,none⟩=some (.slice (some ⟨go,0,none⟩) no co)/\k<no/\w.cell? ⟨go,k,none⟩=some (.bool (s.outs.getD k false))/\w.frozen? ⟨go,k,none⟩=false/\go<w.heap.size/\g≠go /\
 eq w base g x p { s with outs:=s.outs.set k true } none (.returned (.tuple #[])) (w.setCell ⟨go,k,none⟩ (.bool true)):=by
 obtain⟨K,nk,ck,O,no,co,hb,hg,hk',ho⟩:=h;have hol:=ho.1;obtain⟨go,hO,hgo,hgl⟩:=ho.addr aS;obtain⟨b1,o1,hO1,hb1,hc⟩:=ho.rd.2.at_ (show k<no by omega);rw[hO] at hO1;injection hO1 with hO1;injection hO1 with q1 q2 _;subst q1 q2;rw[gX s.outs k hk,aB] at hc;have e:s.outs.getD k false=s.outs[k]:=by rw[ag,ap hk];rfl
 subst hO;obtain⟨cs,hbk⟩:=eI (g:=go) ho rfl;have hne9:=hb.ne_ hbk aU;exact⟨go,no,co,hb.cell 6,aS,by rw[e];exact hc,ho.free k,hgl,hne9,rfl,⟨K,nk,ck,_,no,co,hb.far (p:=⟨go,k,none⟩) hne9 _,hg,hk'.setFar hbk aU k _,ho.set k true _ rfl⟩,(Below.refl _ _).setCell hgo _,Stay.set hbk aU _ _⟩
theorem lkneed_set (h:LkAt w base g x p s)(hb0:s.bad=false)(b:Bool):Ca 274 #[.pointer (some ⟨g,0,none⟩),.bool b] w fun e w'=>eq w base g x p (cL s b) none e w'/\w'=w.setCell ⟨g,8,none⟩ (.bool (!b)):=by
 obtain⟨K,nk,ck,O,no,co,hb,hg,hk,ho⟩:=h;have c8:=hb.c8;have f8:=hb.frozen 8;have hl:=hb.lt;have HB:=aT hb;have HK:=aT hk;have HO:=aT ho;have HB0:=aT hb0;clear hb hk ho;rw[hb0] at c8;clear hb0;go_enter Tryz.func274,Tryz.ntmps274;go_wp2;go_end0;refine⟨⟨rfl,⟨K,nk,ck,O,no,co,?_,hg,HK.out.setFar HB.out aU 8 _,HO.out.setFar HB.out aU 8 _⟩,(Below.refl _ _).setCell hg _,Stay.set HB.out aU _ _⟩,rfl⟩;have:=HB.out.set_ 8 (.bool (!b));simpa [lkC,cL,HB0.out] using this
theorem lkinstr_out (h:LkAt w base g x p s)(hs:base<=w.heap.size)(hp:Olds w base x p)(y:Ins)(i:Nat)(ho:y.op=29)(hol:s.outs.length=p.outs.length) :
 Ca 224 #[.pointer (some ⟨g,0,none⟩),I (i:Nat),.agg #[I y.op,I y.a,I y.b,I y.c,I y.k]] w (eq w base g x p (bU p s i y) none):=by
 obtain⟨op,ya,yb,yc,yk⟩:=y;have S0:=aT (show LkS w base g x p ⟨op,ya,yb,yc,yk⟩ w.heap.size s (w.alloc (.cells #[I op,I ya,I yb,I yc,I yk] 144)) from LkS.first h hs ⟨op,ya,yb,yc,yk⟩);simp only at ho;subst ho;have hsg:=fun W=>iQ 29 W
 rw[show sgn3 29=(0,0,false) from rfl] at hsg;obtain⟨z0,z1,z2,z3,z4,z5⟩:=S0.out.ib.cells;obtain⟨g0,g1,g3,g4,g7,g8,gf,gl⟩:=S0.out.lk.cells;clear g0 g3 g4 g8;go_enter Tryz.func224,Tryz.ntmps224;go_upto_region 24 with (first | (go_at_call 271;go_call (hsg _) as e w1 ⟨rfl,rfl⟩) | fail);go_region_held3 (fun w'=>w'.cell? ⟨w.heap.size,1,none⟩=some (I ya)/\w'.cell? ⟨w.heap.size,4,none⟩=some (I yk)/\w'.cell? ⟨g,1,none⟩=some (.slice x.A2 x.n2 x.c2)) (first | go_keep | (refine⟨?_,?_,?_⟩ <;> assumption)) (first | ((go_at_call 275;go_call (fP S0.out.drew.lk _) as e w1 hk1);have S1:=aT (S0.out.drew.next hk1);obtain⟨rfl,_,_,_⟩:=hk1;obtain⟨z1_0,z1_1,z1_2,z1_3,z1_4,z1_5⟩:=S1.out.ib.cells;obtain⟨_,g1_1,_,_,_,_,_,gl1⟩:=S1.out.lk.cells) | ((go_at_call 277;go_call (lkone_any S1.out.lk _ _ _ _ (hp.rd S1.out.bel).r2 _) as e w2 hk2);have S2:=aT (S1.out.next hk2);obtain⟨rfl,_,_,_⟩:=hk2;obtain⟨z2_0,z2_1,z2_2,z2_3,z2_4,z2_5⟩:=S2.out.ib.cells;obtain⟨_,g2_1,_,_,_,_,_,gl2⟩:=S2.out.lk.cells) | ((go_at_call 274;go_call (fe S2.out.lk _) as e w3 hk3);have S3:=aT (S2.out.next hk3);obtain⟨rfl,_,_,_⟩:=hk3;obtain⟨z3_0,z3_1,z3_2,z3_3,z3_4,z3_5⟩:=S3.out.ib.cells;obtain⟨_,g3_1,_,_,g3_7,_,_,gl3⟩:=S3.out.lk.cells) | fail);have hpast:(cL (oneV (cZ s ya).1 p.outs yk).1 ((cZ s ya).2 == (oneV (cZ s ya).1 p.outs yk).2)).past=s.past:=by
  rw[ix,jR];rfl
 rw[hpast] at g3_7;go_upto_region 26 with (first | ((go_at_call 274;go_call (fe S3.out.lk _) as e w4 hk4);have S4:=aT (S3.out.next hk4);obtain⟨rfl,_,_,_⟩:=hk4;obtain⟨z4_0,z4_1,z4_2,z4_3,z4_4,z4_5⟩:=S4.out.ib.cells) | fail);have hfin:bU p s i ⟨29,ya,yb,yc,yk⟩=(if (cL (cL (oneV (cZ s ya).1 p.outs yk).1 ((cZ s ya).2 == (oneV (cZ s ya).1 p.outs yk).2)) (decide (s.past<=(i:Int)))).bad then (cL (cL (oneV (cZ s ya).1 p.outs yk).1 ((cZ s ya).2 == (oneV (cZ s ya).1 p.outs yk).2)) (decide (s.past<=(i:Int)))) else { cL (cL (cL (oneV (cZ s ya).1 p.outs yk).1 ((cZ s ya).2 == (oneV (cZ s ya).1 p.outs yk).2)) (decide (s.past<=(i:Int)))) (!((cL (cL (oneV (cZ s ya).1 p.outs yk).1 ((cZ s ya).2 == (oneV (cZ s ya).1 p.outs yk).2)) (decide (s.past<=(i:Int)))).outs.getD yk.toNat false)) with outs:=(cL (cL (oneV (cZ s ya).1 p.outs yk).1 ((cZ s ya).2 == (oneV (cZ s ya).1 p.outs yk).2)) (decide (s.past<=(i:Int)))).outs.set yk.toNat true }):=by
  show (if _ then _ else _)=_
  rfl
 have hrange:(cL (cL (oneV (cZ s ya).1 p.outs yk).1 ((cZ s ya).2 == (oneV (cZ s ya).1 p.outs yk).2)) (decide (s.past<=(i:Int)))).bad=false->0<=yk/\yk<(p.outs.length:Int):=fun e=>by
  by_cases q:yk<0\/(p.outs.length:Int)<=yk
  · exfalso
    rw[jR,am q] at e;simp[cL] at e
  · omega
 have hlen:(cL (cL (oneV (cZ s ya).1 p.outs yk).1 ((cZ s ya).2 == (oneV (cZ s ya).1 p.outs yk).2)) (decide (s.past<=(i:Int)))).outs.length=p.outs.length:=by
  rw[ix,jR];exact hol
 generalize cL (cL (oneV (cZ s ya).1 p.outs yk).1 ((cZ s ya).2 == (oneV (cZ s ya).1 p.outs yk).2)) (decide (s.past<=(i:Int)))=s4 at *;have HF:=aT hfin;have HL:=aT hlen;obtain⟨_,_,_,_,_,g4_8,_,gl4⟩:=S4.out.lk.cells;clear hfin hlen hpast
 cases hb:s4.bad with
 | true=>
   rw[hb] at g4_8;have HB:=aT hb;clear hb hrange;go_wp2_with fail;go_end0;refine S4.out.done.as ?_;rw[HF.out,if_pos HB.out]
 | false=>
   rw[hb] at g4_8;obtain⟨r1,r2⟩:=hrange hb;obtain⟨k,rfl⟩:∃ k:Nat,yk=k:=⟨yk.toNat,aS⟩;have HB:=aT hb;clear hb hrange r1;obtain⟨go,no,co,c6,hkn,cgo,fgo,lgo,hne,hst⟩:=outs_at S4.out.lk (k:=k) (by rw[HL.out];omega);clear hst;have hk4:k<s4.outs.length:=by rw[HL.out];omega
   have n6:(⟨g,8,none⟩:Addr)≠⟨g,6,none⟩:=by simp
   have nk:(⟨g,8,none⟩:Addr)≠⟨go,k,none⟩:=fun e=>hne (by injection e)
   have N6:=aT n6;have NK:=aT nk;clear n6 nk;have HK4:=aT hk4;clear hk4;generalize hov:s4.outs.getD k false=ov at *;have HOV:=aT hov;clear hov;go_upto_region 27 with fail;go_region_held3 (fun w'=>w'.cell? ⟨w.heap.size,4,none⟩=some (I (k:Nat))/\w'.cell? ⟨g,6,none⟩=some (.slice (some ⟨go,0,none⟩) no co)/\w'.cell? ⟨go,k,none⟩=some (.bool ov)) (first | go_keep | (refine⟨?_,?_,?_⟩ <;> assumption)) (first | ((go_at_call 274;go_call (lkneed_set S4.out.drew.lk HB.out _) as e w5 ⟨hk5,hw5⟩);have S5:=aT (S4.out.drew.next hk5);obtain⟨rfl,_,_,_⟩:=hk5;obtain⟨z5_0,z5_1,z5_2,z5_3,z5_4,z5_5⟩:=S5.out.ib.cells;have c65:w5.cell? ⟨g,6,none⟩=some (.slice (some ⟨go,0,none⟩) no co):=(by rw[hw5];exact (World.cell?_setCell_other _ _ _ _ N6.out).trans c6);have cgo5:w5.cell? ⟨go,k,none⟩=some (.bool ov):=(by rw[hw5];exact (World.cell?_setCell_other _ _ _ _ NK.out).trans cgo);clear hw5) | fail);obtain⟨go5,no5,co5,c65b,hkn5,cgo5b,fgo5,lgo5,hne5,hst5⟩:=outs_at S5.out.lk (k:=k) (show k<(cL s4 (!ov)).outs.length from HK4.out);have e5:=c65.symm.trans c65b;injection e5 with e5;injection e5 with e5 _ _;injection e5 with e5;injection e5 with e5 _ _;subst e5;have H5:=aT (S5.out.next hst5);clear c65b hkn5 cgo5b hst5;go_upto_region 28 with fail;go_region;go_wp2;go_end0;exact H5.out.drew.done.as (by rw[HF.out,if_neg (by rw[HB.out];simp),av,HOV.out];rfl)
end
section
variable {w w':World} {base g:Nat} {x:PA} {p:PV} {s s':LkV}
theorem ie (h:LkAt w base g x p s)(z:Int):eq w base g x p { s with past:=z } none (.returned (.tuple #[])) (w.setCell ⟨g,7,none⟩ (I z)):=by
 obtain⟨K,nk,ck,O,no,co,hb,hg,hk,ho⟩:=h;exact⟨rfl,⟨K,nk,ck,O,no,co,hb.set_ 7 (I z),hg,hk.setFar hb aU 7 _,ho.setFar hb aU 7 _⟩,(Below.refl _ _).setCell hg _,Stay.set hb aU _ _⟩
theorem ig {s1:LkV}{b b':Bool}{z z':Int}(hb:b=b')(hz:z=z'):({ cL s1 b with past:=z }:LkV)={ cL s1 b' with past:=z' }:=by subst hb hz;rfl
def skipOp (op:Int):Prop:=fG op=false/\op≠1/\op≠2/\op≠3/\op≠27/\op≠21/\op≠28/\op≠29/\op≠32
theorem instrV_skip {y:Ins}(h:skipOp y.op)(i:Nat):bU p s i y={ cL (cZ s y.a).1 (decide ((cZ s y.a).2=2) && (decide (0<=y.k) && decide (y.k<=(p.code.length:Int) - 1 - (i:Int)))) with past:=max s.past ((i:Int)+1+min y.k (p.code.length:Int)) }:=by
 obtain⟨h0,h1,h2,h3,h4,h5,h6,h7,h8⟩:=h;unfold bU;rw[h0,if_neg bj,if_neg h1,if_neg h2,if_neg h3,if_neg h4,if_neg h5,if_neg h6,if_neg h7,if_neg h8];rw[ix]
 rfl
theorem lkinstr_skip (h:LkAt w base g x p s)(hs:base<=w.heap.size)(hp:Olds w base x p)(y:Ins)(i:Nat)(ho:skipOp y.op)(hi:i<p.code.length)(hcode:p.code.length<=100000)(hk:-9223372036854775808<=y.k/\y.k<=9223372036854775807) :
 Ca 224 #[.pointer (some ⟨g,0,none⟩),I (i:Nat),.agg #[I y.op,I y.a,I y.b,I y.c,I y.k]] w (eq w base g x p (bU p s i y) none):=by
 rw[instrV_skip ho];obtain⟨op,ya,yb,yc,yk⟩:=y;have S0:=aT (show LkS w base g x p ⟨op,ya,yb,yc,yk⟩ w.heap.size s (w.alloc (.cells #[I op,I ya,I yb,I yc,I yk] 144)) from LkS.first h hs ⟨op,ya,yb,yc,yk⟩);simp only at ho hk ⊢;obtain⟨o0,o1,o2,o3,o27,o21,o28,o29,o32⟩:=ho;have hsg:=fun W=>iQ op W
 rw[show sgn3 op=(0,0,false) from by unfold sgn3;rw[o0];rfl] at hsg;have b1:(op == 1)=false:=by rw[ae];exact o1
 have b2:(op == 2)=false:=by rw[ae];exact o2
 have b3:(op == 3)=false:=by rw[ae];exact o3
 have b27:(op == 27)=false:=by rw[ae];exact o27
 have b21:(op == 21)=false:=by rw[ae];exact o21
 have b28:(op == 28)=false:=by rw[ae];exact o28
 have b29:(op == 29)=false:=by rw[ae];exact o29
 have b32:(op == 32)=false:=by rw[ae];exact o32
 clear o0 o1 o2 o3 o27 o21 o28 o29 o32;obtain⟨z0,z1,z2,z3,z4,z5⟩:=S0.out.ib.cells;obtain⟨g0,g1,g3,g4,g7,g8,gf,gl⟩:=S0.out.lk.cells;clear g0 g1 g3 g7 g8;have hn4:p.code.length=x.n4:=by obtain⟨w0,hr,_⟩:=hp;exact hr.r4.1
 have hn4m:x.n4<=maxLen:=by obtain⟨w0,hr,_⟩:=hp;have:=hr.k4;omega
 rw[hn4] at hi hcode ⊢;unfold maxLen at hn4m;have HN4:=aT hn4;clear hn4;have hpast:∀ b,(cL (cZ s ya).1 b).past=s.past:=fun b=>by rw[ix];rfl
 have HPT:=aT hpast;clear hpast;have htk:=fun {W:World} (L:LkAt W base g x p s)=>fP L ya
 generalize cZ s ya=T at *;obtain⟨s1,tv⟩:=T;simp only at htk HPT ⊢;generalize hM:max s.past ((i:Int)+1+min yk (x.n4:Int))=M;generalize htb:(decide (tv=2) && (decide (0<=yk) && decide (yk<=(x.n4:Int) - 1 - (i:Int))))=tb;have HM:=aT hM;clear hM;have w1:IntKind.i64.wrap ((x.n4:Int) - 1)=(x.n4:Int) - 1:=by rw[IntKind.wrap_i64];omega
 have w2':IntKind.i64.wrap ((x.n4:Int) - 1 - (i:Int))=(x.n4:Int) - 1 - (i:Int):=by rw[IntKind.wrap_i64];omega
 by_cases t2:tv=2
 · subst t2
   by_cases k0:0<=yk
   · by_cases k1:yk<=(x.n4:Int) - 1 - (i:Int)
     · have hB:=aT (show true=tb from by rw[<- htb,am (rfl:(2:Int)=2),am k0,am k1];rfl);clear htb;go_enter Tryz.func224,Tryz.ntmps224;go_upto_region 5 with (first | (go_at_call 271;go_call (hsg _) as e w1 ⟨rfl,rfl⟩) | fail);go_region_held3 (fun w'=>w'.cell? ⟨w.heap.size,1,none⟩=some (I ya)/\w'.cell? ⟨w.heap.size,4,none⟩=some (I yk)/\w'.cell? ⟨g,4,none⟩=some (.slice x.A4 x.n4 x.c4)) (first | go_keep | (refine⟨?_,?_,?_⟩ <;> assumption)) (first | ((go_at_call 275;go_call (htk S0.out.drew.lk) as e w1 hk1);have S1:=aT (S0.out.drew.next hk1);obtain⟨rfl,_,_,_⟩:=hk1;obtain⟨z1_0,z1_1,z1_2,z1_3,z1_4,z1_5⟩:=S1.out.ib.cells;obtain⟨_,_,_,g1_4,_,_,_,gl1⟩:=S1.out.lk.cells) | ((go_at_call 274;go_call (fe S1.out.lk _) as e w2 hk2);have S2:=aT (S1.out.next hk2);obtain⟨rfl,_,_,_⟩:=hk2;obtain⟨z2_0,z2_1,z2_2,z2_3,z2_4,z2_5⟩:=S2.out.ib.cells;obtain⟨_,_,_,g2_4,g2_7,_,gf2,gl2⟩:=S2.out.lk.cells) | fail);rw[HPT.out] at g2_7;have hmin:yk<=(x.n4:Int):=aS
       by_cases hmax:s.past<=(i:Int)+1+yk
       · skip
         go_upto_region 6 with fail;go_region
         all_goals go_wp2
         all_goals
          go_end0;refine ((S2.out.next (ie S2.out.lk _)).drew.done).as (ig ?_ ?_)
          · first
             | exact hB.out
             | (rw[<- hB.out,aD];omega)
             | (exfalso;omega)
          · have:=HM.out;omega
       · skip
         go_upto_region 6 with fail;go_region
         all_goals go_wp2
         all_goals
          go_end0;refine ((S2.out.next (ie S2.out.lk _)).drew.done).as (ig ?_ ?_)
          · first
             | exact hB.out
             | (rw[<- hB.out,aD];omega)
             | (exfalso;omega)
          · have:=HM.out;omega
     · have hB:=aT (show false=tb from by rw[<- htb,ah k1,Bool.and_false,Bool.and_false]);clear htb;go_enter Tryz.func224,Tryz.ntmps224;go_upto_region 5 with (first | (go_at_call 271;go_call (hsg _) as e w1 ⟨rfl,rfl⟩) | fail);go_region_held3 (fun w'=>w'.cell? ⟨w.heap.size,1,none⟩=some (I ya)/\w'.cell? ⟨w.heap.size,4,none⟩=some (I yk)/\w'.cell? ⟨g,4,none⟩=some (.slice x.A4 x.n4 x.c4)) (first | go_keep | (refine⟨?_,?_,?_⟩ <;> assumption)) (first | ((go_at_call 275;go_call (htk S0.out.drew.lk) as e w1 hk1);have S1:=aT (S0.out.drew.next hk1);obtain⟨rfl,_,_,_⟩:=hk1;obtain⟨z1_0,z1_1,z1_2,z1_3,z1_4,z1_5⟩:=S1.out.ib.cells;obtain⟨_,_,_,g1_4,_,_,_,gl1⟩:=S1.out.lk.cells) | ((go_at_call 274;go_call (fe S1.out.lk _) as e w2 hk2);have S2:=aT (S1.out.next hk2);obtain⟨rfl,_,_,_⟩:=hk2;obtain⟨z2_0,z2_1,z2_2,z2_3,z2_4,z2_5⟩:=S2.out.ib.cells;obtain⟨_,_,_,g2_4,g2_7,_,gf2,gl2⟩:=S2.out.lk.cells) | fail);rw[HPT.out] at g2_7
       by_cases hmin:yk<=(x.n4:Int)
       · by_cases hmax:s.past<=(i:Int)+1+yk
         · skip
           go_upto_region 6 with fail;go_region
           all_goals go_wp2
           all_goals
            go_end0;refine ((S2.out.next (ie S2.out.lk _)).drew.done).as (ig ?_ ?_)
            · first
               | exact hB.out
               | (rw[<- hB.out,aD];omega)
               | (exfalso;omega)
            · have:=HM.out;omega
         · skip
           go_upto_region 6 with fail;go_region
           all_goals go_wp2
           all_goals
            go_end0;refine ((S2.out.next (ie S2.out.lk _)).drew.done).as (ig ?_ ?_)
            · first
               | exact hB.out
               | (rw[<- hB.out,aD];omega)
               | (exfalso;omega)
            · have:=HM.out;omega
       · by_cases hmax:s.past<=(i:Int)+1+(x.n4:Int)
         · skip
           go_upto_region 6 with fail;go_region
           all_goals go_wp2
           all_goals
            go_end0;refine ((S2.out.next (ie S2.out.lk _)).drew.done).as (ig ?_ ?_)
            · first
               | exact hB.out
               | (rw[<- hB.out,aD];omega)
               | (exfalso;omega)
            · have:=HM.out;omega
         · skip
           go_upto_region 6 with fail;go_region
           all_goals go_wp2
           all_goals
            go_end0;refine ((S2.out.next (ie S2.out.lk _)).drew.done).as (ig ?_ ?_)
            · first
               | exact hB.out
               | (rw[<- hB.out,aD];omega)
               | (exfalso;omega)
            · have:=HM.out;omega
   · have kd:=ah k0;have hB:=aT (show false=tb from by rw[<- htb,ah k0,Bool.false_and,Bool.and_false]);clear htb;go_enter Tryz.func224,Tryz.ntmps224;go_upto_region 5 with (first | (go_at_call 271;go_call (hsg _) as e w1 ⟨rfl,rfl⟩) | fail);refine wp_region_held_drew (S:=fun w'=>w'.cell? ⟨w.heap.size,1,none⟩=some (I ya)/\w'.cell? ⟨w.heap.size,4,none⟩=some (I yk)/\w'.cell? ⟨g,4,none⟩=some (.slice x.A4 x.n4 x.c4)) bQ ⟨z1,z4,g4⟩ (fun hHeld=>?_);refine aW 0 ?_;refine aW 1 ?_;refine aW 2 ?_;refine aW 3 ?_ (hy:=Or.inl ⟨by rfl,eU⟩);refine bS 4 (fun K hK=>?_);go_simp
     (go_at_call 275;go_call (htk S0.out.drew.lk) as e w1 hk1)
     have S1:=aT (S0.out.drew.next hk1);obtain⟨rfl,_,_,_⟩:=hk1;obtain⟨z1_0,z1_1,z1_2,z1_3,z1_4,z1_5⟩:=S1.out.ib.cells;obtain⟨_,_,_,g1_4,_,_,_,gl1⟩:=S1.out.lk.cells;refine hK.out _ _ (⟨z1_1,z1_4,g1_4⟩) (fun hHeld=>?_);clear hK K;refine bK ?_;refine aW 5 ?_;refine aW 6 ?_;refine aW 7 ?_;refine aW 8 ?_ (hy:=Or.inl ⟨by rfl,eU⟩);refine aW 9 ?_;refine aW 10 ?_;refine aW 11 ?_;refine bD 12 ?_;refine bD 13 ?_;refine bD 14 ?_;refine bD 15 ?_;refine bD 16 ?_;refine bD 17 ?_;refine bD 18 ?_;refine bD 19 ?_;refine bD 20 ?_;refine bD 21 ?_;refine bD 22 ?_;refine bD 23 ?_;refine aW 24 ?_;refine bS 25 (fun K hK=>?_);go_simp
     (go_at_call 274;go_call (fe S1.out.lk _) as e w2 hk2)
     have S2:=aT (S1.out.next hk2);obtain⟨rfl,_,_,_⟩:=hk2;obtain⟨z2_0,z2_1,z2_2,z2_3,z2_4,z2_5⟩:=S2.out.ib.cells;obtain⟨_,_,_,g2_4,g2_7,_,gf2,gl2⟩:=S2.out.lk.cells;refine hK.out _ _ (⟨z2_1,z2_4,g2_4⟩) (fun hHeld=>?_);clear hK K;refine bK ?_;refine wpAnyH_done bV ?_ _;rw[HPT.out] at g2_7;have hmin:yk<=(x.n4:Int):=aS
     by_cases hmax:s.past<=(i:Int)+1+yk
     · skip
       go_upto_region 6 with fail;go_region
       all_goals go_wp2
       all_goals
        go_end0;refine ((S2.out.next (ie S2.out.lk _)).drew.done).as (ig ?_ ?_)
        · first
           | exact hB.out
           | (rw[<- hB.out,aD];omega)
           | (exfalso;omega)
        · have:=HM.out;omega
     · skip
       go_upto_region 6 with fail;go_region
       all_goals go_wp2
       all_goals
        go_end0;refine ((S2.out.next (ie S2.out.lk _)).drew.done).as (ig ?_ ?_)
        · first
           | exact hB.out
           | (rw[<- hB.out,aD];omega)
           | (exfalso;omega)
        · have:=HM.out;omega
 · have t2b:(tv == 2)=false:=by rw[ae];exact t2
   have hB:=aT (show false=tb from by rw[<- htb,ah t2,Bool.false_and]);clear htb;go_enter Tryz.func224,Tryz.ntmps224;go_upto_region 5 with (first | (go_at_call 271;go_call (hsg _) as e w1 ⟨rfl,rfl⟩) | fail);refine wp_region_held_drew (S:=fun w'=>w'.cell? ⟨w.heap.size,1,none⟩=some (I ya)/\w'.cell? ⟨w.heap.size,4,none⟩=some (I yk)/\w'.cell? ⟨g,4,none⟩=some (.slice x.A4 x.n4 x.c4)) bQ ⟨z1,z4,g4⟩ (fun hHeld=>?_);refine aW 0 ?_;refine aW 1 ?_;refine aW 2 ?_;refine aW 3 ?_ (hy:=Or.inl ⟨by rfl,eU⟩);refine bS 4 (fun K hK=>?_);go_simp
   (go_at_call 275;go_call (htk S0.out.drew.lk) as e w1 hk1)
   have S1:=aT (S0.out.drew.next hk1);obtain⟨rfl,_,_,_⟩:=hk1;obtain⟨z1_0,z1_1,z1_2,z1_3,z1_4,z1_5⟩:=S1.out.ib.cells;obtain⟨_,_,_,g1_4,_,_,_,gl1⟩:=S1.out.lk.cells;refine hK.out _ _ (⟨z1_1,z1_4,g1_4⟩) (fun hHeld=>?_);clear hK K;refine bK ?_;refine aW 5 ?_;refine aW 6 ?_;refine bD 7 ?_;refine bD 8 ?_;refine bD 9 ?_;refine aW 10 ?_;refine aW 11 ?_;refine bD 12 ?_;refine bD 13 ?_;refine bD 14 ?_;refine bD 15 ?_;refine bD 16 ?_;refine bD 17 ?_;refine bD 18 ?_;refine bD 19 ?_;refine bD 20 ?_;refine bD 21 ?_;refine bD 22 ?_;refine bD 23 ?_;refine aW 24 ?_;refine bS 25 (fun K hK=>?_);go_simp
   (go_at_call 274;go_call (fe S1.out.lk _) as e w2 hk2)
   have S2:=aT (S1.out.next hk2);obtain⟨rfl,_,_,_⟩:=hk2;obtain⟨z2_0,z2_1,z2_2,z2_3,z2_4,z2_5⟩:=S2.out.ib.cells;obtain⟨_,_,_,g2_4,g2_7,_,gf2,gl2⟩:=S2.out.lk.cells;refine hK.out _ _ (⟨z2_1,z2_4,g2_4⟩) (fun hHeld=>?_);clear hK K;refine bK ?_;refine wpAnyH_done bV ?_ _;rw[HPT.out] at g2_7
   by_cases hmin:yk<=(x.n4:Int)
   · by_cases hmax:s.past<=(i:Int)+1+yk
     · skip
       go_upto_region 6 with fail;go_region
       all_goals go_wp2
       all_goals
        go_end0;refine ((S2.out.next (ie S2.out.lk _)).drew.done).as (ig ?_ ?_)
        · first
           | exact hB.out
           | (rw[<- hB.out,aD];omega)
           | (exfalso;omega)
        · have:=HM.out;omega
     · skip
       go_upto_region 6 with fail;go_region
       all_goals go_wp2
       all_goals
        go_end0;refine ((S2.out.next (ie S2.out.lk _)).drew.done).as (ig ?_ ?_)
        · first
           | exact hB.out
           | (rw[<- hB.out,aD];omega)
           | (exfalso;omega)
        · have:=HM.out;omega
   · by_cases hmax:s.past<=(i:Int)+1+(x.n4:Int)
     · skip
       go_upto_region 6 with fail;go_region
       all_goals go_wp2
       all_goals
        go_end0;refine ((S2.out.next (ie S2.out.lk _)).drew.done).as (ig ?_ ?_)
        · first
           | exact hB.out
           | (rw[<- hB.out,aD];omega)
           | (exfalso;omega)
        · have:=HM.out;omega
     · skip
       go_upto_region 6 with fail;go_region
       all_goals go_wp2
       all_goals
        go_end0;refine ((S2.out.next (ie S2.out.lk _)).drew.done).as (ig ?_ ?_)
        · first
           | exact hB.out
           | (rw[<- hB.out,aD];omega)
           | (exfalso;omega)
        · have:=HM.out;omega
end
