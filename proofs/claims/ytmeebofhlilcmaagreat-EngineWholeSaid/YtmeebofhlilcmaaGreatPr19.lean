/- Parts. -/
import Derived.Test.YtmeebofhlilcmaaGreatPr18
set_option linter.unusedVariables false
set_option linter.unusedSimpArgs false
set_option maxRecDepth 100000
set_option maxHeartbeats 0
namespace Go.Proofs.YtmeebofhlilcmaaGreat
variable {b:Nat} {y:Ins} {w0 w1:World}
open Go.RowKit
section
variable {w w':World} {base g:Nat} {x:PA} {p:PV} {s s':LkV}
theorem LkAt.below (h:LkAt w base g x p s)(hb:Below w.heap.size w w'):LkAt w' base g x p s:=by
 obtain⟨K,nk,ck,O,no,co,b,hg,hk,ho⟩:=h;exact⟨K,nk,ck,O,no,co,b.below hb b.lt,hg,hk.below hb aW,ho.below hb aW⟩
theorem LkAt.cells (h:LkAt w base g x p s):w.cell? ⟨g,0,none⟩=some (.slice x.A1 x.n1 x.c1)/\w.cell? ⟨g,1,none⟩=some (.slice x.A2 x.n2 x.c2)/\w.cell? ⟨g,3,none⟩=some (.slice x.A3 x.n3 x.c3)/\w.cell? ⟨g,4,none⟩=some (.slice x.A4 x.n4 x.c4)/\w.cell? ⟨g,7,none⟩=some (I s.past)/\w.cell? ⟨g,8,none⟩=some (.bool s.bad)/\(∀ i,w.frozen? ⟨g,i,none⟩=false)/\g<w.heap.size:=by
 obtain⟨K,nk,ck,O,no,co,b,hg,hk,ho⟩:=h;exact⟨b.cell 0,b.cell 1,b.cell 3,b.cell 4,b.cell 7,b.cell 8,fun i=>b.frozen i,b.lt⟩
def boxI (w:World)(y:Ins):World:=w.alloc (.cells #[I y.op,I y.a,I y.b,I y.c,I y.k] 144)
def kF (w:World)(b:Nat)(y:Ins):Prop:=Blk w b 144 (insE y)
theorem boxI_blk (w:World)(y:Ins):kF (boxI w y) w.heap.size y:=Blk.top _ rfl rfl
theorem oL (w:World)(y:Ins):Below w.heap.size w (boxI w y):=(Below.refl _ _).alloc aW _
theorem kF.cells (h:kF w b y):w.cell? ⟨b,0,none⟩=some (I y.op)/\w.cell? ⟨b,1,none⟩=some (I y.a)/\w.cell? ⟨b,2,none⟩=some (I y.b)/\w.cell? ⟨b,3,none⟩=some (I y.c)/\w.cell? ⟨b,4,none⟩=some (I y.k)/\b<w.heap.size :=
 ⟨Blk.cell h 0,Blk.cell h 1,Blk.cell h 2,Blk.cell h 3,Blk.cell h 4,Blk.lt h⟩
theorem kF.stay (h:kF w b y)(t:Stay w w'):kF w' b y:=t _ _ _ aV h
structure LkS (w0:World)(base g:Nat)(x:PA)(p:PV)(y:Ins)(b:Nat)(s:LkV)(w:World):Prop where
 lk:LkAt w base g x p s
 ib:kF w b y
 bel:Below base w0 w
 st:Stay w0 w
theorem LkS.first (h:LkAt w base g x p s)(hs:base<=w.heap.size)(y:Ins):LkS w base g x p y w.heap.size s (boxI w y) :=
 ⟨h.below (oL w y),boxI_blk w y,(oL w y).mono hs,Stay.of_below (oL w y)⟩
theorem LkS.next {w2:World}{v:Option Int}{e:Ending}(h:LkS w0 base g x p y b s w1)(k:eq w1 base g x p s' v e w2):LkS w0 base g x p y b s' w2 :=
 ⟨k.2.1,h.ib.stay k.2.2.2,h.bel.trans k.2.2.1,h.st.trans k.2.2.2⟩
theorem LkS.drew (h:LkS w0 base g x p y b s w1):LkS w0 base g x p y b s w1.drew :=
 ⟨h.lk.below (Below.drew (Below.refl _ _)),h.ib,h.bel.trans (Below.drew (Below.refl _ _)),h.st.trans (Stay.of_below (Below.drew (Below.refl _ _)))⟩
theorem LkS.done (h:LkS w0 base g x p y b s w1):eq w0 base g x p s none (.returned (.tuple #[])) w1:=⟨rfl,h.lk,h.bel,h.st⟩
theorem eq.as {v:Option Int}{e:Ending}{s1 s2:LkV}(h:eq w base g x p s1 v e w')(q:s1=s2):eq w base g x p s2 v e w':=q ▸ h
theorem LkS.size (h:LkS w0 base g x p y b s w1):w0.heap.size<=w1.heap.size:=h.bel.size
def reckG (s:LkV)(y:Ins)(i o:Int):LkV :=
 let t:=cZ s y.b
 let s1:=cM t.1 (decide (i=0) || decide (t.2=i))
 let s2:=if y.op≠5/\y.op≠6 then (let u:=cZ s1 y.c;cM u.1 (decide (u.2=t.2))) else s1
 fp s2 y.a o
theorem reckV_eq (s:LkV)(y:Ins):reckV s y=reckG s y (fD y.op) (fE y.op):=rfl
theorem lkreckons_any (h:LkAt w base g x p s)(hs:base<=w.heap.size)(y:Ins)(i o:Int) :
 Ca 272 #[.pointer (some ⟨g,0,none⟩),.agg #[I y.op,I y.a,I y.b,I y.c,I y.k],I i,I o] w (eq w base g x p (reckG s y i o) none):=by
 obtain⟨op,ya,yb,yc,yk⟩:=y;have S0:=aT (show LkS w base g x p ⟨op,ya,yb,yc,yk⟩ w.heap.size s (w.alloc (.cells #[I op,I ya,I yb,I yc,I yk] 144)) from LkS.first h hs ⟨op,ya,yb,yc,yk⟩);rcases Decidable.em (i=0) with i0 | i0
 all_goals (rcases Decidable.em (op=5) with h5 | h5)
 all_goals (rcases Decidable.em (op=6) with h6 | h6)
 all_goals (
  first | (have bi:(i == 0)=true:=by rw[i0];rfl) | (have bi:(i == 0)=false:=by rw[ae];exact i0)
  first | (have b5:(op != 5)=false:=by rw[h5];rfl) | (have b5:(op != 5)=true:=by rw[af];exact h5)
  first | (have b6:(op != 6)=false:=by rw[h6];rfl) | (have b6:(op != 6)=true:=by rw[af];exact h6)
  have I0:=aT i0;have H5:=aT h5;have H6:=aT h6;clear i0 h5 h6;go_enter Tryz.func272,Tryz.ntmps272;go_wp2_with (first | ((go_at_call 275;(with_reducible refine (jB (S0.out.lk) _).mono ?_);rintro e w1 hk1);have S1:=aT (S0.out.next hk1);obtain⟨rfl,_,_,_⟩:=hk1;obtain⟨z10,z11,z12,z13,z14,z15⟩:=S1.out.ib.cells) | ((go_at_call 274;(with_reducible refine (it (S1.out.lk) _).mono ?_);rintro e w2 hk2);have S2:=aT (S1.out.next hk2);obtain⟨rfl,_,_,_⟩:=hk2;obtain⟨z20,z21,z22,z23,z24,z25⟩:=S2.out.ib.cells) | ((go_at_call 275;(with_reducible refine (jB (S2.out.lk) _).mono ?_);rintro e w3 hk3);have S3:=aT (S2.out.next hk3);obtain⟨rfl,_,_,_⟩:=hk3;obtain⟨z30,z31,z32,z33,z34,z35⟩:=S3.out.ib.cells) | ((go_at_call 274;(with_reducible refine (it (S3.out.lk) _).mono ?_);rintro e w4 hk4);have S4:=aT (S3.out.next hk4);obtain⟨rfl,_,_,_⟩:=hk4;obtain⟨z40,z41,z42,z43,z44,z45⟩:=S4.out.ib.cells) | ((go_at_call 273;(with_reducible refine (jC (S4.out.lk) _ _).mono ?_);rintro e w5 hk5);have S5:=aT (S4.out.next hk5);obtain⟨rfl,_,_,_⟩:=hk5) | ((go_at_call 273;(with_reducible refine (jC (S2.out.lk) _ _).mono ?_);rintro e w5 hk5);have S5:=aT (S2.out.next hk5);obtain⟨rfl,_,_,_⟩:=hk5) | fail);go_end0;refine S5.out.done.as ?_
  (try have h5:=H5.out)
  (try have h6:=H6.out)
  (try have i0:=I0.out)
  unfold reckG
  (try simp only[i0,h5,decide_true,decide_false,Bool.true_or,Bool.false_or,ne_eq,not_true_eq_false,not_false_eq_true,false_and,true_and,if_true,if_false])
  (try simp only[h6,not_true_eq_false,not_false_eq_true,if_true,if_false])
  (try rfl))
theorem lkinstr_sign (h:LkAt w base g x p s)(hs:base<=w.heap.size)(y:Ins)(i:Nat)(ho:fF y.op=true) :
 Ca 224 #[.pointer (some ⟨g,0,none⟩),I (i:Nat),.agg #[I y.op,I y.a,I y.b,I y.c,I y.k]] w (eq w base g x p (bU p s i y) none):=by
 obtain⟨op,ya,yb,yc,yk⟩:=y;have S0:=aT (show LkS w base g x p ⟨op,ya,yb,yc,yk⟩ w.heap.size s (w.alloc (.cells #[I op,I ya,I yb,I yc,I yk] 144)) from LkS.first h hs ⟨op,ya,yb,yc,yk⟩);simp only at ho;have hsg:=fun W=>jm op W
 rw[show sgn3 op=(fD op,fE op,true) from by unfold sgn3;rw[if_pos ho]] at hsg;have HO:=aT ho;have hrk:=fun (W:World) (L:LkAt W base g x p s) (hb:base<=W.heap.size)=>lkreckons_any L hb ⟨op,ya,yb,yc,yk⟩ (fD op) (fE op)
 rw[<- reckV_eq] at hrk;simp only at hrk;generalize fD op=si at *;generalize fE op=so at *;have hbs:=ag hs (S0.out.size);clear ho;go_enter Tryz.func224,Tryz.ntmps224;go_wp2_with (first | (go_at_call 271;go_call (hsg _) as e w1 ⟨rfl,rfl⟩) | ((go_at_call 272;go_call (hrk _ S0.out.lk hbs) as e w5 hk5);have S5:=aT (S0.out.next hk5);obtain⟨rfl,_,_,_⟩:=hk5) | fail);go_end0;refine S5.out.done.as ?_;unfold bU;rw[if_pos HO.out]
theorem lkinstr_int (h:LkAt w base g x p s)(hs:base<=w.heap.size)(y:Ins)(i:Nat)(ho:y.op=1) :
 Ca 224 #[.pointer (some ⟨g,0,none⟩),I (i:Nat),.agg #[I y.op,I y.a,I y.b,I y.c,I y.k]] w (eq w base g x p (bU p s i y) none):=by
 obtain⟨op,ya,yb,yc,yk⟩:=y;have S0:=aT (show LkS w base g x p ⟨op,ya,yb,yc,yk⟩ w.heap.size s (w.alloc (.cells #[I op,I ya,I yb,I yc,I yk] 144)) from LkS.first h hs ⟨op,ya,yb,yc,yk⟩);simp only at ho;subst ho;have hsg:=fun W=>jm 1 W
 rw[show sgn3 1=(0,0,false) from rfl] at hsg;go_enter Tryz.func224,Tryz.ntmps224;go_wp2_with (first | (go_at_call 271;go_call (hsg _) as e w1 ⟨rfl,rfl⟩) | ((go_at_call 273;go_call (jC S0.out.lk _ _) as e w5 hk5);have S5:=aT (S0.out.next hk5);obtain⟨rfl,_,_,_⟩:=hk5) | fail);go_end0;exact S5.out.done.as rfl
theorem lkinstr_bool (h:LkAt w base g x p s)(hs:base<=w.heap.size)(y:Ins)(i:Nat)(ho:y.op=2) :
 Ca 224 #[.pointer (some ⟨g,0,none⟩),I (i:Nat),.agg #[I y.op,I y.a,I y.b,I y.c,I y.k]] w (eq w base g x p (bU p s i y) none):=by
 obtain⟨op,ya,yb,yc,yk⟩:=y;have S0:=aT (show LkS w base g x p ⟨op,ya,yb,yc,yk⟩ w.heap.size s (w.alloc (.cells #[I op,I ya,I yb,I yc,I yk] 144)) from LkS.first h hs ⟨op,ya,yb,yc,yk⟩);simp only at ho;subst ho;have hsg:=fun W=>jm 2 W
 rw[show sgn3 2=(0,0,false) from rfl] at hsg
 by_cases k0:yk=0
 · have b0:(yk == 0)=true:=by rw[k0];rfl
   have HK:=aT (show cM s true=cM s (decide (yk=0) || decide (yk=1)) from by rw[k0];rfl);clear k0;go_enter Tryz.func224,Tryz.ntmps224;go_wp2_with (first | (go_at_call 271;go_call (hsg _) as e w1 ⟨rfl,rfl⟩) | ((go_at_call 274;go_call (it S0.out.lk _) as e w2 hk2);have S2:=aT (S0.out.next hk2);obtain⟨rfl,_,_,_⟩:=hk2;obtain⟨z2_0,z2_1,z2_2,z2_3,z2_4,z2_5⟩:=S2.out.ib.cells) | ((go_at_call 273;go_call (jC S2.out.lk _ _) as e w5 hk5);have S5:=aT (S2.out.next hk5);obtain⟨rfl,_,_,_⟩:=hk5) | fail);go_end0;refine S5.out.done.as ?_
   show fp _ ya 2=fp (cM s (decide (yk=0) || decide (yk=1))) ya 2
   rw[<- HK.out]
 · have b0:(yk == 0)=false:=by rw[ae];exact k0
   have HK:=aT (show cM s (yk == 1)=cM s (decide (yk=0) || decide (yk=1)) from by rw[aj k0];rfl);go_enter Tryz.func224,Tryz.ntmps224;go_wp2_with (first | (go_at_call 271;go_call (hsg _) as e w1 ⟨rfl,rfl⟩) | ((go_at_call 274;go_call (it S0.out.lk _) as e w2 hk2);have S2:=aT (S0.out.next hk2);obtain⟨rfl,_,_,_⟩:=hk2;obtain⟨z2_0,z2_1,z2_2,z2_3,z2_4,z2_5⟩:=S2.out.ib.cells) | ((go_at_call 273;go_call (jC S2.out.lk _ _) as e w5 hk5);have S5:=aT (S2.out.next hk5);obtain⟨rfl,_,_,_⟩:=hk5) | fail);go_end0;refine S5.out.done.as ?_
   show fp _ ya 2=fp (cM s (decide (yk=0) || decide (yk=1))) ya 2
   rw[<- HK.out]
theorem lkinstr_if (h:LkAt w base g x p s)(hs:base<=w.heap.size)(y:Ins)(i:Nat)(ho:y.op=27) :
 Ca 224 #[.pointer (some ⟨g,0,none⟩),I (i:Nat),.agg #[I y.op,I y.a,I y.b,I y.c,I y.k]] w (eq w base g x p (bU p s i y) none):=by
 obtain⟨op,ya,yb,yc,yk⟩:=y;have S0:=aT (show LkS w base g x p ⟨op,ya,yb,yc,yk⟩ w.heap.size s (w.alloc (.cells #[I op,I ya,I yb,I yc,I yk] 144)) from LkS.first h hs ⟨op,ya,yb,yc,yk⟩);simp only at ho;subst ho;have hsg:=fun W=>jm 27 W
 rw[show sgn3 27=(0,0,false) from rfl] at hsg;go_enter Tryz.func224,Tryz.ntmps224;go_wp2_with (first | (go_at_call 271;go_call (hsg _) as e w1 ⟨rfl,rfl⟩) | ((go_at_call 275;(with_reducible refine (jB S0.out.lk _).mono ?_);rintro e w1 hk1);have S1:=aT (S0.out.next hk1);obtain⟨rfl,_,_,_⟩:=hk1;obtain⟨z1_0,z1_1,z1_2,z1_3,z1_4,z1_5⟩:=S1.out.ib.cells) | ((go_at_call 274;(with_reducible refine (it S1.out.lk _).mono ?_);rintro e w2 hk2);have S2:=aT (S1.out.next hk2);obtain⟨rfl,_,_,_⟩:=hk2;obtain⟨z2_0,z2_1,z2_2,z2_3,z2_4,z2_5⟩:=S2.out.ib.cells) | ((go_at_call 275;(with_reducible refine (jB S2.out.lk _).mono ?_);rintro e w3 hk3);have S3:=aT (S2.out.next hk3);obtain⟨rfl,_,_,_⟩:=hk3;obtain⟨z3_0,z3_1,z3_2,z3_3,z3_4,z3_5⟩:=S3.out.ib.cells) | ((go_at_call 275;(with_reducible refine (jB S3.out.lk _).mono ?_);rintro e w4 hk4);have S4:=aT (S3.out.next hk4);obtain⟨rfl,_,_,_⟩:=hk4;obtain⟨z4_0,z4_1,z4_2,z4_3,z4_4,z4_5⟩:=S4.out.ib.cells) | ((go_at_call 274;(with_reducible refine (it S4.out.lk _).mono ?_);rintro e w5 hk5);have S5:=aT (S4.out.next hk5);obtain⟨rfl,_,_,_⟩:=hk5;obtain⟨z5_0,z5_1,z5_2,z5_3,z5_4,z5_5⟩:=S5.out.ib.cells) | ((go_at_call 273;go_call (jC S5.out.lk _ _) as e w6 hk6);have S6:=aT (S5.out.next hk6);obtain⟨rfl,_,_,_⟩:=hk6) | fail);go_end0;exact S6.out.done.as rfl
theorem lkinstr_var (h:LkAt w base g x p s)(hs:base<=w.heap.size)(y:Ins)(i:Nat)(ho:y.op=3) :
 Ca 224 #[.pointer (some ⟨g,0,none⟩),I (i:Nat),.agg #[I y.op,I y.a,I y.b,I y.c,I y.k]] w (eq w base g x p (bU p s i y) none):=by
 obtain⟨op,ya,yb,yc,yk⟩:=y;have S0:=aT (show LkS w base g x p ⟨op,ya,yb,yc,yk⟩ w.heap.size s (w.alloc (.cells #[I op,I ya,I yb,I yc,I yk] 144)) from LkS.first h hs ⟨op,ya,yb,yc,yk⟩);simp only at ho;subst ho;have hsg:=fun W=>jm 3 W
 rw[show sgn3 3=(0,0,false) from rfl] at hsg;obtain⟨z0,z1,z2,z3,z4,z5⟩:=S0.out.ib.cells;go_enter Tryz.func224,Tryz.ntmps224;go_upto_region 13 with (first | (go_at_call 271;go_call (hsg _) as e w1 ⟨rfl,rfl⟩) | fail);go_region_held3 (fun w'=>w'.cell? ⟨w.heap.size,1,none⟩=some (I ya)/\w'.cell? ⟨w.heap.size,2,none⟩=some (I yb)) (first | go_keep | (refine⟨?_,?_⟩ <;> assumption)) (first | ((go_at_call 275;go_call (jB S0.out.drew.lk _) as e w1 hk1);have S1:=aT (S0.out.drew.next hk1);obtain⟨rfl,_,_,_⟩:=hk1;obtain⟨z1_0,z1_1,z1_2,z1_3,z1_4,z1_5⟩:=S1.out.ib.cells) | ((go_at_call 273;go_call (jC S1.out.lk _ _) as e w6 hk6);have S6:=aT (S1.out.next hk6);obtain⟨rfl,_,_,_⟩:=hk6;obtain⟨z6_0,z6_1,z6_2,z6_3,z6_4,z6_5⟩:=S6.out.ib.cells) | fail);go_wp2;go_end0;exact S6.out.done.as rfl
end
section
variable {w w':World} {base g:Nat} {x:PA} {p:PV} {s s':LkV}
def Olds (w:World)(base:Nat)(x:PA)(p:PV):Prop:=∃ w0,ca w0 x p/\w0.heap.size<=base/\Below base w0 w
theorem Olds.rd (h:Olds w base x p)(hb:Below base w w'):ca w' x p:=by
 obtain⟨w0,h1,h2,h3⟩:=h;exact h1.below (h3.trans hb) h2
theorem lkinstr_cell (h:LkAt w base g x p s)(hs:base<=w.heap.size)(hp:Olds w base x p)(y:Ins)(i:Nat)(ho:y.op=21) :
 Ca 224 #[.pointer (some ⟨g,0,none⟩),I (i:Nat),.agg #[I y.op,I y.a,I y.b,I y.c,I y.k]] w (eq w base g x p (bU p s i y) none):=by
 obtain⟨op,ya,yb,yc,yk⟩:=y;have S0:=aT (show LkS w base g x p ⟨op,ya,yb,yc,yk⟩ w.heap.size s (w.alloc (.cells #[I op,I ya,I yb,I yc,I yk] 144)) from LkS.first h hs ⟨op,ya,yb,yc,yk⟩);simp only at ho;subst ho;have hsg:=fun W=>jm 21 W
 rw[show sgn3 21=(0,0,false) from rfl] at hsg;obtain⟨z0,z1,z2,z3,z4,z5⟩:=S0.out.ib.cells;go_enter Tryz.func224,Tryz.ntmps224;go_upto_region 20 with (first | (go_at_call 271;go_call (hsg _) as e w1 ⟨rfl,rfl⟩) | fail);go_region_held3 (fun w'=>w'.cell? ⟨w.heap.size,1,none⟩=some (I ya)/\w'.cell? ⟨w.heap.size,4,none⟩=some (I yk)) (first | go_keep | (refine⟨?_,?_⟩ <;> assumption)) (first | ((go_at_call 276;go_call (qi S0.out.drew.lk (hp.rd S0.out.drew.bel) _) as e w1 hk1);have S1:=aT (S0.out.drew.next hk1);obtain⟨rfl,_,_,_⟩:=hk1;obtain⟨z1_0,z1_1,z1_2,z1_3,z1_4,z1_5⟩:=S1.out.ib.cells) | ((go_at_call 273;go_call (jC S1.out.lk _ _) as e w6 hk6);have S6:=aT (S1.out.next hk6);obtain⟨rfl,_,_,_⟩:=hk6;obtain⟨z6_0,z6_1,z6_2,z6_3,z6_4,z6_5⟩:=S6.out.ib.cells) | fail);go_wp2;go_end0;exact S6.out.done.as rfl
theorem lkinstr_in (h:LkAt w base g x p s)(hs:base<=w.heap.size)(hp:Olds w base x p)(y:Ins)(i:Nat)(ho:y.op=28) :
 Ca 224 #[.pointer (some ⟨g,0,none⟩),I (i:Nat),.agg #[I y.op,I y.a,I y.b,I y.c,I y.k]] w (eq w base g x p (bU p s i y) none):=by
 obtain⟨op,ya,yb,yc,yk⟩:=y;have S0:=aT (show LkS w base g x p ⟨op,ya,yb,yc,yk⟩ w.heap.size s (w.alloc (.cells #[I op,I ya,I yb,I yc,I yk] 144)) from LkS.first h hs ⟨op,ya,yb,yc,yk⟩);simp only at ho;subst ho;have hsg:=fun W=>jm 28 W
 rw[show sgn3 28=(0,0,false) from rfl] at hsg;obtain⟨z0,z1,z2,z3,z4,z5⟩:=S0.out.ib.cells;obtain⟨g0,g1,g3,g4,g7,g8,gf,gl⟩:=S0.out.lk.cells;clear g1 g3 g4 g7 g8;go_enter Tryz.func224,Tryz.ntmps224;go_upto_region 22 with (first | (go_at_call 271;go_call (hsg _) as e w1 ⟨rfl,rfl⟩) | fail);go_region_held3 (fun w'=>w'.cell? ⟨w.heap.size,1,none⟩=some (I ya)/\w'.cell? ⟨w.heap.size,4,none⟩=some (I yk)/\w'.cell? ⟨g,0,none⟩=some (.slice x.A1 x.n1 x.c1)) (first | go_keep | (refine⟨?_,?_,?_⟩ <;> assumption)) (first | ((go_at_call 277;go_call (lkone_any S0.out.drew.lk _ _ _ _ (hp.rd S0.out.drew.bel).r1 _) as e w1 hk1);have S1:=aT (S0.out.drew.next hk1);obtain⟨rfl,_,_,_⟩:=hk1;obtain⟨z1_0,z1_1,z1_2,z1_3,z1_4,z1_5⟩:=S1.out.ib.cells;obtain⟨g1_0,_,_,_,_,_,_,_⟩:=S1.out.lk.cells) | ((go_at_call 273;go_call (jC S1.out.lk _ _) as e w6 hk6);have S6:=aT (S1.out.next hk6);obtain⟨rfl,_,_,_⟩:=hk6;obtain⟨z6_0,z6_1,z6_2,z6_3,z6_4,z6_5⟩:=S6.out.ib.cells;obtain⟨g6_0,_,_,_,_,_,_,_⟩:=S6.out.lk.cells) | fail);go_wp2;go_end0;exact S6.out.done.as rfl
theorem lkinstr_keep (h:LkAt w base g x p s)(hs:base<=w.heap.size)(hp:Olds w base x p)(y:Ins)(i:Nat)(ho:y.op=32) :
 Ca 224 #[.pointer (some ⟨g,0,none⟩),I (i:Nat),.agg #[I y.op,I y.a,I y.b,I y.c,I y.k]] w (eq w base g x p (bU p s i y) none):=by
 obtain⟨op,ya,yb,yc,yk⟩:=y;have S0:=aT (show LkS w base g x p ⟨op,ya,yb,yc,yk⟩ w.heap.size s (w.alloc (.cells #[I op,I ya,I yb,I yc,I yk] 144)) from LkS.first h hs ⟨op,ya,yb,yc,yk⟩);simp only at ho;subst ho;have hsg:=fun W=>jm 32 W
 rw[show sgn3 32=(0,0,false) from rfl] at hsg;obtain⟨z0,z1,z2,z3,z4,z5⟩:=S0.out.ib.cells;go_enter Tryz.func224,Tryz.ntmps224;go_upto_region 30 with (first | (go_at_call 271;go_call (hsg _) as e w1 ⟨rfl,rfl⟩) | fail);go_region_held3 (fun w'=>w'.cell? ⟨w.heap.size,1,none⟩=some (I ya)/\w'.cell? ⟨w.heap.size,4,none⟩=some (I yk)) (first | go_keep | (refine⟨?_,?_⟩ <;> assumption)) (first | ((go_at_call 275;go_call (jB S0.out.drew.lk _) as e w1 hk1);have S1:=aT (S0.out.drew.next hk1);obtain⟨rfl,_,_,_⟩:=hk1;obtain⟨z1_0,z1_1,z1_2,z1_3,z1_4,z1_5⟩:=S1.out.ib.cells) | ((go_at_call 276;go_call (qi S1.out.lk (hp.rd S1.out.bel) _) as e w2 hk2);have S2:=aT (S1.out.next hk2);obtain⟨rfl,_,_,_⟩:=hk2;obtain⟨z2_0,z2_1,z2_2,z2_3,z2_4,z2_5⟩:=S2.out.ib.cells) | ((go_at_call 274;go_call (it S2.out.lk _) as e w6 hk6);have S6:=aT (S2.out.next hk6);obtain⟨rfl,_,_,_⟩:=hk6;obtain⟨z6_0,z6_1,z6_2,z6_3,z6_4,z6_5⟩:=S6.out.ib.cells) | fail);go_wp2;go_end0;exact S6.out.done.as rfl
end
section
variable {w w':World} {base g:Nat} {x:PA} {p:PV} {s s':LkV}
theorem outs_at (h:LkAt w base g x p s){k:Nat}(hk:k<s.outs.length):∃ go no co,w.cell? ⟨g,6,none⟩=some (.slice (some ⟨go,0,none⟩) no co)/\k<no/\w.cell? ⟨go,k,none⟩=some (.bool (s.outs.getD k false))/\w.frozen? ⟨go,k,none⟩=false/\go<w.heap.size/\g≠go /\
 eq w base g x p { s with outs:=s.outs.set k true } none (.returned (.tuple #[])) (w.setCell ⟨go,k,none⟩ (.bool true)):=by
 obtain⟨K,nk,ck,O,no,co,hb,hg,hk',ho⟩:=h;have hol:=ho.1;obtain⟨go,hO,hgo,hgl⟩:=ho.addr aS;obtain⟨b1,o1,hO1,hb1,hc⟩:=ho.rd.2.at_ (show k<no by omega);rw[hO] at hO1;injection hO1 with hO1;injection hO1 with q1 q2 _;subst q1 q2;rw[iy s.outs k hk,aB] at hc;have e:s.outs.getD k false=s.outs[k]:=by rw[ah,ap hk];rfl
 subst hO;obtain⟨cs,hbk⟩:=iE (g:=go) ho rfl;have hne9:=hb.ne_ hbk aV;exact⟨go,no,co,hb.cell 6,aS,by rw[e];exact hc,ho.free k,hgl,hne9,rfl,⟨K,nk,ck,_,no,co,hb.far (p:=⟨go,k,none⟩) hne9 _,hg,hk'.setFar hbk aV k _,ho.set k true _ rfl⟩,(Below.refl _ _).setCell hgo _,Stay.set hbk aV _ _⟩
theorem lkneed_set (h:LkAt w base g x p s)(hb0:s.bad=false)(b:Bool):Ca 274 #[.pointer (some ⟨g,0,none⟩),.bool b] w fun e w'=>eq w base g x p (cM s b) none e w'/\w'=w.setCell ⟨g,8,none⟩ (.bool (!b)):=by
 obtain⟨K,nk,ck,O,no,co,hb,hg,hk,ho⟩:=h;have c8:=hb.c8;have f8:=hb.frozen 8;have hl:=hb.lt;have HB:=aT hb;have HK:=aT hk;have HO:=aT ho;have HB0:=aT hb0;clear hb hk ho;rw[hb0] at c8;clear hb0;go_enter Tryz.func274,Tryz.ntmps274;go_wp2;go_end0;refine⟨⟨rfl,⟨K,nk,ck,O,no,co,?_,hg,HK.out.setFar HB.out aV 8 _,HO.out.setFar HB.out aV 8 _⟩,(Below.refl _ _).setCell hg _,Stay.set HB.out aV _ _⟩,rfl⟩;have:=HB.out.set_ 8 (.bool (!b));simpa [lkC,cM,HB0.out] using this
theorem lkinstr_out (h:LkAt w base g x p s)(hs:base<=w.heap.size)(hp:Olds w base x p)(y:Ins)(i:Nat)(ho:y.op=29)(hol:s.outs.length=p.outs.length) :
 Ca 224 #[.pointer (some ⟨g,0,none⟩),I (i:Nat),.agg #[I y.op,I y.a,I y.b,I y.c,I y.k]] w (eq w base g x p (bU p s i y) none):=by
 obtain⟨op,ya,yb,yc,yk⟩:=y;have S0:=aT (show LkS w base g x p ⟨op,ya,yb,yc,yk⟩ w.heap.size s (w.alloc (.cells #[I op,I ya,I yb,I yc,I yk] 144)) from LkS.first h hs ⟨op,ya,yb,yc,yk⟩);simp only at ho;subst ho;have hsg:=fun W=>jm 29 W
 rw[show sgn3 29=(0,0,false) from rfl] at hsg;obtain⟨z0,z1,z2,z3,z4,z5⟩:=S0.out.ib.cells;obtain⟨g0,g1,g3,g4,g7,g8,gf,gl⟩:=S0.out.lk.cells;clear g0 g3 g4 g8;go_enter Tryz.func224,Tryz.ntmps224;go_upto_region 24 with (first | (go_at_call 271;go_call (hsg _) as e w1 ⟨rfl,rfl⟩) | fail);go_region_held3 (fun w'=>w'.cell? ⟨w.heap.size,1,none⟩=some (I ya)/\w'.cell? ⟨w.heap.size,4,none⟩=some (I yk)/\w'.cell? ⟨g,1,none⟩=some (.slice x.A2 x.n2 x.c2)) (first | go_keep | (refine⟨?_,?_,?_⟩ <;> assumption)) (first | ((go_at_call 275;go_call (jB S0.out.drew.lk _) as e w1 hk1);have S1:=aT (S0.out.drew.next hk1);obtain⟨rfl,_,_,_⟩:=hk1;obtain⟨z1_0,z1_1,z1_2,z1_3,z1_4,z1_5⟩:=S1.out.ib.cells;obtain⟨_,g1_1,_,_,_,_,_,gl1⟩:=S1.out.lk.cells) | ((go_at_call 277;go_call (lkone_any S1.out.lk _ _ _ _ (hp.rd S1.out.bel).r2 _) as e w2 hk2);have S2:=aT (S1.out.next hk2);obtain⟨rfl,_,_,_⟩:=hk2;obtain⟨z2_0,z2_1,z2_2,z2_3,z2_4,z2_5⟩:=S2.out.ib.cells;obtain⟨_,g2_1,_,_,_,_,_,gl2⟩:=S2.out.lk.cells) | ((go_at_call 274;go_call (it S2.out.lk _) as e w3 hk3);have S3:=aT (S2.out.next hk3);obtain⟨rfl,_,_,_⟩:=hk3;obtain⟨z3_0,z3_1,z3_2,z3_3,z3_4,z3_5⟩:=S3.out.ib.cells;obtain⟨_,g3_1,_,_,g3_7,_,_,gl3⟩:=S3.out.lk.cells) | fail);have hpast:(cM (oneV (cZ s ya).1 p.outs yk).1 ((cZ s ya).2 == (oneV (cZ s ya).1 p.outs yk).2)).past=s.past:=by
  rw[iR,ky];rfl
 rw[hpast] at g3_7;go_upto_region 26 with (first | ((go_at_call 274;go_call (it S3.out.lk _) as e w4 hk4);have S4:=aT (S3.out.next hk4);obtain⟨rfl,_,_,_⟩:=hk4;obtain⟨z4_0,z4_1,z4_2,z4_3,z4_4,z4_5⟩:=S4.out.ib.cells) | fail);have hfin:bU p s i ⟨29,ya,yb,yc,yk⟩=(if (cM (cM (oneV (cZ s ya).1 p.outs yk).1 ((cZ s ya).2 == (oneV (cZ s ya).1 p.outs yk).2)) (decide (s.past<=(i:Int)))).bad then (cM (cM (oneV (cZ s ya).1 p.outs yk).1 ((cZ s ya).2 == (oneV (cZ s ya).1 p.outs yk).2)) (decide (s.past<=(i:Int)))) else { cM (cM (cM (oneV (cZ s ya).1 p.outs yk).1 ((cZ s ya).2 == (oneV (cZ s ya).1 p.outs yk).2)) (decide (s.past<=(i:Int)))) (!((cM (cM (oneV (cZ s ya).1 p.outs yk).1 ((cZ s ya).2 == (oneV (cZ s ya).1 p.outs yk).2)) (decide (s.past<=(i:Int)))).outs.getD yk.toNat false)) with outs:=(cM (cM (oneV (cZ s ya).1 p.outs yk).1 ((cZ s ya).2 == (oneV (cZ s ya).1 p.outs yk).2)) (decide (s.past<=(i:Int)))).outs.set yk.toNat true }):=by
  show (if _ then _ else _)=_
  rfl
 have hrange:(cM (cM (oneV (cZ s ya).1 p.outs yk).1 ((cZ s ya).2 == (oneV (cZ s ya).1 p.outs yk).2)) (decide (s.past<=(i:Int)))).bad=false->0<=yk/\yk<(p.outs.length:Int):=fun e=>by
  by_cases q:yk<0\/(p.outs.length:Int)<=yk
  · exfalso
    rw[ky,am q] at e;simp[cM] at e
  · omega
 have hlen:(cM (cM (oneV (cZ s ya).1 p.outs yk).1 ((cZ s ya).2 == (oneV (cZ s ya).1 p.outs yk).2)) (decide (s.past<=(i:Int)))).outs.length=p.outs.length:=by
  rw[iR,ky];exact hol
 generalize cM (cM (oneV (cZ s ya).1 p.outs yk).1 ((cZ s ya).2 == (oneV (cZ s ya).1 p.outs yk).2)) (decide (s.past<=(i:Int)))=s4 at *;have HF:=aT hfin;have HL:=aT hlen;obtain⟨_,_,_,_,_,g4_8,_,gl4⟩:=S4.out.lk.cells;clear hfin hlen hpast
 cases hb:s4.bad with
 | true=>
   rw[hb] at g4_8;have HB:=aT hb;clear hb hrange;go_wp2_with fail;go_end0;refine S4.out.done.as ?_;rw[HF.out,if_pos HB.out]
 | false=>
   rw[hb] at g4_8;obtain⟨r1,r2⟩:=hrange hb;obtain⟨k,rfl⟩:∃ k:Nat,yk=k:=⟨yk.toNat,aS⟩;have HB:=aT hb;clear hb hrange r1;obtain⟨go,no,co,c6,hkn,cgo,fgo,lgo,hne,hst⟩:=outs_at S4.out.lk (k:=k) (by rw[HL.out];omega);clear hst;have hk4:k<s4.outs.length:=by rw[HL.out];omega
   have n6:(⟨g,8,none⟩:Addr)≠⟨g,6,none⟩:=by simp
   have nk:(⟨g,8,none⟩:Addr)≠⟨go,k,none⟩:=fun e=>hne (by injection e)
   have N6:=aT n6;have NK:=aT nk;clear n6 nk;have HK4:=aT hk4;clear hk4;generalize hov:s4.outs.getD k false=ov at *;have HOV:=aT hov;clear hov;go_upto_region 27 with fail;go_region_held3 (fun w'=>w'.cell? ⟨w.heap.size,4,none⟩=some (I (k:Nat))/\w'.cell? ⟨g,6,none⟩=some (.slice (some ⟨go,0,none⟩) no co)/\w'.cell? ⟨go,k,none⟩=some (.bool ov)) (first | go_keep | (refine⟨?_,?_,?_⟩ <;> assumption)) (first | ((go_at_call 274;go_call (lkneed_set S4.out.drew.lk HB.out _) as e w5 ⟨hk5,hw5⟩);have S5:=aT (S4.out.drew.next hk5);obtain⟨rfl,_,_,_⟩:=hk5;obtain⟨z5_0,z5_1,z5_2,z5_3,z5_4,z5_5⟩:=S5.out.ib.cells;have c65:w5.cell? ⟨g,6,none⟩=some (.slice (some ⟨go,0,none⟩) no co):=(by rw[hw5];exact (World.cell?_setCell_other _ _ _ _ N6.out).trans c6);have cgo5:w5.cell? ⟨go,k,none⟩=some (.bool ov):=(by rw[hw5];exact (World.cell?_setCell_other _ _ _ _ NK.out).trans cgo);clear hw5) | fail);obtain⟨go5,no5,co5,c65b,hkn5,cgo5b,fgo5,lgo5,hne5,hst5⟩:=outs_at S5.out.lk (k:=k) (show k<(cM s4 (!ov)).outs.length from HK4.out);have e5:=c65.symm.trans c65b;injection e5 with e5;injection e5 with e5 _ _;injection e5 with e5;injection e5 with e5 _ _;subst e5;have H5:=aT (S5.out.next hst5);clear c65b hkn5 cgo5b hst5;go_upto_region 28 with fail;go_region;go_wp2;go_end0;exact H5.out.drew.done.as (by rw[HF.out,if_neg (by rw[HB.out];simp),ax,HOV.out];rfl)
end
