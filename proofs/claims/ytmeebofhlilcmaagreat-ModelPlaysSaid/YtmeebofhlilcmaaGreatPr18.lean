/- Parts. -/
import Derived.Test.YtmeebofhlilcmaaGreatPr17
import Derived.Lib.SliceRun
import Derived.BigFrame
set_option linter.unusedVariables false
set_option linter.unusedSimpArgs false
set_option maxRecDepth 100000
set_option maxHeartbeats 0
namespace Go.Proofs.YtmeebofhlilcmaaGreat
variable {b k base g:Nat} {y:Ins} {w0 w1 w:World} {s1:LkV} {t:TypeId} {cs:List Value}
open Go.RowKit
section
variable {w w':World} {base g:Nat} {x:PA} {p:PV} {s s':LkV}
theorem LkAt.below (h:LkAt w base g x p s)(hb:Below w.heap.size w w'):LkAt w' base g x p s:=by
 obtain⟨K,nk,ck,O,no,co,b,hg,hk,ho⟩:=h;exact⟨K,nk,ck,O,no,co,b.below hb b.lt,hg,hk.below hb aW,ho.below hb aW⟩
theorem LkAt.cells (h:LkAt w base g x p s):w.cell? ⟨g,0,none⟩=some (.slice x.A1 x.n1 x.c1)/\w.cell? ⟨g,1,none⟩=some (.slice x.A2 x.n2 x.c2)/\w.cell? ⟨g,3,none⟩=some (.slice x.A3 x.n3 x.c3)/\w.cell? ⟨g,4,none⟩=some (.slice x.A4 x.n4 x.c4)/\w.cell? ⟨g,7,none⟩=some (I s.past)/\w.cell? ⟨g,8,none⟩=some (.bool s.bad)/\(∀ i,w.frozen? ⟨g,i,none⟩=false)/\g<w.heap.size:=by
 obtain⟨K,nk,ck,O,no,co,b,hg,hk,ho⟩:=h;exact⟨b.cell 0,b.cell 1,b.cell 3,b.cell 4,b.cell 7,b.cell 8,fun i=>b.frozen i,b.lt⟩
def boxI (w:World)(y:Ins):World:=w.alloc (.cells #[I y.op,I y.a,I y.b,I y.c,I y.k] 144)
def km (w:World)(b:Nat)(y:Ins):Prop:=Blk w b 144 (insE y)
theorem boxI_blk (w:World)(y:Ins):km (boxI w y) w.heap.size y:=Blk.top _ rfl rfl
theorem oq (w:World)(y:Ins):Below w.heap.size w (boxI w y):=(Below.refl _ _).alloc aW _
theorem km.cells (h:km w b y):w.cell? ⟨b,0,none⟩=some (I y.op)/\w.cell? ⟨b,1,none⟩=some (I y.a)/\w.cell? ⟨b,2,none⟩=some (I y.b)/\w.cell? ⟨b,3,none⟩=some (I y.c)/\w.cell? ⟨b,4,none⟩=some (I y.k)/\b<w.heap.size :=
 ⟨Blk.cell h 0,Blk.cell h 1,Blk.cell h 2,Blk.cell h 3,Blk.cell h 4,Blk.lt h⟩
theorem km.stay (h:km w b y)(t:Stay w w'):km w' b y:=t _ _ _ aU h
structure LkS (w0:World)(base g:Nat)(x:PA)(p:PV)(y:Ins)(b:Nat)(s:LkV)(w:World):Prop where
 lk:LkAt w base g x p s
 ib:km w b y
 bel:Below base w0 w
 st:Stay w0 w
theorem LkS.first (h:LkAt w base g x p s)(hs:base<=w.heap.size)(y:Ins):LkS w base g x p y w.heap.size s (boxI w y) :=
 ⟨h.below (oq w y),boxI_blk w y,(oq w y).mono hs,Stay.of_below (oq w y)⟩
theorem LkS.next {w2:World}{v:Option Int}{e:Ending}(h:LkS w0 base g x p y b s w1)(k:ei w1 base g x p s' v e w2):LkS w0 base g x p y b s' w2 :=
 ⟨k.2.1,h.ib.stay k.2.2.2,h.bel.trans k.2.2.1,h.st.trans k.2.2.2⟩
theorem LkS.drew (h:LkS w0 base g x p y b s w1):LkS w0 base g x p y b s w1.drew :=
 ⟨h.lk.below (Below.drew (Below.refl _ _)),h.ib,h.bel.trans (Below.drew (Below.refl _ _)),h.st.trans (Stay.of_below (Below.drew (Below.refl _ _)))⟩
theorem LkS.done (h:LkS w0 base g x p y b s w1):ei w0 base g x p s none (.returned (.tuple #[])) w1:=⟨rfl,h.lk,h.bel,h.st⟩
theorem ei.as {v:Option Int}{e:Ending}{s2:LkV}(h:ei w base g x p s1 v e w')(q:s1=s2):ei w base g x p s2 v e w':=q ▸ h
theorem LkS.size (h:LkS w0 base g x p y b s w1):w0.heap.size<=w1.heap.size:=h.bel.size
def reckG (s:LkV)(y:Ins)(i o:Int):LkV :=
 let t:=cW s y.b
 let s1:=cJ t.1 (decide (i=0) || decide (t.2=i))
 let s2:=if y.op≠5/\y.op≠6 then (let u:=cW s1 y.c;cJ u.1 (decide (u.2=t.2))) else s1
 fp s2 y.a o
theorem reckV_eq (s:LkV)(y:Ins):reckV s y=reckG s y (fA y.op) (fB y.op):=rfl
theorem lkreckons_any (h:LkAt w base g x p s)(hs:base<=w.heap.size)(y:Ins)(i o:Int) :
 Ca 272 #[.pointer (some ⟨g,0,none⟩),.agg #[I y.op,I y.a,I y.b,I y.c,I y.k],I i,I o] w (ei w base g x p (reckG s y i o) none):=by
 obtain⟨op,ya,yb,yc,yk⟩:=y;have S0:=aT (show LkS w base g x p ⟨op,ya,yb,yc,yk⟩ w.heap.size s (w.alloc (.cells #[I op,I ya,I yb,I yc,I yk] 144)) from LkS.first h hs ⟨op,ya,yb,yc,yk⟩);rcases Decidable.em (i=0) with i0 | i0
 all_goals (rcases Decidable.em (op=5) with h5 | h5)
 all_goals (rcases Decidable.em (op=6) with h6 | h6)
 all_goals (
  first | (have bi:(i == 0)=true:=by rw[i0];rfl) | (have bi:(i == 0)=false:=by rw[af];exact i0)
  first | (have b5:(op != 5)=false:=by rw[h5];rfl) | (have b5:(op != 5)=true:=by rw[ag];exact h5)
  first | (have b6:(op != 6)=false:=by rw[h6];rfl) | (have b6:(op != 6)=true:=by rw[ag];exact h6)
  have I0:=aT i0;have H5:=aT h5;have H6:=aT h6;clear i0 h5 h6;go_enter Tryz.func272,Tryz.ntmps272;go_wp2_with (first | ((go_at_call 275;(with_reducible refine (jq (S0.out.lk) _).mono ?_);rintro e w1 hk1);have S1:=aT (S0.out.next hk1);obtain⟨rfl,_,_,_⟩:=hk1;obtain⟨z10,z11,z12,z13,z14,z15⟩:=S1.out.ib.cells) | ((go_at_call 274;(with_reducible refine (ie (S1.out.lk) _).mono ?_);rintro e w2 hk2);have S2:=aT (S1.out.next hk2);obtain⟨rfl,_,_,_⟩:=hk2;obtain⟨z20,z21,z22,z23,z24,z25⟩:=S2.out.ib.cells) | ((go_at_call 275;(with_reducible refine (jq (S2.out.lk) _).mono ?_);rintro e w3 hk3);have S3:=aT (S2.out.next hk3);obtain⟨rfl,_,_,_⟩:=hk3;obtain⟨z30,z31,z32,z33,z34,z35⟩:=S3.out.ib.cells) | ((go_at_call 274;(with_reducible refine (ie (S3.out.lk) _).mono ?_);rintro e w4 hk4);have S4:=aT (S3.out.next hk4);obtain⟨rfl,_,_,_⟩:=hk4;obtain⟨z40,z41,z42,z43,z44,z45⟩:=S4.out.ib.cells) | ((go_at_call 273;(with_reducible refine (jr (S4.out.lk) _ _).mono ?_);rintro e w5 hk5);have S5:=aT (S4.out.next hk5);obtain⟨rfl,_,_,_⟩:=hk5) | ((go_at_call 273;(with_reducible refine (jr (S2.out.lk) _ _).mono ?_);rintro e w5 hk5);have S5:=aT (S2.out.next hk5);obtain⟨rfl,_,_,_⟩:=hk5) | fail);go_end0;refine S5.out.done.as ?_
  (try have h5:=H5.out)
  (try have h6:=H6.out)
  (try have i0:=I0.out)
  unfold reckG
  (try simp only[i0,h5,decide_true,decide_false,Bool.true_or,Bool.false_or,ne_eq,not_true_eq_false,not_false_eq_true,false_and,true_and,if_true,if_false])
  (try simp only[h6,not_true_eq_false,not_false_eq_true,if_true,if_false])
  (try rfl))
theorem lkinstr_sign (h:LkAt w base g x p s)(hs:base<=w.heap.size)(y:Ins)(i:Nat)(ho:fC y.op=true) :
 Ca 224 #[.pointer (some ⟨g,0,none⟩),I (i:Nat),.agg #[I y.op,I y.a,I y.b,I y.c,I y.k]] w (ei w base g x p (bV p s i y) none):=by
 obtain⟨op,ya,yb,yc,yk⟩:=y;have S0:=aT (show LkS w base g x p ⟨op,ya,yb,yc,yk⟩ w.heap.size s (w.alloc (.cells #[I op,I ya,I yb,I yc,I yk] 144)) from LkS.first h hs ⟨op,ya,yb,yc,yk⟩);simp only at ho;have hsg:=fun W=>i8 op W
 rw[show sgn3 op=(fA op,fB op,true) from by unfold sgn3;rw[if_pos ho]] at hsg;have HO:=aT ho;have hrk:=fun (W:World) (L:LkAt W base g x p s) (hb:base<=W.heap.size)=>lkreckons_any L hb ⟨op,ya,yb,yc,yk⟩ (fA op) (fB op)
 rw[<- reckV_eq] at hrk;simp only at hrk;generalize fA op=si at *;generalize fB op=so at *;have hbs:=ae hs (S0.out.size);clear ho;go_enter Tryz.func224,Tryz.ntmps224;go_wp2_with (first | (go_at_call 271;go_call (hsg _) as e w1 ⟨rfl,rfl⟩) | ((go_at_call 272;go_call (hrk _ S0.out.lk hbs) as e w5 hk5);have S5:=aT (S0.out.next hk5);obtain⟨rfl,_,_,_⟩:=hk5) | fail);go_end0;refine S5.out.done.as ?_;unfold bV;rw[if_pos HO.out]
theorem lkinstr_int (h:LkAt w base g x p s)(hs:base<=w.heap.size)(y:Ins)(i:Nat)(ho:y.op=1) :
 Ca 224 #[.pointer (some ⟨g,0,none⟩),I (i:Nat),.agg #[I y.op,I y.a,I y.b,I y.c,I y.k]] w (ei w base g x p (bV p s i y) none):=by
 obtain⟨op,ya,yb,yc,yk⟩:=y;have S0:=aT (show LkS w base g x p ⟨op,ya,yb,yc,yk⟩ w.heap.size s (w.alloc (.cells #[I op,I ya,I yb,I yc,I yk] 144)) from LkS.first h hs ⟨op,ya,yb,yc,yk⟩);simp only at ho;subst ho;have hsg:=fun W=>i8 1 W
 rw[show sgn3 1=(0,0,false) from rfl] at hsg;go_enter Tryz.func224,Tryz.ntmps224;go_wp2_with (first | (go_at_call 271;go_call (hsg _) as e w1 ⟨rfl,rfl⟩) | ((go_at_call 273;go_call (jr S0.out.lk _ _) as e w5 hk5);have S5:=aT (S0.out.next hk5);obtain⟨rfl,_,_,_⟩:=hk5) | fail);go_end0;exact S5.out.done.as rfl
theorem lkinstr_bool (h:LkAt w base g x p s)(hs:base<=w.heap.size)(y:Ins)(i:Nat)(ho:y.op=2) :
 Ca 224 #[.pointer (some ⟨g,0,none⟩),I (i:Nat),.agg #[I y.op,I y.a,I y.b,I y.c,I y.k]] w (ei w base g x p (bV p s i y) none):=by
 obtain⟨op,ya,yb,yc,yk⟩:=y;have S0:=aT (show LkS w base g x p ⟨op,ya,yb,yc,yk⟩ w.heap.size s (w.alloc (.cells #[I op,I ya,I yb,I yc,I yk] 144)) from LkS.first h hs ⟨op,ya,yb,yc,yk⟩);simp only at ho;subst ho;have hsg:=fun W=>i8 2 W
 rw[show sgn3 2=(0,0,false) from rfl] at hsg
 by_cases k0:yk=0
 · have b0:(yk == 0)=true:=by rw[k0];rfl
   have HK:=aT (show cJ s true=cJ s (decide (yk=0) || decide (yk=1)) from by rw[k0];rfl);clear k0;go_enter Tryz.func224,Tryz.ntmps224;go_wp2_with (first | (go_at_call 271;go_call (hsg _) as e w1 ⟨rfl,rfl⟩) | ((go_at_call 274;go_call (ie S0.out.lk _) as e w2 hk2);have S2:=aT (S0.out.next hk2);obtain⟨rfl,_,_,_⟩:=hk2;obtain⟨z2_0,z2_1,z2_2,z2_3,z2_4,z2_5⟩:=S2.out.ib.cells) | ((go_at_call 273;go_call (jr S2.out.lk _ _) as e w5 hk5);have S5:=aT (S2.out.next hk5);obtain⟨rfl,_,_,_⟩:=hk5) | fail);go_end0;refine S5.out.done.as ?_
   show fp _ ya 2=fp (cJ s (decide (yk=0) || decide (yk=1))) ya 2
   rw[<- HK.out]
 · have b0:(yk == 0)=false:=by rw[af];exact k0
   have HK:=aT (show cJ s (yk == 1)=cJ s (decide (yk=0) || decide (yk=1)) from by rw[aj k0];rfl);go_enter Tryz.func224,Tryz.ntmps224;go_wp2_with (first | (go_at_call 271;go_call (hsg _) as e w1 ⟨rfl,rfl⟩) | ((go_at_call 274;go_call (ie S0.out.lk _) as e w2 hk2);have S2:=aT (S0.out.next hk2);obtain⟨rfl,_,_,_⟩:=hk2;obtain⟨z2_0,z2_1,z2_2,z2_3,z2_4,z2_5⟩:=S2.out.ib.cells) | ((go_at_call 273;go_call (jr S2.out.lk _ _) as e w5 hk5);have S5:=aT (S2.out.next hk5);obtain⟨rfl,_,_,_⟩:=hk5) | fail);go_end0;refine S5.out.done.as ?_
   show fp _ ya 2=fp (cJ s (decide (yk=0) || decide (yk=1))) ya 2
   rw[<- HK.out]
theorem lkinstr_if (h:LkAt w base g x p s)(hs:base<=w.heap.size)(y:Ins)(i:Nat)(ho:y.op=27) :
 Ca 224 #[.pointer (some ⟨g,0,none⟩),I (i:Nat),.agg #[I y.op,I y.a,I y.b,I y.c,I y.k]] w (ei w base g x p (bV p s i y) none):=by
 obtain⟨op,ya,yb,yc,yk⟩:=y;have S0:=aT (show LkS w base g x p ⟨op,ya,yb,yc,yk⟩ w.heap.size s (w.alloc (.cells #[I op,I ya,I yb,I yc,I yk] 144)) from LkS.first h hs ⟨op,ya,yb,yc,yk⟩);simp only at ho;subst ho;have hsg:=fun W=>i8 27 W
 rw[show sgn3 27=(0,0,false) from rfl] at hsg;go_enter Tryz.func224,Tryz.ntmps224;go_wp2_with (first | (go_at_call 271;go_call (hsg _) as e w1 ⟨rfl,rfl⟩) | ((go_at_call 275;(with_reducible refine (jq S0.out.lk _).mono ?_);rintro e w1 hk1);have S1:=aT (S0.out.next hk1);obtain⟨rfl,_,_,_⟩:=hk1;obtain⟨z1_0,z1_1,z1_2,z1_3,z1_4,z1_5⟩:=S1.out.ib.cells) | ((go_at_call 274;(with_reducible refine (ie S1.out.lk _).mono ?_);rintro e w2 hk2);have S2:=aT (S1.out.next hk2);obtain⟨rfl,_,_,_⟩:=hk2;obtain⟨z2_0,z2_1,z2_2,z2_3,z2_4,z2_5⟩:=S2.out.ib.cells) | ((go_at_call 275;(with_reducible refine (jq S2.out.lk _).mono ?_);rintro e w3 hk3);have S3:=aT (S2.out.next hk3);obtain⟨rfl,_,_,_⟩:=hk3;obtain⟨z3_0,z3_1,z3_2,z3_3,z3_4,z3_5⟩:=S3.out.ib.cells) | ((go_at_call 275;(with_reducible refine (jq S3.out.lk _).mono ?_);rintro e w4 hk4);have S4:=aT (S3.out.next hk4);obtain⟨rfl,_,_,_⟩:=hk4;obtain⟨z4_0,z4_1,z4_2,z4_3,z4_4,z4_5⟩:=S4.out.ib.cells) | ((go_at_call 274;(with_reducible refine (ie S4.out.lk _).mono ?_);rintro e w5 hk5);have S5:=aT (S4.out.next hk5);obtain⟨rfl,_,_,_⟩:=hk5;obtain⟨z5_0,z5_1,z5_2,z5_3,z5_4,z5_5⟩:=S5.out.ib.cells) | ((go_at_call 273;go_call (jr S5.out.lk _ _) as e w6 hk6);have S6:=aT (S5.out.next hk6);obtain⟨rfl,_,_,_⟩:=hk6) | fail);go_end0;exact S6.out.done.as rfl
theorem lkinstr_var (h:LkAt w base g x p s)(hs:base<=w.heap.size)(y:Ins)(i:Nat)(ho:y.op=3) :
 Ca 224 #[.pointer (some ⟨g,0,none⟩),I (i:Nat),.agg #[I y.op,I y.a,I y.b,I y.c,I y.k]] w (ei w base g x p (bV p s i y) none):=by
 obtain⟨op,ya,yb,yc,yk⟩:=y;have S0:=aT (show LkS w base g x p ⟨op,ya,yb,yc,yk⟩ w.heap.size s (w.alloc (.cells #[I op,I ya,I yb,I yc,I yk] 144)) from LkS.first h hs ⟨op,ya,yb,yc,yk⟩);simp only at ho;subst ho;have hsg:=fun W=>i8 3 W
 rw[show sgn3 3=(0,0,false) from rfl] at hsg;obtain⟨z0,z1,z2,z3,z4,z5⟩:=S0.out.ib.cells;go_enter Tryz.func224,Tryz.ntmps224;go_upto_region 13 with (first | (go_at_call 271;go_call (hsg _) as e w1 ⟨rfl,rfl⟩) | fail);go_region_held3 (fun w'=>w'.cell? ⟨w.heap.size,1,none⟩=some (I ya)/\w'.cell? ⟨w.heap.size,2,none⟩=some (I yb)) (first | go_keep | (refine⟨?_,?_⟩ <;> assumption)) (first | ((go_at_call 275;go_call (jq S0.out.drew.lk _) as e w1 hk1);have S1:=aT (S0.out.drew.next hk1);obtain⟨rfl,_,_,_⟩:=hk1;obtain⟨z1_0,z1_1,z1_2,z1_3,z1_4,z1_5⟩:=S1.out.ib.cells) | ((go_at_call 273;go_call (jr S1.out.lk _ _) as e w6 hk6);have S6:=aT (S1.out.next hk6);obtain⟨rfl,_,_,_⟩:=hk6;obtain⟨z6_0,z6_1,z6_2,z6_3,z6_4,z6_5⟩:=S6.out.ib.cells) | fail);go_wp2;go_end0;exact S6.out.done.as rfl
end
section
variable {w w':World} {base g:Nat} {x:PA} {p:PV} {s s':LkV}
def Olds (w:World)(base:Nat)(x:PA)(p:PV):Prop:=∃ w0,cC w0 x p/\w0.heap.size<=base/\Below base w0 w
theorem Olds.rd (h:Olds w base x p)(hb:Below base w w'):cC w' x p:=by
 obtain⟨w0,h1,h2,h3⟩:=h;exact h1.below (h3.trans hb) h2
theorem lkinstr_cell (h:LkAt w base g x p s)(hs:base<=w.heap.size)(hp:Olds w base x p)(y:Ins)(i:Nat)(ho:y.op=21) :
 Ca 224 #[.pointer (some ⟨g,0,none⟩),I (i:Nat),.agg #[I y.op,I y.a,I y.b,I y.c,I y.k]] w (ei w base g x p (bV p s i y) none):=by
 obtain⟨op,ya,yb,yc,yk⟩:=y;have S0:=aT (show LkS w base g x p ⟨op,ya,yb,yc,yk⟩ w.heap.size s (w.alloc (.cells #[I op,I ya,I yb,I yc,I yk] 144)) from LkS.first h hs ⟨op,ya,yb,yc,yk⟩);simp only at ho;subst ho;have hsg:=fun W=>i8 21 W
 rw[show sgn3 21=(0,0,false) from rfl] at hsg;obtain⟨z0,z1,z2,z3,z4,z5⟩:=S0.out.ib.cells;go_enter Tryz.func224,Tryz.ntmps224;go_upto_region 20 with (first | (go_at_call 271;go_call (hsg _) as e w1 ⟨rfl,rfl⟩) | fail);go_region_held3 (fun w'=>w'.cell? ⟨w.heap.size,1,none⟩=some (I ya)/\w'.cell? ⟨w.heap.size,4,none⟩=some (I yk)) (first | go_keep | (refine⟨?_,?_⟩ <;> assumption)) (first | ((go_at_call 276;go_call (pQ S0.out.drew.lk (hp.rd S0.out.drew.bel) _) as e w1 hk1);have S1:=aT (S0.out.drew.next hk1);obtain⟨rfl,_,_,_⟩:=hk1;obtain⟨z1_0,z1_1,z1_2,z1_3,z1_4,z1_5⟩:=S1.out.ib.cells) | ((go_at_call 273;go_call (jr S1.out.lk _ _) as e w6 hk6);have S6:=aT (S1.out.next hk6);obtain⟨rfl,_,_,_⟩:=hk6;obtain⟨z6_0,z6_1,z6_2,z6_3,z6_4,z6_5⟩:=S6.out.ib.cells) | fail);go_wp2;go_end0;exact S6.out.done.as rfl
theorem lkinstr_in (h:LkAt w base g x p s)(hs:base<=w.heap.size)(hp:Olds w base x p)(y:Ins)(i:Nat)(ho:y.op=28) :
 Ca 224 #[.pointer (some ⟨g,0,none⟩),I (i:Nat),.agg #[I y.op,I y.a,I y.b,I y.c,I y.k]] w (ei w base g x p (bV p s i y) none):=by
 obtain⟨op,ya,yb,yc,yk⟩:=y;have S0:=aT (show LkS w base g x p ⟨op,ya,yb,yc,yk⟩ w.heap.size s (w.alloc (.cells #[I op,I ya,I yb,I yc,I yk] 144)) from LkS.first h hs ⟨op,ya,yb,yc,yk⟩);simp only at ho;subst ho;have hsg:=fun W=>i8 28 W
 rw[show sgn3 28=(0,0,false) from rfl] at hsg;obtain⟨z0,z1,z2,z3,z4,z5⟩:=S0.out.ib.cells;obtain⟨g0,g1,g3,g4,g7,g8,gf,gl⟩:=S0.out.lk.cells;clear g1 g3 g4 g7 g8;go_enter Tryz.func224,Tryz.ntmps224;go_upto_region 22 with (first | (go_at_call 271;go_call (hsg _) as e w1 ⟨rfl,rfl⟩) | fail);go_region_held3 (fun w'=>w'.cell? ⟨w.heap.size,1,none⟩=some (I ya)/\w'.cell? ⟨w.heap.size,4,none⟩=some (I yk)/\w'.cell? ⟨g,0,none⟩=some (.slice x.A1 x.n1 x.c1)) (first | go_keep | (refine⟨?_,?_,?_⟩ <;> assumption)) (first | ((go_at_call 277;go_call (lkone_any S0.out.drew.lk _ _ _ _ (hp.rd S0.out.drew.bel).r1 _) as e w1 hk1);have S1:=aT (S0.out.drew.next hk1);obtain⟨rfl,_,_,_⟩:=hk1;obtain⟨z1_0,z1_1,z1_2,z1_3,z1_4,z1_5⟩:=S1.out.ib.cells;obtain⟨g1_0,_,_,_,_,_,_,_⟩:=S1.out.lk.cells) | ((go_at_call 273;go_call (jr S1.out.lk _ _) as e w6 hk6);have S6:=aT (S1.out.next hk6);obtain⟨rfl,_,_,_⟩:=hk6;obtain⟨z6_0,z6_1,z6_2,z6_3,z6_4,z6_5⟩:=S6.out.ib.cells;obtain⟨g6_0,_,_,_,_,_,_,_⟩:=S6.out.lk.cells) | fail);go_wp2;go_end0;exact S6.out.done.as rfl
theorem lkinstr_keep (h:LkAt w base g x p s)(hs:base<=w.heap.size)(hp:Olds w base x p)(y:Ins)(i:Nat)(ho:y.op=32) :
 Ca 224 #[.pointer (some ⟨g,0,none⟩),I (i:Nat),.agg #[I y.op,I y.a,I y.b,I y.c,I y.k]] w (ei w base g x p (bV p s i y) none):=by
 obtain⟨op,ya,yb,yc,yk⟩:=y;have S0:=aT (show LkS w base g x p ⟨op,ya,yb,yc,yk⟩ w.heap.size s (w.alloc (.cells #[I op,I ya,I yb,I yc,I yk] 144)) from LkS.first h hs ⟨op,ya,yb,yc,yk⟩);simp only at ho;subst ho;have hsg:=fun W=>i8 32 W
 rw[show sgn3 32=(0,0,false) from rfl] at hsg;obtain⟨z0,z1,z2,z3,z4,z5⟩:=S0.out.ib.cells;go_enter Tryz.func224,Tryz.ntmps224;go_upto_region 30 with (first | (go_at_call 271;go_call (hsg _) as e w1 ⟨rfl,rfl⟩) | fail);go_region_held3 (fun w'=>w'.cell? ⟨w.heap.size,1,none⟩=some (I ya)/\w'.cell? ⟨w.heap.size,4,none⟩=some (I yk)) (first | go_keep | (refine⟨?_,?_⟩ <;> assumption)) (first | ((go_at_call 275;go_call (jq S0.out.drew.lk _) as e w1 hk1);have S1:=aT (S0.out.drew.next hk1);obtain⟨rfl,_,_,_⟩:=hk1;obtain⟨z1_0,z1_1,z1_2,z1_3,z1_4,z1_5⟩:=S1.out.ib.cells) | ((go_at_call 276;go_call (pQ S1.out.lk (hp.rd S1.out.bel) _) as e w2 hk2);have S2:=aT (S1.out.next hk2);obtain⟨rfl,_,_,_⟩:=hk2;obtain⟨z2_0,z2_1,z2_2,z2_3,z2_4,z2_5⟩:=S2.out.ib.cells) | ((go_at_call 274;go_call (ie S2.out.lk _) as e w6 hk6);have S6:=aT (S2.out.next hk6);obtain⟨rfl,_,_,_⟩:=hk6;obtain⟨z6_0,z6_1,z6_2,z6_3,z6_4,z6_5⟩:=S6.out.ib.cells) | fail);go_wp2;go_end0;exact S6.out.done.as rfl
end
section
variable {w w':World} {base g:Nat} {x:PA} {p:PV} {s s':LkV}
theorem outs_at (h:LkAt w base g x p s)(hk:k<s.outs.length):∃ go no co,w.cell? ⟨g,6,none⟩=some (.slice (some ⟨go,0,none⟩) no co)/\k<no/\w.cell? ⟨go,k,none⟩=some (.bool (s.outs.getD k false))/\w.frozen? ⟨go,k,none⟩=false/\go<w.heap.size/\g≠go /\
 ei w base g x p { s with outs:=s.outs.set k true } none (.returned (.tuple #[])) (w.setCell ⟨go,k,none⟩ (.bool true)):=by
 obtain⟨K,nk,ck,O,no,co,hb,hg,hk',ho⟩:=h;have hol:=ho.1;obtain⟨go,hO,hgo,hgl⟩:=ho.addr aS;obtain⟨b1,o1,hO1,hb1,hc⟩:=ho.rd.2.at_ (show k<no by omega);rw[hO] at hO1;injection hO1 with hO1;injection hO1 with q1 q2 _;subst q1 q2;rw[ik s.outs k hk,aD] at hc;have e:s.outs.getD k false=s.outs[k]:=by rw[ah,ap hk];rfl
 subst hO;obtain⟨cs,hbk⟩:=ir (g:=go) ho rfl;have hne9:=hb.ne_ hbk aU;exact⟨go,no,co,hb.cell 6,aS,by rw[e];exact hc,ho.free k,hgl,hne9,rfl,⟨K,nk,ck,_,no,co,hb.far (p:=⟨go,k,none⟩) hne9 _,hg,hk'.setFar hbk aU k _,ho.set k true _ rfl⟩,(Below.refl _ _).setCell hgo _,Stay.set hbk aU _ _⟩
theorem lkneed_set (h:LkAt w base g x p s)(hb0:s.bad=false)(b:Bool):Ca 274 #[.pointer (some ⟨g,0,none⟩),.bool b] w fun e w'=>ei w base g x p (cJ s b) none e w'/\w'=w.setCell ⟨g,8,none⟩ (.bool (!b)):=by
 obtain⟨K,nk,ck,O,no,co,hb,hg,hk,ho⟩:=h;have c8:=hb.c8;have f8:=hb.frozen 8;have hl:=hb.lt;have HB:=aT hb;have HK:=aT hk;have HO:=aT ho;have HB0:=aT hb0;clear hb hk ho;rw[hb0] at c8;clear hb0;go_enter Tryz.func274,Tryz.ntmps274;go_wp2;go_end0;refine⟨⟨rfl,⟨K,nk,ck,O,no,co,?_,hg,HK.out.setFar HB.out aU 8 _,HO.out.setFar HB.out aU 8 _⟩,(Below.refl _ _).setCell hg _,Stay.set HB.out aU _ _⟩,rfl⟩;have:=HB.out.set_ 8 (.bool (!b));simpa [lkC,cJ,HB0.out] using this
theorem lkinstr_out (h:LkAt w base g x p s)(hs:base<=w.heap.size)(hp:Olds w base x p)(y:Ins)(i:Nat)(ho:y.op=29)(hol:s.outs.length=p.outs.length) :
 Ca 224 #[.pointer (some ⟨g,0,none⟩),I (i:Nat),.agg #[I y.op,I y.a,I y.b,I y.c,I y.k]] w (ei w base g x p (bV p s i y) none):=by
 obtain⟨op,ya,yb,yc,yk⟩:=y;have S0:=aT (show LkS w base g x p ⟨op,ya,yb,yc,yk⟩ w.heap.size s (w.alloc (.cells #[I op,I ya,I yb,I yc,I yk] 144)) from LkS.first h hs ⟨op,ya,yb,yc,yk⟩);simp only at ho;subst ho;have hsg:=fun W=>i8 29 W
 rw[show sgn3 29=(0,0,false) from rfl] at hsg;obtain⟨z0,z1,z2,z3,z4,z5⟩:=S0.out.ib.cells;obtain⟨g0,g1,g3,g4,g7,g8,gf,gl⟩:=S0.out.lk.cells;clear g0 g3 g4 g8;go_enter Tryz.func224,Tryz.ntmps224;go_upto_region 24 with (first | (go_at_call 271;go_call (hsg _) as e w1 ⟨rfl,rfl⟩) | fail);go_region_held3 (fun w'=>w'.cell? ⟨w.heap.size,1,none⟩=some (I ya)/\w'.cell? ⟨w.heap.size,4,none⟩=some (I yk)/\w'.cell? ⟨g,1,none⟩=some (.slice x.A2 x.n2 x.c2)) (first | go_keep | (refine⟨?_,?_,?_⟩ <;> assumption)) (first | ((go_at_call 275;go_call (jq S0.out.drew.lk _) as e w1 hk1);have S1:=aT (S0.out.drew.next hk1);obtain⟨rfl,_,_,_⟩:=hk1;obtain⟨z1_0,z1_1,z1_2,z1_3,z1_4,z1_5⟩:=S1.out.ib.cells;obtain⟨_,g1_1,_,_,_,_,_,gl1⟩:=S1.out.lk.cells) | ((go_at_call 277;go_call (lkone_any S1.out.lk _ _ _ _ (hp.rd S1.out.bel).r2 _) as e w2 hk2);have S2:=aT (S1.out.next hk2);obtain⟨rfl,_,_,_⟩:=hk2;obtain⟨z2_0,z2_1,z2_2,z2_3,z2_4,z2_5⟩:=S2.out.ib.cells;obtain⟨_,g2_1,_,_,_,_,_,gl2⟩:=S2.out.lk.cells) | ((go_at_call 274;go_call (ie S2.out.lk _) as e w3 hk3);have S3:=aT (S2.out.next hk3);obtain⟨rfl,_,_,_⟩:=hk3;obtain⟨z3_0,z3_1,z3_2,z3_3,z3_4,z3_5⟩:=S3.out.ib.cells;obtain⟨_,g3_1,_,_,g3_7,_,_,gl3⟩:=S3.out.lk.cells) | fail);have hpast:(cJ (oneV (cW s ya).1 p.outs yk).1 ((cW s ya).2 == (oneV (cW s ya).1 p.outs yk).2)).past=s.past:=by
  rw[iG,ke];rfl
 rw[hpast] at g3_7;go_upto_region 26 with (first | ((go_at_call 274;go_call (ie S3.out.lk _) as e w4 hk4);have S4:=aT (S3.out.next hk4);obtain⟨rfl,_,_,_⟩:=hk4;obtain⟨z4_0,z4_1,z4_2,z4_3,z4_4,z4_5⟩:=S4.out.ib.cells) | fail);have hfin:bV p s i ⟨29,ya,yb,yc,yk⟩=(if (cJ (cJ (oneV (cW s ya).1 p.outs yk).1 ((cW s ya).2 == (oneV (cW s ya).1 p.outs yk).2)) (decide (s.past<=(i:Int)))).bad then (cJ (cJ (oneV (cW s ya).1 p.outs yk).1 ((cW s ya).2 == (oneV (cW s ya).1 p.outs yk).2)) (decide (s.past<=(i:Int)))) else { cJ (cJ (cJ (oneV (cW s ya).1 p.outs yk).1 ((cW s ya).2 == (oneV (cW s ya).1 p.outs yk).2)) (decide (s.past<=(i:Int)))) (!((cJ (cJ (oneV (cW s ya).1 p.outs yk).1 ((cW s ya).2 == (oneV (cW s ya).1 p.outs yk).2)) (decide (s.past<=(i:Int)))).outs.getD yk.toNat false)) with outs:=(cJ (cJ (oneV (cW s ya).1 p.outs yk).1 ((cW s ya).2 == (oneV (cW s ya).1 p.outs yk).2)) (decide (s.past<=(i:Int)))).outs.set yk.toNat true }):=by
  show (if _ then _ else _)=_
  rfl
 have hrange:(cJ (cJ (oneV (cW s ya).1 p.outs yk).1 ((cW s ya).2 == (oneV (cW s ya).1 p.outs yk).2)) (decide (s.past<=(i:Int)))).bad=false->0<=yk/\yk<(p.outs.length:Int):=fun e=>by
  by_cases q:yk<0\/(p.outs.length:Int)<=yk
  · exfalso
    rw[ke,am q] at e;simp[cJ] at e
  · omega
 have hlen:(cJ (cJ (oneV (cW s ya).1 p.outs yk).1 ((cW s ya).2 == (oneV (cW s ya).1 p.outs yk).2)) (decide (s.past<=(i:Int)))).outs.length=p.outs.length:=by
  rw[iG,ke];exact hol
 generalize cJ (cJ (oneV (cW s ya).1 p.outs yk).1 ((cW s ya).2 == (oneV (cW s ya).1 p.outs yk).2)) (decide (s.past<=(i:Int)))=s4 at *;have HF:=aT hfin;have HL:=aT hlen;obtain⟨_,_,_,_,_,g4_8,_,gl4⟩:=S4.out.lk.cells;clear hfin hlen hpast
 cases hb:s4.bad with
 | true=>
   rw[hb] at g4_8;have HB:=aT hb;clear hb hrange;go_wp2_with fail;go_end0;refine S4.out.done.as ?_;rw[HF.out,if_pos HB.out]
 | false=>
   rw[hb] at g4_8;obtain⟨r1,r2⟩:=hrange hb;obtain⟨k,rfl⟩:∃ k:Nat,yk=k:=⟨yk.toNat,aS⟩;have HB:=aT hb;clear hb hrange r1;obtain⟨go,no,co,c6,hkn,cgo,fgo,lgo,hne,hst⟩:=outs_at S4.out.lk (k:=k) (by rw[HL.out];omega);clear hst;have hk4:k<s4.outs.length:=by rw[HL.out];omega
   have n6:(⟨g,8,none⟩:Addr)≠⟨g,6,none⟩:=by simp
   have nk:(⟨g,8,none⟩:Addr)≠⟨go,k,none⟩:=fun e=>hne (by injection e)
   have N6:=aT n6;have NK:=aT nk;clear n6 nk;have HK4:=aT hk4;clear hk4;generalize hov:s4.outs.getD k false=ov at *;have HOV:=aT hov;clear hov;go_upto_region 27 with fail;go_region_held3 (fun w'=>w'.cell? ⟨w.heap.size,4,none⟩=some (I (k:Nat))/\w'.cell? ⟨g,6,none⟩=some (.slice (some ⟨go,0,none⟩) no co)/\w'.cell? ⟨go,k,none⟩=some (.bool ov)) (first | go_keep | (refine⟨?_,?_,?_⟩ <;> assumption)) (first | ((go_at_call 274;go_call (lkneed_set S4.out.drew.lk HB.out _) as e w5 ⟨hk5,hw5⟩);have S5:=aT (S4.out.drew.next hk5);obtain⟨rfl,_,_,_⟩:=hk5;obtain⟨z5_0,z5_1,z5_2,z5_3,z5_4,z5_5⟩:=S5.out.ib.cells;have c65:w5.cell? ⟨g,6,none⟩=some (.slice (some ⟨go,0,none⟩) no co):=(by rw[hw5];exact (World.cell?_setCell_other _ _ _ _ N6.out).trans c6);have cgo5:w5.cell? ⟨go,k,none⟩=some (.bool ov):=(by rw[hw5];exact (World.cell?_setCell_other _ _ _ _ NK.out).trans cgo);clear hw5) | fail);obtain⟨go5,no5,co5,c65b,hkn5,cgo5b,fgo5,lgo5,hne5,hst5⟩:=outs_at S5.out.lk (k:=k) (show k<(cJ s4 (!ov)).outs.length from HK4.out);have e5:=c65.symm.trans c65b;injection e5 with e5;injection e5 with e5 _ _;injection e5 with e5;injection e5 with e5 _ _;subst e5;have H5:=aT (S5.out.next hst5);clear c65b hkn5 cgo5b hst5;go_upto_region 28 with fail;go_region;go_wp2;go_end0;exact H5.out.drew.done.as (by rw[HF.out,if_neg (by rw[HB.out];simp),ax,HOV.out];rfl)
end
section
variable {w w':World} {base g:Nat} {x:PA} {p:PV} {s s':LkV}
theorem iu (h:LkAt w base g x p s)(z:Int):ei w base g x p { s with past:=z } none (.returned (.tuple #[])) (w.setCell ⟨g,7,none⟩ (I z)):=by
 obtain⟨K,nk,ck,O,no,co,hb,hg,hk,ho⟩:=h;exact⟨rfl,⟨K,nk,ck,O,no,co,hb.set_ 7 (I z),hg,hk.setFar hb aU 7 _,ho.setFar hb aU 7 _⟩,(Below.refl _ _).setCell hg _,Stay.set hb aU _ _⟩
theorem iw {b b':Bool}{z z':Int}(hb:b=b')(hz:z=z'):({ cJ s1 b with past:=z }:LkV)={ cJ s1 b' with past:=z' }:=by subst hb hz;rfl
def skipOp (op:Int):Prop:=fC op=false/\op≠1/\op≠2/\op≠3/\op≠27/\op≠21/\op≠28/\op≠29/\op≠32
theorem instrV_skip (h:skipOp y.op)(i:Nat):bV p s i y={ cJ (cW s y.a).1 (decide ((cW s y.a).2=2) && (decide (0<=y.k) && decide (y.k<=(p.code.length:Int) - 1 - (i:Int)))) with past:=max s.past ((i:Int)+1+min y.k (p.code.length:Int)) }:=by
 obtain⟨h0,h1,h2,h3,h4,h5,h6,h7,h8⟩:=h;unfold bV;rw[h0,if_neg aZ,if_neg h1,if_neg h2,if_neg h3,if_neg h4,if_neg h5,if_neg h6,if_neg h7,if_neg h8];rw[iG]
 rfl
theorem lkinstr_skip (h:LkAt w base g x p s)(hs:base<=w.heap.size)(hp:Olds w base x p)(y:Ins)(i:Nat)(ho:skipOp y.op)(hi:i<p.code.length)(hcode:p.code.length<=100000)(hk:-9223372036854775808<=y.k/\y.k<=9223372036854775807) :
 Ca 224 #[.pointer (some ⟨g,0,none⟩),I (i:Nat),.agg #[I y.op,I y.a,I y.b,I y.c,I y.k]] w (ei w base g x p (bV p s i y) none):=by
 rw[instrV_skip ho];obtain⟨op,ya,yb,yc,yk⟩:=y;have S0:=aT (show LkS w base g x p ⟨op,ya,yb,yc,yk⟩ w.heap.size s (w.alloc (.cells #[I op,I ya,I yb,I yc,I yk] 144)) from LkS.first h hs ⟨op,ya,yb,yc,yk⟩);simp only at ho hk ⊢;obtain⟨o0,o1,o2,o3,o27,o21,o28,o29,o32⟩:=ho;have hsg:=fun W=>i8 op W
 rw[show sgn3 op=(0,0,false) from by unfold sgn3;rw[o0];rfl] at hsg;have b1:(op == 1)=false:=by rw[af];exact o1
 have b2:(op == 2)=false:=by rw[af];exact o2
 have b3:(op == 3)=false:=by rw[af];exact o3
 have b27:(op == 27)=false:=by rw[af];exact o27
 have b21:(op == 21)=false:=by rw[af];exact o21
 have b28:(op == 28)=false:=by rw[af];exact o28
 have b29:(op == 29)=false:=by rw[af];exact o29
 have b32:(op == 32)=false:=by rw[af];exact o32
 clear o0 o1 o2 o3 o27 o21 o28 o29 o32;obtain⟨z0,z1,z2,z3,z4,z5⟩:=S0.out.ib.cells;obtain⟨g0,g1,g3,g4,g7,g8,gf,gl⟩:=S0.out.lk.cells;clear g0 g1 g3 g7 g8;have hn4:p.code.length=x.n4:=by obtain⟨w0,hr,_⟩:=hp;exact hr.r4.1
 have hn4m:x.n4<=maxLen:=by obtain⟨w0,hr,_⟩:=hp;have:=hr.k4;omega
 rw[hn4] at hi hcode ⊢;unfold maxLen at hn4m;have HN4:=aT hn4;clear hn4;have hpast:∀ b,(cJ (cW s ya).1 b).past=s.past:=fun b=>by rw[iG];rfl
 have HPT:=aT hpast;clear hpast;have htk:=fun {W:World} (L:LkAt W base g x p s)=>jq L ya
 generalize cW s ya=T at *;obtain⟨s1,tv⟩:=T;simp only at htk HPT ⊢;generalize hM:max s.past ((i:Int)+1+min yk (x.n4:Int))=M;generalize htb:(decide (tv=2) && (decide (0<=yk) && decide (yk<=(x.n4:Int) - 1 - (i:Int))))=tb;have HM:=aT hM;clear hM;have w1:IntKind.i64.wrap ((x.n4:Int) - 1)=(x.n4:Int) - 1:=by rw[IntKind.wrap_i64];omega
 have w2':IntKind.i64.wrap ((x.n4:Int) - 1 - (i:Int))=(x.n4:Int) - 1 - (i:Int):=by rw[IntKind.wrap_i64];omega
 by_cases t2:tv=2
 · subst t2
   by_cases k0:0<=yk
   · by_cases k1:yk<=(x.n4:Int) - 1 - (i:Int)
     · have hB:=aT (show true=tb from by rw[<- htb,am (rfl:(2:Int)=2),am k0,am k1];rfl);clear htb;go_enter Tryz.func224,Tryz.ntmps224;go_upto_region 5 with (first | (go_at_call 271;go_call (hsg _) as e w1 ⟨rfl,rfl⟩) | fail);go_region_held3 (fun w'=>w'.cell? ⟨w.heap.size,1,none⟩=some (I ya)/\w'.cell? ⟨w.heap.size,4,none⟩=some (I yk)/\w'.cell? ⟨g,4,none⟩=some (.slice x.A4 x.n4 x.c4)) (first | go_keep | (refine⟨?_,?_,?_⟩ <;> assumption)) (first | ((go_at_call 275;go_call (htk S0.out.drew.lk) as e w1 hk1);have S1:=aT (S0.out.drew.next hk1);obtain⟨rfl,_,_,_⟩:=hk1;obtain⟨z1_0,z1_1,z1_2,z1_3,z1_4,z1_5⟩:=S1.out.ib.cells;obtain⟨_,_,_,g1_4,_,_,_,gl1⟩:=S1.out.lk.cells) | ((go_at_call 274;go_call (ie S1.out.lk _) as e w2 hk2);have S2:=aT (S1.out.next hk2);obtain⟨rfl,_,_,_⟩:=hk2;obtain⟨z2_0,z2_1,z2_2,z2_3,z2_4,z2_5⟩:=S2.out.ib.cells;obtain⟨_,_,_,g2_4,g2_7,_,gf2,gl2⟩:=S2.out.lk.cells) | fail);rw[HPT.out] at g2_7;have hmin:yk<=(x.n4:Int):=aS
       by_cases hmax:s.past<=(i:Int)+1+yk
       · skip
         go_upto_region 6 with fail;go_region
         all_goals go_wp2
         all_goals
          go_end0;refine ((S2.out.next (iu S2.out.lk _)).drew.done).as (iw ?_ ?_)
          · first
             | exact hB.out
             | (rw[<- hB.out,aE];omega)
             | (exfalso;omega)
          · have:=HM.out;omega
       · skip
         go_upto_region 6 with fail;go_region
         all_goals go_wp2
         all_goals
          go_end0;refine ((S2.out.next (iu S2.out.lk _)).drew.done).as (iw ?_ ?_)
          · first
             | exact hB.out
             | (rw[<- hB.out,aE];omega)
             | (exfalso;omega)
          · have:=HM.out;omega
     · have hB:=aT (show false=tb from by rw[<- htb,aj k1,Bool.and_false,Bool.and_false]);clear htb;go_enter Tryz.func224,Tryz.ntmps224;go_upto_region 5 with (first | (go_at_call 271;go_call (hsg _) as e w1 ⟨rfl,rfl⟩) | fail);go_region_held3 (fun w'=>w'.cell? ⟨w.heap.size,1,none⟩=some (I ya)/\w'.cell? ⟨w.heap.size,4,none⟩=some (I yk)/\w'.cell? ⟨g,4,none⟩=some (.slice x.A4 x.n4 x.c4)) (first | go_keep | (refine⟨?_,?_,?_⟩ <;> assumption)) (first | ((go_at_call 275;go_call (htk S0.out.drew.lk) as e w1 hk1);have S1:=aT (S0.out.drew.next hk1);obtain⟨rfl,_,_,_⟩:=hk1;obtain⟨z1_0,z1_1,z1_2,z1_3,z1_4,z1_5⟩:=S1.out.ib.cells;obtain⟨_,_,_,g1_4,_,_,_,gl1⟩:=S1.out.lk.cells) | ((go_at_call 274;go_call (ie S1.out.lk _) as e w2 hk2);have S2:=aT (S1.out.next hk2);obtain⟨rfl,_,_,_⟩:=hk2;obtain⟨z2_0,z2_1,z2_2,z2_3,z2_4,z2_5⟩:=S2.out.ib.cells;obtain⟨_,_,_,g2_4,g2_7,_,gf2,gl2⟩:=S2.out.lk.cells) | fail);rw[HPT.out] at g2_7
       by_cases hmin:yk<=(x.n4:Int)
       · by_cases hmax:s.past<=(i:Int)+1+yk
         · skip
           go_upto_region 6 with fail;go_region
           all_goals go_wp2
           all_goals
            go_end0;refine ((S2.out.next (iu S2.out.lk _)).drew.done).as (iw ?_ ?_)
            · first
               | exact hB.out
               | (rw[<- hB.out,aE];omega)
               | (exfalso;omega)
            · have:=HM.out;omega
         · skip
           go_upto_region 6 with fail;go_region
           all_goals go_wp2
           all_goals
            go_end0;refine ((S2.out.next (iu S2.out.lk _)).drew.done).as (iw ?_ ?_)
            · first
               | exact hB.out
               | (rw[<- hB.out,aE];omega)
               | (exfalso;omega)
            · have:=HM.out;omega
       · by_cases hmax:s.past<=(i:Int)+1+(x.n4:Int)
         · skip
           go_upto_region 6 with fail;go_region
           all_goals go_wp2
           all_goals
            go_end0;refine ((S2.out.next (iu S2.out.lk _)).drew.done).as (iw ?_ ?_)
            · first
               | exact hB.out
               | (rw[<- hB.out,aE];omega)
               | (exfalso;omega)
            · have:=HM.out;omega
         · skip
           go_upto_region 6 with fail;go_region
           all_goals go_wp2
           all_goals
            go_end0;refine ((S2.out.next (iu S2.out.lk _)).drew.done).as (iw ?_ ?_)
            · first
               | exact hB.out
               | (rw[<- hB.out,aE];omega)
               | (exfalso;omega)
            · have:=HM.out;omega
   · have kd:=aj k0;have hB:=aT (show false=tb from by rw[<- htb,aj k0,Bool.false_and,Bool.and_false]);clear htb;go_enter Tryz.func224,Tryz.ntmps224;go_upto_region 5 with (first | (go_at_call 271;go_call (hsg _) as e w1 ⟨rfl,rfl⟩) | fail);refine wp_region_held_drew (S:=fun w'=>w'.cell? ⟨w.heap.size,1,none⟩=some (I ya)/\w'.cell? ⟨w.heap.size,4,none⟩=some (I yk)/\w'.cell? ⟨g,4,none⟩=some (.slice x.A4 x.n4 x.c4)) bM ⟨z1,z4,g4⟩ (fun hHeld=>?_);refine aV 0 ?_;refine aV 1 ?_;refine aV 2 ?_;refine aV 3 ?_ (hy:=Or.inl ⟨by rfl,eY⟩);refine bR 4 (fun K hK=>?_);go_simp
     (go_at_call 275;go_call (htk S0.out.drew.lk) as e w1 hk1)
     have S1:=aT (S0.out.drew.next hk1);obtain⟨rfl,_,_,_⟩:=hk1;obtain⟨z1_0,z1_1,z1_2,z1_3,z1_4,z1_5⟩:=S1.out.ib.cells;obtain⟨_,_,_,g1_4,_,_,_,gl1⟩:=S1.out.lk.cells;refine hK.out _ _ (⟨z1_1,z1_4,g1_4⟩) (fun hHeld=>?_);clear hK K;refine bJ ?_;refine aV 5 ?_;refine aV 6 ?_;refine aV 7 ?_;refine aV 8 ?_ (hy:=Or.inl ⟨by rfl,eY⟩);refine aV 9 ?_;refine aV 10 ?_;refine aV 11 ?_;refine bB 12 ?_;refine bB 13 ?_;refine bB 14 ?_;refine bB 15 ?_;refine bB 16 ?_;refine bB 17 ?_;refine bB 18 ?_;refine bB 19 ?_;refine bB 20 ?_;refine bB 21 ?_;refine bB 22 ?_;refine bB 23 ?_;refine aV 24 ?_;refine bR 25 (fun K hK=>?_);go_simp
     (go_at_call 274;go_call (ie S1.out.lk _) as e w2 hk2)
     have S2:=aT (S1.out.next hk2);obtain⟨rfl,_,_,_⟩:=hk2;obtain⟨z2_0,z2_1,z2_2,z2_3,z2_4,z2_5⟩:=S2.out.ib.cells;obtain⟨_,_,_,g2_4,g2_7,_,gf2,gl2⟩:=S2.out.lk.cells;refine hK.out _ _ (⟨z2_1,z2_4,g2_4⟩) (fun hHeld=>?_);clear hK K;refine bJ ?_;refine wpAnyH_done bT ?_ _;rw[HPT.out] at g2_7;have hmin:yk<=(x.n4:Int):=aS
     by_cases hmax:s.past<=(i:Int)+1+yk
     · skip
       go_upto_region 6 with fail;go_region
       all_goals go_wp2
       all_goals
        go_end0;refine ((S2.out.next (iu S2.out.lk _)).drew.done).as (iw ?_ ?_)
        · first
           | exact hB.out
           | (rw[<- hB.out,aE];omega)
           | (exfalso;omega)
        · have:=HM.out;omega
     · skip
       go_upto_region 6 with fail;go_region
       all_goals go_wp2
       all_goals
        go_end0;refine ((S2.out.next (iu S2.out.lk _)).drew.done).as (iw ?_ ?_)
        · first
           | exact hB.out
           | (rw[<- hB.out,aE];omega)
           | (exfalso;omega)
        · have:=HM.out;omega
 · have t2b:(tv == 2)=false:=by rw[af];exact t2
   have hB:=aT (show false=tb from by rw[<- htb,aj t2,Bool.false_and]);clear htb;go_enter Tryz.func224,Tryz.ntmps224;go_upto_region 5 with (first | (go_at_call 271;go_call (hsg _) as e w1 ⟨rfl,rfl⟩) | fail);refine wp_region_held_drew (S:=fun w'=>w'.cell? ⟨w.heap.size,1,none⟩=some (I ya)/\w'.cell? ⟨w.heap.size,4,none⟩=some (I yk)/\w'.cell? ⟨g,4,none⟩=some (.slice x.A4 x.n4 x.c4)) bM ⟨z1,z4,g4⟩ (fun hHeld=>?_);refine aV 0 ?_;refine aV 1 ?_;refine aV 2 ?_;refine aV 3 ?_ (hy:=Or.inl ⟨by rfl,eY⟩);refine bR 4 (fun K hK=>?_);go_simp
   (go_at_call 275;go_call (htk S0.out.drew.lk) as e w1 hk1)
   have S1:=aT (S0.out.drew.next hk1);obtain⟨rfl,_,_,_⟩:=hk1;obtain⟨z1_0,z1_1,z1_2,z1_3,z1_4,z1_5⟩:=S1.out.ib.cells;obtain⟨_,_,_,g1_4,_,_,_,gl1⟩:=S1.out.lk.cells;refine hK.out _ _ (⟨z1_1,z1_4,g1_4⟩) (fun hHeld=>?_);clear hK K;refine bJ ?_;refine aV 5 ?_;refine aV 6 ?_;refine bB 7 ?_;refine bB 8 ?_;refine bB 9 ?_;refine aV 10 ?_;refine aV 11 ?_;refine bB 12 ?_;refine bB 13 ?_;refine bB 14 ?_;refine bB 15 ?_;refine bB 16 ?_;refine bB 17 ?_;refine bB 18 ?_;refine bB 19 ?_;refine bB 20 ?_;refine bB 21 ?_;refine bB 22 ?_;refine bB 23 ?_;refine aV 24 ?_;refine bR 25 (fun K hK=>?_);go_simp
   (go_at_call 274;go_call (ie S1.out.lk _) as e w2 hk2)
   have S2:=aT (S1.out.next hk2);obtain⟨rfl,_,_,_⟩:=hk2;obtain⟨z2_0,z2_1,z2_2,z2_3,z2_4,z2_5⟩:=S2.out.ib.cells;obtain⟨_,_,_,g2_4,g2_7,_,gf2,gl2⟩:=S2.out.lk.cells;refine hK.out _ _ (⟨z2_1,z2_4,g2_4⟩) (fun hHeld=>?_);clear hK K;refine bJ ?_;refine wpAnyH_done bT ?_ _;rw[HPT.out] at g2_7
   by_cases hmin:yk<=(x.n4:Int)
   · by_cases hmax:s.past<=(i:Int)+1+yk
     · skip
       go_upto_region 6 with fail;go_region
       all_goals go_wp2
       all_goals
        go_end0;refine ((S2.out.next (iu S2.out.lk _)).drew.done).as (iw ?_ ?_)
        · first
           | exact hB.out
           | (rw[<- hB.out,aE];omega)
           | (exfalso;omega)
        · have:=HM.out;omega
     · skip
       go_upto_region 6 with fail;go_region
       all_goals go_wp2
       all_goals
        go_end0;refine ((S2.out.next (iu S2.out.lk _)).drew.done).as (iw ?_ ?_)
        · first
           | exact hB.out
           | (rw[<- hB.out,aE];omega)
           | (exfalso;omega)
        · have:=HM.out;omega
   · by_cases hmax:s.past<=(i:Int)+1+(x.n4:Int)
     · skip
       go_upto_region 6 with fail;go_region
       all_goals go_wp2
       all_goals
        go_end0;refine ((S2.out.next (iu S2.out.lk _)).drew.done).as (iw ?_ ?_)
        · first
           | exact hB.out
           | (rw[<- hB.out,aE];omega)
           | (exfalso;omega)
        · have:=HM.out;omega
     · skip
       go_upto_region 6 with fail;go_region
       all_goals go_wp2
       all_goals
        go_end0;refine ((S2.out.next (iu S2.out.lk _)).drew.done).as (iw ?_ ?_)
        · first
           | exact hB.out
           | (rw[<- hB.out,aE];omega)
           | (exfalso;omega)
        · have:=HM.out;omega
end
theorem gM {α:Type}{enc:α->Value}{W:World}{n:Nat}{e:TypeId}{l:List α}(h:Blk W g e (l.map enc))(hb:base<=g)(hl:l.length=n)(hm:n<=maxLen):Ow enc W base e (some ⟨g,0,none⟩) n n l:=by
 subst hl;exact⟨rfl,by simp,.inr ⟨g,l.length,(l.map enc).toArray,rfl,hb,h,Nat.le_refl _,hm,by simp,by rw[Nat.mul_one];exact au aZ⟩⟩
theorem setCell_same {i:Nat}{v:Value}(h:Blk w g t cs)(hv:cs[i]?=some v):w.setCell ⟨g,i,none⟩ v=w:=by
 have hg:=h.lt;unfold Blk at h;have hheap:(w.setCell ⟨g,i,none⟩ v).heap=w.heap:=by
  apply Array.ext (by simp[World.setCell]);intro j h1 h2
  by_cases e:j=g
  · subst e;have e1:(w.setCell ⟨j,i,none⟩ v).heap[j]?=w.heap[j]?:=by
     simp only[World.setCell,Array.getElem?_modify,if_true];rw[h];simp only[Option.map_some,Option.isSome_none,Bool.false_eq_true,if_false]
     congr 2
     apply Array.ext';rw[Array.toList_setIfInBounds];obtain⟨hi,hv'⟩:=List.getElem?_eq_some_iff.1 hv
     show cs.set i v=cs
     rw[<- hv',List.set_getElem_self]
    rw[Array.getElem?_eq_getElem h1,Array.getElem?_eq_getElem h2] at e1;injection e1
  · have e1:(w.setCell ⟨g,i,none⟩ v).heap[j]?=w.heap[j]?:=by
     simp only[World.setCell,Array.getElem?_modify];rw[if_neg (fun q=>e q.symm)]
    rw[Array.getElem?_eq_getElem h1,Array.getElem?_eq_getElem h2] at e1;injection e1
 cases w
 simp only[World.setCell] at hheap ⊢;rw[hheap]
theorem setCells_same {v:Value}(h:Blk w g t cs):∀ (n o:Nat),(∀ j,j<n->cs[o+j]?=some v)->w.setCells g o (List.replicate n v)=w:=by
 intro n
 induction n with
 | zero=>intro o _;rfl
 | succ n ih=>
   intro o hj;rw[List.replicate_succ,World.setCells,setCell_same (i:=o) h (hj 0 aS)];exact ih (o+1) (fun j hlt=>by have:=hj (j+1) aS;rwa [show o+(j+1)=o+1+j by omega] at this)
theorem zero_of {P:Program}{z:Value}{a:Nat}(h:(P.info? t).map (fun i=>(i.zero,i.size,i.bytes))=some (some z,a,b))(w:World):(zeroValue t).run P w=.ok z w:=by
 cases hi:P.info? t with
 | none=>rw[hi] at h;cases h
 | some i=>
   rw[hi] at h;simp only[Option.map_some,Option.some.injEq,Prod.mk.injEq] at h;simp[zeroValue,typeInfo,hi,h.1]
theorem elemBool:dQ Tryz.prog 149 4 (.bool false) 1 1:=dQ.mk' Tryz.underlying149 bM rfl aU
theorem zeroInt (w:World):(zeroValue 3).run Tryz.prog w=.ok (I 0) w:=zero_of (P:=Tryz.prog) (a:=1) (b:=8) bM w
theorem zeroBool (w:World):(zeroValue 4).run Tryz.prog w=.ok (.bool false) w:=zero_of (P:=Tryz.prog) (a:=1) (b:=1) bM w
theorem clear_ow {α:Type}{enc:α->Value}{P:Program}{e ty:TypeId}{z:Value}{n c:Nat}{A:Option Addr}{l:List α}(ht:P.underlying t=some (.slice e))(hv:∀ w,(zeroValue e).run P w=.ok z w)(hz:z.cells=#[z])(h1:z.oneCell'=true)(h:Ow enc w base e A n c l)(hl:∀ x ∈ l,enc x=z) :
 (Builtin.clear_ #[t] ty #[.slice A n c]).run P w=.ok (.tuple #[]) w:=by
 rcases h.2.2 with ⟨hv',hn⟩ | ⟨g,cap,cur,hv',_,hh,hnc,_,hsz,htk⟩
 · injection hv' with e1 e2 e3;subst e1 hn;simp[Builtin.clear_,run_underlying ht]
 · injection hv' with e1 e2 e3;subst e1 e3;have hb:Blk w g e cur.toList:=by unfold Blk;rw[hh]
   have hcell:∀ j,j<n->cur.toList[j]?=some z:=fun j hj=>by
    have h2:(cur.toList.take (n * 1))[j]?=(l.map enc)[j]?:=by rw[htk]
    rw[aL,if_pos aS,List.getElem?_map] at h2;rw[h2,ap (by rw[h.1];exact hj)];simp only[Option.map_some];rw[hl _ (List.getElem_mem _)]
   rcases aI n with q | q
   · subst q;simp[Builtin.clear_,run_underlying ht]
   · refine (Lib.run_clear_slice (P:=P) w t e ty z ht hv hz h1 g 0 n _ q (fun j hj=>by rw[aD,hb.cell j,hcell j hj];rfl) (fun j _=>hb.frozen _)).trans ?_;rw[setCells_same hb n 0 (fun j hj=>by rw[aD];exact hcell j hj)]
section
variable {w w':World}
theorem index_false (A:Option Addr)(n c:Nat)(l:List Bool)(w:World)(h:Rd bo w A n l)(hn:n<=maxLen) :
 Ca 278 #[.slice A n c,.bool false] w fun e w'=>∃ z:Int,e=.returned (I z)/\(0<=z ↔ l.all id=false)/\w=w':=by
 have hl:=h.1;have HL:=aT hl;have HR:=aT h;unfold maxLen at hn;clear h hl;go_enter Tryz.func278,Tryz.ntmps278;go_wp2_with fail;go_loopw [5,8] (fun _ i wr=>∃ k:Nat,k<=n/\i=I (k:Nat)/\(∀ j,j<k->l[j]?=some true)/\w=wr) (fun _ i _=>n - (intOf i).toNat)
 case atStart=>exact⟨0,aS,rfl,fun j hj=>absurd hj aS,rfl⟩
 case round=>
  obtain⟨k,hk,rfl,hall,rfl⟩:=hrel;have HA:=aT hall;clear hall
  by_cases hlt:k<n
  · obtain⟨b,o,rfl,hb,hc⟩:=HR.out.2.at_ hlt;have hkl:k<l.length:=by rw[HL.out];exact hlt
    rw[ik l k hkl] at hc;have hx:=ap hkl;have HX:=aT hx;clear hx;generalize l[k]=xb at *
    cases xb with
    | false=>
      have hf:Hid (l.all id=false):=by
       show l.all id=false
       cases q:l.all id with
       | false=>rfl
       | true=>
         rw[List.all_eq_true] at q;have:=q false (List.mem_of_getElem? HX.out)
         cases this
      have hc':w.cell? ⟨b,o+k,none⟩=some (.bool false):=hc;clear hc;go_wp2;go_ret;exact⟨(k:Nat),rfl,⟨fun _=>hf.out,fun _=>by omega⟩,rfl⟩
    | true=>
      have hc':w.cell? ⟨b,o+k,none⟩=some (.bool true):=hc;clear hc;have hn2:Hid (∀ j,j<k+1->l[j]?=some true):=fun j hj=>by
       rcases ay j k with q | q
       · exact HA.out j q
       · have:j=k:=aS;subst this;exact HX.out
      go_wp2;go_roundw
      case rel=>exact⟨k+1,aS,by go_num,hn2.out,trivial⟩
      case measure=>simp[intOf];omega
  · have hk9:k=n:=aS;subst hk9;go_wp2;go_ret;refine⟨-1,rfl,⟨fun h=>absurd h aS,fun h=>?_⟩,rfl⟩
    exfalso
    have:l.all id=true:=by
     rw[List.all_eq_true];intro y hy;obtain⟨j,hj⟩:=List.getElem?_of_mem hy;have hjl:=(List.getElem?_eq_some_iff.1 hj).1;have:=HA.out j (by rw[<- HL.out];exact hjl);rw[hj] at this;injection this
    rw[this] at h
    cases h
theorem contains_false (A:Option Addr)(n c:Nat)(l:List Bool)(w:World)(h:Rd bo w A n l)(hn:n<=maxLen) :
 Ca 225 #[.slice A n c,.bool false] w fun e w'=>e=.returned (.bool (!(l.all id)))/\w=w':=by
 have hi:=index_false A n c l w h hn;go_enter Tryz.func225,Tryz.ntmps225;go_wp2_with (first | ((go_at_call 278;go_call (hi) as e w1 ⟨z,rfl,hz,rfl⟩);have HZ:=aT hz;clear hz) | fail);go_ret;refine⟨df ?_,rfl⟩;have hz:=HZ.out
 cases q:l.all id with
 | false=>rw[q] at hz;simpa using hz
 | true=>rw[q] at hz;simpa using hz
theorem mD (s:LkV)(n:Int):(cW s n).1.outs=s.outs:=by rw[iG]
theorem ox (s:LkV)(n k:Int):(fp s n k).outs=s.outs:=by rw[givesV_eq]
theorem oneV_outs (s:LkV)(l:List Int)(n:Int):(oneV s l n).1.outs=s.outs:=by rw[ke]
theorem cellV_outs (p:PV)(s:LkV)(n:Int):(cellV p s n).1.outs=s.outs:=by rw[mo]
theorem mE (s:LkV)(b:Bool):(cJ s b).outs=s.outs:=rfl
theorem reckV_outs (s:LkV)(y:Ins):(reckV s y).outs=s.outs:=by
 unfold reckV;simp only
 split
 · rw[ox,mE,mD,mE,mD]
 · rw[ox,mE,mD]
theorem instrV_outs (p:PV)(s:LkV)(i:Nat)(y:Ins):(bV p s i y).outs.length=s.outs.length:=by
 unfold bV;simp only
 repeat' split
 all_goals simp only[reckV_outs,ox,mD,mE,oneV_outs,cellV_outs,List.length_set]
theorem lookV_outs (p:PV)(k:Nat):(cj p k).outs.length=p.outs.length:=by
 induction k with
 | zero=>simp[cj]
 | succ k ih=>
   unfold cj
   split
   · exact ih
   · rw[instrV_outs];exact ih
theorem lookV_bad {p:PV}(h:(cj p k).bad=true):∀ m,cj p (k+m)=cj p k:=by
 intro m
 induction m with
 | zero=>rfl
 | succ m ih=>
   show (if (cj p (k+m)).bad then cj p (k+m) else _)=_
   rw[ih,if_pos h]
theorem lookV_good {p:PV}(h:(cj p k).bad=false):cj p (k+1)=bV p (cj p k) k (aY p.code k):=by
 show (if (cj p k).bad then cj p k else _)=_
 rw[if_neg (by rw[h];simp)]
section
variable {base g:Nat} {x:PA} {p:PV} {s:LkV}
theorem lkinstr_any (h:LkAt w base g x p s)(hs:base<=w.heap.size)(hp:Olds w base x p)(y:Ins)(i:Nat)(hol:s.outs.length=p.outs.length)(hi:i<p.code.length)(hcode:p.code.length<=100000)(hk:-9223372036854775808<=y.k/\y.k<=9223372036854775807) :
 Ca 224 #[.pointer (some ⟨g,0,none⟩),I (i:Nat),.agg #[I y.op,I y.a,I y.b,I y.c,I y.k]] w (ei w base g x p (bV p s i y) none):=by
 by_cases h0:fC y.op=true
 · exact lkinstr_sign h hs y i h0
 by_cases h1:y.op=1
 · exact lkinstr_int h hs y i h1
 by_cases h2:y.op=2
 · exact lkinstr_bool h hs y i h2
 by_cases h3:y.op=3
 · exact lkinstr_var h hs y i h3
 by_cases h4:y.op=27
 · exact lkinstr_if h hs y i h4
 by_cases h5:y.op=21
 · exact lkinstr_cell h hs hp y i h5
 by_cases h6:y.op=28
 · exact lkinstr_in h hs hp y i h6
 by_cases h7:y.op=29
 · exact lkinstr_out h hs hp y i h7 hol
 by_cases h8:y.op=32
 · exact lkinstr_keep h hs hp y i h8
 · exact lkinstr_skip h hs hp y i ⟨by simpa using h0,h1,h2,h3,h4,h5,h6,h7,h8⟩ hi hcode hk
theorem Olds.below (h:Olds w base x p)(hb:Below base w w'):Olds w' base x p:=by
 obtain⟨w0,h1,h2,h3⟩:=h;exact⟨w0,h1,h2,h3.trans hb⟩
theorem look_any (h:LkAt w base g x p (cj p 0))(hs:base<=w.heap.size)(hp:Olds w base x p)(hm:mayB p=true)(hw:eO p) :
 Ca 154 #[.pointer (some ⟨g,0,none⟩)] w fun e w'=>e=.returned (.bool (!(cj p p.code.length).bad && (cj p p.code.length).outs.all id))/\Below base w w':=by
 have HL:=aT h;obtain⟨K,nk,ck,O,no,co,hb,hg,hk,ho⟩:=h;have c4:=hb.c4;have c5:=hb.c5;have c6:=hb.c6;have hcl5:∀ ty,(Builtin.clear_ #[22] ty #[.slice K nk ck]).run Tryz.prog w=.ok (.tuple #[]) w:=fun ty=>clear_ow Tryz.underlying22 zeroInt rfl rfl hk (fun z hz=>by rw[show (cj p 0).kinds=List.replicate p.regs.toNat 0 from rfl] at hz;rw[List.eq_of_mem_replicate hz];rfl)
 have hcl6:∀ ty,(Builtin.clear_ #[149] ty #[.slice O no co]).run Tryz.prog w=.ok (.tuple #[]) w:=fun ty=>clear_ow Tryz.underlying149 zeroBool rfl rfl ho (fun z hz=>by rw[show (cj p 0).outs=List.replicate p.outs.length false from rfl] at hz;rw[List.eq_of_mem_replicate hz];rfl)
 have HP:=aT hp;have hcode:=(dV.1 hm).2.2.2.2.2.1;have hn4:=(hp.rd (Below.refl _ _)).r4.1;have HN4:=aT hn4;have HW:=aT hw;rw[hn4] at hcode;have hgl:=hb.lt;clear hb hk ho hm hp hw hn4;go_enter Tryz.func154,Tryz.ntmps154;go_wp2_with (simp only[hcl5,hcl6]);go_loopw [3,4,19] (fun _ _ i wr=>∃ k:Nat,k<=x.n4/\i=I (k:Nat)/\(cj p k).bad=false/\LkAt wr base g x p (cj p k)/\Below base w wr) (fun _ _ i _=>x.n4 - (intOf i).toNat)
 case atStart=>exact⟨0,aS,rfl,rfl,HL.out,Below.refl _ _⟩
 case round=>
  obtain⟨k,hk,rfl,hbad,hlk,hbel⟩:=hrel;have HLk:=aT hlk;have HB:=aT hbel;have HBD:=aT hbad;clear hlk hbel hbad;have hbs:=HB.out.size
  by_cases hlt:k<x.n4
  · have HPw:=aT (HP.out.below HB.out);obtain⟨b,o,y,hA,hbl,hy,hcl⟩:=(HPw.out.rd (Below.refl _ _)).r4.at_ gX aS hlt;have hI:=gY hy;have hyk:=(HW.out.code y (List.mem_of_getElem? hy)).2.2.2;obtain⟨op,ya,yb,yc,yk⟩:=y;have h0:wr.cell? ⟨b,o+k * 5,none⟩=some (I op):=hcl 0 aS;have h1:wr.cell? ⟨b,o+k * 5+1,none⟩=some (I ya):=hcl 1 aS;have h2:wr.cell? ⟨b,o+k * 5+2,none⟩=some (I yb):=hcl 2 aS;have h3:wr.cell? ⟨b,o+k * 5+3,none⟩=some (I yc):=hcl 3 aS;have h4:wr.cell? ⟨b,o+k * 5+4,none⟩=some (I yk):=hcl 4 aS;have bX:Below wr.heap.size wr (wr.alloc (.cells #[I op,I ya,I yb,I yc,I yk] 144)):=(Below.refl _ _).alloc aW _;have hin:=lkinstr_any (HLk.out.below bX) (by have:=bX.size;omega) (HPw.out.below (bX.mono aS)) ⟨op,ya,yb,yc,yk⟩ k (lookV_outs p k) (by rw[HN4.out];exact hlt) (by rw[HN4.out];omega) hyk;have HG:=aT (show cj p (k+1)=bV p (cj p k) k ⟨op,ya,yb,yc,yk⟩ from by rw[lookV_good HBD.out,hI]);rw[<- HG.out] at hin;simp only at hin;have HBX:=aT (bX.mono (show base<=wr.heap.size by omega));clear hcl hI hy hyk bX HG;simp only[hA];go_upto_region 7 with (first | ((go_at_call 224;go_call (hin) as e w3 ⟨rfl,l3,b3,st3⟩);have L3:=aT l3;have B3:=aT ((HB.out.trans HBX.out).trans b3);obtain⟨_,_,_,_,_,g8,_,gl3⟩:=l3.cells;clear l3 b3 st3) | fail)
    cases hb2:(cj p (k+1)).bad with
    | true=>
      rw[hb2] at g8;have hfin:Hid ((!(cj p p.code.length).bad && (cj p p.code.length).outs.all id)=false):=by
       show _=_
       have e:cj p p.code.length=cj p (k+1):=by
        have:=lookV_bad hb2 (p.code.length - (k+1))
        rwa [show k+1+(p.code.length - (k+1))=p.code.length by rw[HN4.out];omega] at this
       rw[e,hb2];rfl
      clear hb2;go_wp2_with fail;go_ret;exact⟨by rw[hfin.out];rfl,B3.out⟩
    | false=>
      rw[hb2] at g8;have HB2:=aT hb2;clear hb2;go_wp2_with fail;go_roundw
      case rel=>exact⟨k+1,aS,by go_num,HB2.out,L3.out,B3.out⟩
      case measure=>simp[intOf];omega
  · have hk9:k=x.n4:=aS;subst hk9;have hlk:=HLk.out;obtain⟨K,nk,ck,O,no,co,hb,hg,hk,ho⟩:=hlk;have c6':=hb.c6;have hcf:=contains_false O no co _ wr ho.rd (by have:=ho.cap;omega);have hbl:=hb.lt;have hfin:Hid ((!(cj p p.code.length).bad && (cj p p.code.length).outs.all id)=(cj p x.n4).outs.all id):=by
     show _=_
     rw[HN4.out,HBD.out];rfl
    clear hb hk ho;generalize (cj p x.n4).outs.all id=bb at *;go_wp2_with (first | ((go_at_call 225;go_call (hcf) as e w3 ⟨rfl,rfl⟩)) | fail);go_ret;exact⟨by rw[hfin.out];simp,HB.out⟩
theorem vright_no (x:PA)(p:PV)(w:World)(h:cC w x p)(hm:mayB p=false) :
 Ca 65 #[.agg #[.slice x.A1 x.n1 x.c1,.slice x.A2 x.n2 x.c2,I p.regs,.slice x.A3 x.n3 x.c3,.slice x.A4 x.n4 x.c4]] w fun e w'=>e=.returned (.bool false)/\Below w.heap.size w w':=by
 have hmay:=fun w h=>jT x p w h
 rw[hm] at hmay;have HP:=aT h;clear hm h;go_enter Tryz.func65,Tryz.ntmps65;go_wp2_with (first | (go_at_call 153;go_call (hmay _ (HP.out.below (b:=w.heap.size) bc aW)) as e w1 ⟨rfl,hb1⟩) | fail);go_ret;exact⟨rfl,bO (a:=w) (B:=w.heap.size) bc hb1 br⟩
theorem vright_yes (x:PA)(p:PV)(w:World)(h:cC w x p)(hw:eO p)(hm:mayB p=true) :
 Ca 65 #[.agg #[.slice x.A1 x.n1 x.c1,.slice x.A2 x.n2 x.c2,I p.regs,.slice x.A3 x.n3 x.c3,.slice x.A4 x.n4 x.c4]] w fun e w'=>e=.returned (.bool (!(cj p p.code.length).bad && (cj p p.code.length).outs.all id))/\Below w.heap.size w w':=by
 have hmay:=fun w h=>jT x p w h
 rw[hm] at hmay;have hlk:=fun (W:World) (base g:Nat) (l:LkAt W base g x p (cj p 0)) (hs:base<=W.heap.size) (hp:Olds W base x p)=>look_any l hs hp hm hw
 generalize (!(cj p p.code.length).bad && (cj p p.code.length).outs.all id)=bb at *;have HP:=aT h;have hout:=h.r2.1;obtain⟨hr0,hr1⟩:=(show 0<=p.regs/\p.regs<=1600 from ⟨(dV.1 hm).2.2.1,(dV.1 hm).2.2.2.1⟩);have hn2:x.n2<=100:=by
  have:=(fG.1 (dV.1 hm).2.1).2.2;omega
 have hl0:cj p 0=⟨List.replicate p.regs.toNat 0,List.replicate x.n2 false,0,false⟩:=by rw[<- hout];rfl
 have HL0:=aT hl0;clear hm hw h hl0 hout;obtain⟨r,hr⟩:∃ r:Nat,p.regs=(r:Nat):=⟨p.regs.toNat,aS⟩;have hrt:p.regs.toNat=r:=aS;have HRT:=aT hrt;clear hrt;simp only[hr] at hr0 hr1 hmay ⊢;have hmk1:∀ W:World,(Instr.makeSlice 22 (I (r:Int)) (I (r:Int))).run Tryz.prog W=.ok (.slice (some ⟨W.heap.size,0,none⟩) r r) (W.alloc (.cells ((List.replicate r (0:Int)).map iv).toArray 3)):=fun W=>by
  have:=kM fF r aS aS W;rw[show madeCells (I 0).cells r=((List.replicate r (0:Int)).map iv).toArray from by
   apply Array.ext';rw[show (I 0).cells=#[I 0] from rfl,toList_madeCells_one];simp[iv]] at this
  exact this
 have hmk2:∀ W:World,(Instr.makeSlice 149 (I (x.n2:Int)) (I (x.n2:Int))).run Tryz.prog W=.ok (.slice (some ⟨W.heap.size,0,none⟩) x.n2 x.n2) (W.alloc (.cells ((List.replicate x.n2 false).map bo).toArray 4)):=fun W=>by
  have:=kM elemBool x.n2 aS aS W;rw[show madeCells (Value.bool false).cells x.n2=((List.replicate x.n2 false).map bo).toArray from by
   apply Array.ext';rw[show (Value.bool false).cells=#[Value.bool false] from rfl,toList_madeCells_one];simp[bo]] at this
  exact this
 have hZ:=aT (show (cj p 0)=⟨List.replicate r 0,List.replicate x.n2 false,0,false⟩ from by rw[HL0.out,HRT.out]);have hlz:(List.replicate r (0:Int)).length=r:=List.length_replicate;have hlo:(List.replicate x.n2 false).length=x.n2:=List.length_replicate;have HLZ:=aT hlz;have HLO:=aT hlo;clear hlz hlo HL0;generalize List.replicate r (0:Int)=zs at *;generalize List.replicate x.n2 false=os at *;go_enter Tryz.func65,Tryz.ntmps65;go_upto_region 3 with (first | ((go_at_call 153;go_call (hmay _ (HP.out.below (b:=w.heap.size) bc aW)) as e w1 ⟨rfl,hb1⟩);have hp1:=Blk.below (w':=w1) (g:=w.heap.size) (t:=26) (cs:=[.slice x.A1 x.n1 x.c1,.slice x.A2 x.n2 x.c2,I r,.slice x.A3 x.n3 x.c3,.slice x.A4 x.n4 x.c4]) bI hb1 br;obtain⟨y10,y11,y12,y13,y14⟩:=blk5 hp1;have sz1:=hp1.lt;have b01:Below w.heap.size w w1:=bO (a:=w) (B:=w.heap.size) bc hb1 br) | fail);have P1:=aT (show cC w1 x p from HP.out.below (b:=w.heap.size) b01 aW);have B01:=aT b01;have hC:∀ (K:Option Addr) (nk ck:Nat) (O:Option Addr) (no co:Nat) (past:Int) (bad:Bool),lkC x p K nk ck O no co past bad=[.slice x.A1 x.n1 x.c1,.slice x.A2 x.n2 x.c2,I (r:Int),.slice x.A3 x.n3 x.c3,.slice x.A4 x.n4 x.c4,.slice K nk ck,.slice O no co,I past,.bool bad]:=fun K nk ck O no co past bad=>by unfold lkC;rw[hr]
 have HC:=aT hC;clear b01 hC;go_region
 · have bW:Below w1.heap.size w1 (((w1.alloc (.cells (zs.map iv).toArray 3)).alloc (.cells (os.map bo).toArray 4)).alloc (.cells #[.slice x.A1 x.n1 x.c1,.slice x.A2 x.n2 x.c2,I (r:Int),.slice x.A3 x.n3 x.c3,.slice x.A4 x.n4 x.c4,.slice (some ⟨w1.heap.size,0,none⟩) r r,.slice (some ⟨w1.heap.size+1,0,none⟩) x.n2 x.n2,I 0,.bool false] 231)).drew:=bc;have L:LkAt (((w1.alloc (.cells (zs.map iv).toArray 3)).alloc (.cells (os.map bo).toArray 4)).alloc (.cells #[.slice x.A1 x.n1 x.c1,.slice x.A2 x.n2 x.c2,I (r:Int),.slice x.A3 x.n3 x.c3,.slice x.A4 x.n4 x.c4,.slice (some ⟨w1.heap.size,0,none⟩) r r,.slice (some ⟨w1.heap.size+1,0,none⟩) x.n2 x.n2,I 0,.bool false] 231)).drew w1.heap.size (w1.heap.size+1+1) x p (cj p 0):=by
    rw[hZ.out];exact⟨some ⟨w1.heap.size,0,none⟩,r,r,some ⟨w1.heap.size+1,0,none⟩,x.n2,x.n2,by rw[HC.out];exact Blk.drew (Blk.top _ aZ rfl),aS,
     gM (Blk.drew (((Blk.top (g:=w1.heap.size) (t:=3) (cs:=zs.map iv) w1 rfl rfl).alloc _).alloc _)) aW HLZ.out bQ,gM (Blk.drew ((Blk.top (g:=w1.heap.size+1) (t:=4) (cs:=os.map bo) _ aZ rfl).alloc _)) aS HLO.out bQ⟩
   have sW:=bW.size;have c:=hlk _ _ _ L sW ⟨w1,P1.out,Nat.le_refl _,bW⟩;have BW:=aT bW;clear L bW hlk;go_wp2_with (first | ((go_at_call 154;go_call (c) as e w2 ⟨rfl,b2⟩);have B2:=aT b2;clear b2) | fail);go_ret;exact⟨rfl,B01.out.trans ((BW.out.trans B2.out).mono B01.out.size)⟩
 · have bW:Below w1.heap.size w1 (((w1.alloc (.cells (os.map bo).toArray 4)).alloc (.cells (zs.map iv).toArray 3)).alloc (.cells #[.slice x.A1 x.n1 x.c1,.slice x.A2 x.n2 x.c2,I (r:Int),.slice x.A3 x.n3 x.c3,.slice x.A4 x.n4 x.c4,.slice (some ⟨w1.heap.size+1,0,none⟩) r r,.slice (some ⟨w1.heap.size,0,none⟩) x.n2 x.n2,I 0,.bool false] 231)).drew:=bc;have L:LkAt (((w1.alloc (.cells (os.map bo).toArray 4)).alloc (.cells (zs.map iv).toArray 3)).alloc (.cells #[.slice x.A1 x.n1 x.c1,.slice x.A2 x.n2 x.c2,I (r:Int),.slice x.A3 x.n3 x.c3,.slice x.A4 x.n4 x.c4,.slice (some ⟨w1.heap.size+1,0,none⟩) r r,.slice (some ⟨w1.heap.size,0,none⟩) x.n2 x.n2,I 0,.bool false] 231)).drew w1.heap.size (w1.heap.size+1+1) x p (cj p 0):=by
    rw[hZ.out];exact⟨some ⟨w1.heap.size+1,0,none⟩,r,r,some ⟨w1.heap.size,0,none⟩,x.n2,x.n2,by rw[HC.out];exact Blk.drew (Blk.top _ aZ rfl),aS,
     gM (Blk.drew ((Blk.top (g:=w1.heap.size+1) (t:=3) (cs:=zs.map iv) _ aZ rfl).alloc _)) aS HLZ.out bQ,gM (Blk.drew (((Blk.top (g:=w1.heap.size) (t:=4) (cs:=os.map bo) w1 rfl rfl).alloc _).alloc _)) aW HLO.out bQ⟩
   have sW:=bW.size;have c:=hlk _ _ _ L sW ⟨w1,P1.out,Nat.le_refl _,bW⟩;have BW:=aT bW;clear L bW hlk;go_wp2_with (first | ((go_at_call 154;go_call (c) as e w2 ⟨rfl,b2⟩);have B2:=aT b2;clear b2) | fail);go_ret;exact⟨rfl,B01.out.trans ((BW.out.trans B2.out).mono B01.out.size)⟩
theorem oy (x:PA)(p:PV)(w:World)(h:cC w x p)(hw:eO p) :
 Ca 65 #[.agg #[.slice x.A1 x.n1 x.c1,.slice x.A2 x.n2 x.c2,I p.regs,.slice x.A3 x.n3 x.c3,.slice x.A4 x.n4 x.c4]] w fun e w'=>e=.returned (.bool (dF p))/\Below w.heap.size w w':=by
 cases hm:mayB p with
 | false=>
   rw[show dF p=false by unfold dF;rw[hm];rfl];exact vright_no x p w h hm
 | true=>
   rw[show dF p=(!(cj p p.code.length).bad && (cj p p.code.length).outs.all id) by unfold dF;rw[hm];rfl];exact vright_yes x p w h hw hm
end
end
