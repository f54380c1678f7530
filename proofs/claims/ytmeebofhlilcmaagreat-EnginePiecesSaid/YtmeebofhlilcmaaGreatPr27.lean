/- Parts. -/
import Derived.Test.YtmeebofhlilcmaaGreatPr26
set_option linter.unusedVariables false
set_option linter.unusedSimpArgs false
set_option maxRecDepth 100000
set_option maxHeartbeats 0
namespace Go.Proofs.YtmeebofhlilcmaaGreat
variable {b:Nat} {y:Ins} {w0 w1:World}
open Go.RowKit
section
variable {w w':World} {base g:Nat} {x:PA} {p:PV} {s s':LkV}
theorem LkAt.below (h:LkAt w base g x p s)(hb:Below w.heap.size w w'):LkAt w' base g x p s:=by
 obtain⟨K,nk,ck,O,no,co,b,hg,hk,ho⟩:=h;exact⟨K,nk,ck,O,no,co,b.below hb b.lt,hg,hk.below hb aV,ho.below hb aV⟩
theorem LkAt.cells (h:LkAt w base g x p s):w.cell? ⟨g,0,none⟩=some (.slice x.A1 x.n1 x.c1)/\w.cell? ⟨g,1,none⟩=some (.slice x.A2 x.n2 x.c2)/\w.cell? ⟨g,3,none⟩=some (.slice x.A3 x.n3 x.c3)/\w.cell? ⟨g,4,none⟩=some (.slice x.A4 x.n4 x.c4)/\w.cell? ⟨g,7,none⟩=some (I s.past)/\w.cell? ⟨g,8,none⟩=some (.bool s.bad)/\(∀ i,w.frozen? ⟨g,i,none⟩=false)/\g<w.heap.size:=by
 obtain⟨K,nk,ck,O,no,co,b,hg,hk,ho⟩:=h;exact⟨b.cell 0,b.cell 1,b.cell 3,b.cell 4,b.cell 7,b.cell 8,fun i=>b.frozen i,b.lt⟩
def boxI (w:World)(y:Ins):World:=w.alloc (.cells #[I y.op,I y.a,I y.b,I y.c,I y.k] 144)
def jW (w:World)(b:Nat)(y:Ins):Prop:=Blk w b 144 (insE y)
theorem boxI_blk (w:World)(y:Ins):jW (boxI w y) w.heap.size y:=Blk.top _ rfl rfl
theorem nS (w:World)(y:Ins):Below w.heap.size w (boxI w y):=(Below.refl _ _).alloc aV _
theorem jW.cells (h:jW w b y):w.cell? ⟨b,0,none⟩=some (I y.op)/\w.cell? ⟨b,1,none⟩=some (I y.a)/\w.cell? ⟨b,2,none⟩=some (I y.b)/\w.cell? ⟨b,3,none⟩=some (I y.c)/\w.cell? ⟨b,4,none⟩=some (I y.k)/\b<w.heap.size :=
 ⟨Blk.cell h 0,Blk.cell h 1,Blk.cell h 2,Blk.cell h 3,Blk.cell h 4,Blk.lt h⟩
theorem jW.stay (h:jW w b y)(t:Stay w w'):jW w' b y:=t _ _ _ aU h
structure LkS (w0:World)(base g:Nat)(x:PA)(p:PV)(y:Ins)(b:Nat)(s:LkV)(w:World):Prop where
 lk:LkAt w base g x p s
 ib:jW w b y
 bel:Below base w0 w
 st:Stay w0 w
theorem LkS.first (h:LkAt w base g x p s)(hs:base<=w.heap.size)(y:Ins):LkS w base g x p y w.heap.size s (boxI w y) :=
 ⟨h.below (nS w y),boxI_blk w y,(nS w y).mono hs,Stay.of_below (nS w y)⟩
theorem LkS.next {w2:World}{v:Option Int}{e:Ending}(h:LkS w0 base g x p y b s w1)(k:eq w1 base g x p s' v e w2):LkS w0 base g x p y b s' w2 :=
 ⟨k.2.1,h.ib.stay k.2.2.2,h.bel.trans k.2.2.1,h.st.trans k.2.2.2⟩
theorem LkS.drew (h:LkS w0 base g x p y b s w1):LkS w0 base g x p y b s w1.drew :=
 ⟨h.lk.below (Below.drew (Below.refl _ _)),h.ib,h.bel.trans (Below.drew (Below.refl _ _)),h.st.trans (Stay.of_below (Below.drew (Below.refl _ _)))⟩
theorem LkS.done (h:LkS w0 base g x p y b s w1):eq w0 base g x p s none (.returned (.tuple #[])) w1:=⟨rfl,h.lk,h.bel,h.st⟩
theorem eq.as {v:Option Int}{e:Ending}{s1 s2:LkV}(h:eq w base g x p s1 v e w')(q:s1=s2):eq w base g x p s2 v e w':=q ▸ h
theorem LkS.size (h:LkS w0 base g x p y b s w1):w0.heap.size<=w1.heap.size:=h.bel.size
def reckG (s:LkV)(y:Ins)(i o:Int):LkV :=
 let t:=cZ s y.b
 let s1:=cL t.1 (decide (i=0) || decide (t.2=i))
 let s2:=if y.op≠5/\y.op≠6 then (let u:=cZ s1 y.c;cL u.1 (decide (u.2=t.2))) else s1
 fp s2 y.a o
theorem reckV_eq (s:LkV)(y:Ins):reckV s y=reckG s y (fE y.op) (fF y.op):=rfl
theorem lkreckons_any (h:LkAt w base g x p s)(hs:base<=w.heap.size)(y:Ins)(i o:Int) :
 Ca 272 #[.pointer (some ⟨g,0,none⟩),.agg #[I y.op,I y.a,I y.b,I y.c,I y.k],I i,I o] w (eq w base g x p (reckG s y i o) none):=by
 obtain⟨op,ya,yb,yc,yk⟩:=y;have S0:=aT (show LkS w base g x p ⟨op,ya,yb,yc,yk⟩ w.heap.size s (w.alloc (.cells #[I op,I ya,I yb,I yc,I yk] 144)) from LkS.first h hs ⟨op,ya,yb,yc,yk⟩)
 by_cases i0:i=0
 · have bi:(i == 0)=true:=by rw[i0];rfl
   have I0:=aT i0;clear i0
   by_cases h5:op=5
   · have b5:(op != 5)=false:=by rw[h5];rfl
     have H5:=aT h5;clear h5;go_enter Tryz.func272,Tryz.ntmps272;go_wp2_with (first | ((go_at_call 275;(with_reducible refine (fP (S0.out.lk) _).mono ?_);rintro e w1 hk1);have S1:=aT (S0.out.next hk1);obtain⟨rfl,_,_,_⟩:=hk1;obtain⟨z10,z11,z12,z13,z14,z15⟩:=S1.out.ib.cells) | ((go_at_call 274;(with_reducible refine (fe (S1.out.lk) _).mono ?_);rintro e w2 hk2);have S2:=aT (S1.out.next hk2);obtain⟨rfl,_,_,_⟩:=hk2;obtain⟨z20,z21,z22,z23,z24,z25⟩:=S2.out.ib.cells) | ((go_at_call 275;(with_reducible refine (fP (S2.out.lk) _).mono ?_);rintro e w3 hk3);have S3:=aT (S2.out.next hk3);obtain⟨rfl,_,_,_⟩:=hk3;obtain⟨z30,z31,z32,z33,z34,z35⟩:=S3.out.ib.cells) | ((go_at_call 274;(with_reducible refine (fe (S3.out.lk) _).mono ?_);rintro e w4 hk4);have S4:=aT (S3.out.next hk4);obtain⟨rfl,_,_,_⟩:=hk4;obtain⟨z40,z41,z42,z43,z44,z45⟩:=S4.out.ib.cells) | ((go_at_call 273;(with_reducible refine (fQ (S4.out.lk) _ _).mono ?_);rintro e w5 hk5);have S5:=aT (S4.out.next hk5);obtain⟨rfl,_,_,_⟩:=hk5) | ((go_at_call 273;(with_reducible refine (fQ (S2.out.lk) _ _).mono ?_);rintro e w5 hk5);have S5:=aT (S2.out.next hk5);obtain⟨rfl,_,_,_⟩:=hk5) | fail);go_end0;refine S5.out.done.as ?_
     (try have h5:=H5.out)
     (try have h6:=H6.out)
     (try have i0:=I0.out)
     unfold reckG
     (try simp only[i0,h5,decide_true,decide_false,Bool.true_or,Bool.false_or,ne_eq,not_true_eq_false,not_false_eq_true,false_and,true_and,if_true,if_false])
     (try simp only[h6,not_true_eq_false,not_false_eq_true,if_true,if_false])
     (try rfl)
   · have b5:(op != 5)=true:=by rw[af];exact h5
     by_cases h6:op=6
     · have b6:(op != 6)=false:=by rw[h6];rfl
       have H6:=aT h6;clear h6;go_enter Tryz.func272,Tryz.ntmps272;go_wp2_with (first | ((go_at_call 275;(with_reducible refine (fP (S0.out.lk) _).mono ?_);rintro e w1 hk1);have S1:=aT (S0.out.next hk1);obtain⟨rfl,_,_,_⟩:=hk1;obtain⟨z10,z11,z12,z13,z14,z15⟩:=S1.out.ib.cells) | ((go_at_call 274;(with_reducible refine (fe (S1.out.lk) _).mono ?_);rintro e w2 hk2);have S2:=aT (S1.out.next hk2);obtain⟨rfl,_,_,_⟩:=hk2;obtain⟨z20,z21,z22,z23,z24,z25⟩:=S2.out.ib.cells) | ((go_at_call 275;(with_reducible refine (fP (S2.out.lk) _).mono ?_);rintro e w3 hk3);have S3:=aT (S2.out.next hk3);obtain⟨rfl,_,_,_⟩:=hk3;obtain⟨z30,z31,z32,z33,z34,z35⟩:=S3.out.ib.cells) | ((go_at_call 274;(with_reducible refine (fe (S3.out.lk) _).mono ?_);rintro e w4 hk4);have S4:=aT (S3.out.next hk4);obtain⟨rfl,_,_,_⟩:=hk4;obtain⟨z40,z41,z42,z43,z44,z45⟩:=S4.out.ib.cells) | ((go_at_call 273;(with_reducible refine (fQ (S4.out.lk) _ _).mono ?_);rintro e w5 hk5);have S5:=aT (S4.out.next hk5);obtain⟨rfl,_,_,_⟩:=hk5) | ((go_at_call 273;(with_reducible refine (fQ (S2.out.lk) _ _).mono ?_);rintro e w5 hk5);have S5:=aT (S2.out.next hk5);obtain⟨rfl,_,_,_⟩:=hk5) | fail);go_end0;refine S5.out.done.as ?_
       (try have h5:=H5.out)
       (try have h6:=H6.out)
       (try have i0:=I0.out)
       unfold reckG
       (try simp only[i0,h5,decide_true,decide_false,Bool.true_or,Bool.false_or,ne_eq,not_true_eq_false,not_false_eq_true,false_and,true_and,if_true,if_false])
       (try simp only[h6,not_true_eq_false,not_false_eq_true,if_true,if_false])
       (try rfl)
     · have b6:(op != 6)=true:=by rw[af];exact h6
       go_enter Tryz.func272,Tryz.ntmps272;go_wp2_with (first | ((go_at_call 275;(with_reducible refine (fP (S0.out.lk) _).mono ?_);rintro e w1 hk1);have S1:=aT (S0.out.next hk1);obtain⟨rfl,_,_,_⟩:=hk1;obtain⟨z10,z11,z12,z13,z14,z15⟩:=S1.out.ib.cells) | ((go_at_call 274;(with_reducible refine (fe (S1.out.lk) _).mono ?_);rintro e w2 hk2);have S2:=aT (S1.out.next hk2);obtain⟨rfl,_,_,_⟩:=hk2;obtain⟨z20,z21,z22,z23,z24,z25⟩:=S2.out.ib.cells) | ((go_at_call 275;(with_reducible refine (fP (S2.out.lk) _).mono ?_);rintro e w3 hk3);have S3:=aT (S2.out.next hk3);obtain⟨rfl,_,_,_⟩:=hk3;obtain⟨z30,z31,z32,z33,z34,z35⟩:=S3.out.ib.cells) | ((go_at_call 274;(with_reducible refine (fe (S3.out.lk) _).mono ?_);rintro e w4 hk4);have S4:=aT (S3.out.next hk4);obtain⟨rfl,_,_,_⟩:=hk4;obtain⟨z40,z41,z42,z43,z44,z45⟩:=S4.out.ib.cells) | ((go_at_call 273;(with_reducible refine (fQ (S4.out.lk) _ _).mono ?_);rintro e w5 hk5);have S5:=aT (S4.out.next hk5);obtain⟨rfl,_,_,_⟩:=hk5) | ((go_at_call 273;(with_reducible refine (fQ (S2.out.lk) _ _).mono ?_);rintro e w5 hk5);have S5:=aT (S2.out.next hk5);obtain⟨rfl,_,_,_⟩:=hk5) | fail);go_end0;refine S5.out.done.as ?_
       (try have h5:=H5.out)
       (try have h6:=H6.out)
       (try have i0:=I0.out)
       unfold reckG
       (try simp only[i0,h5,decide_true,decide_false,Bool.true_or,Bool.false_or,ne_eq,not_true_eq_false,not_false_eq_true,false_and,true_and,if_true,if_false])
       (try simp only[h6,not_true_eq_false,not_false_eq_true,if_true,if_false])
       (try rfl)
 · have bi:(i == 0)=false:=by rw[ae];exact i0
   by_cases h5:op=5
   · have b5:(op != 5)=false:=by rw[h5];rfl
     have H5:=aT h5;clear h5;go_enter Tryz.func272,Tryz.ntmps272;go_wp2_with (first | ((go_at_call 275;(with_reducible refine (fP (S0.out.lk) _).mono ?_);rintro e w1 hk1);have S1:=aT (S0.out.next hk1);obtain⟨rfl,_,_,_⟩:=hk1;obtain⟨z10,z11,z12,z13,z14,z15⟩:=S1.out.ib.cells) | ((go_at_call 274;(with_reducible refine (fe (S1.out.lk) _).mono ?_);rintro e w2 hk2);have S2:=aT (S1.out.next hk2);obtain⟨rfl,_,_,_⟩:=hk2;obtain⟨z20,z21,z22,z23,z24,z25⟩:=S2.out.ib.cells) | ((go_at_call 275;(with_reducible refine (fP (S2.out.lk) _).mono ?_);rintro e w3 hk3);have S3:=aT (S2.out.next hk3);obtain⟨rfl,_,_,_⟩:=hk3;obtain⟨z30,z31,z32,z33,z34,z35⟩:=S3.out.ib.cells) | ((go_at_call 274;(with_reducible refine (fe (S3.out.lk) _).mono ?_);rintro e w4 hk4);have S4:=aT (S3.out.next hk4);obtain⟨rfl,_,_,_⟩:=hk4;obtain⟨z40,z41,z42,z43,z44,z45⟩:=S4.out.ib.cells) | ((go_at_call 273;(with_reducible refine (fQ (S4.out.lk) _ _).mono ?_);rintro e w5 hk5);have S5:=aT (S4.out.next hk5);obtain⟨rfl,_,_,_⟩:=hk5) | ((go_at_call 273;(with_reducible refine (fQ (S2.out.lk) _ _).mono ?_);rintro e w5 hk5);have S5:=aT (S2.out.next hk5);obtain⟨rfl,_,_,_⟩:=hk5) | fail);go_end0;refine S5.out.done.as ?_
     (try have h5:=H5.out)
     (try have h6:=H6.out)
     (try have i0:=I0.out)
     unfold reckG
     (try simp only[i0,h5,decide_true,decide_false,Bool.true_or,Bool.false_or,ne_eq,not_true_eq_false,not_false_eq_true,false_and,true_and,if_true,if_false])
     (try simp only[h6,not_true_eq_false,not_false_eq_true,if_true,if_false])
     (try rfl)
   · have b5:(op != 5)=true:=by rw[af];exact h5
     by_cases h6:op=6
     · have b6:(op != 6)=false:=by rw[h6];rfl
       have H6:=aT h6;clear h6;go_enter Tryz.func272,Tryz.ntmps272;go_wp2_with (first | ((go_at_call 275;(with_reducible refine (fP (S0.out.lk) _).mono ?_);rintro e w1 hk1);have S1:=aT (S0.out.next hk1);obtain⟨rfl,_,_,_⟩:=hk1;obtain⟨z10,z11,z12,z13,z14,z15⟩:=S1.out.ib.cells) | ((go_at_call 274;(with_reducible refine (fe (S1.out.lk) _).mono ?_);rintro e w2 hk2);have S2:=aT (S1.out.next hk2);obtain⟨rfl,_,_,_⟩:=hk2;obtain⟨z20,z21,z22,z23,z24,z25⟩:=S2.out.ib.cells) | ((go_at_call 275;(with_reducible refine (fP (S2.out.lk) _).mono ?_);rintro e w3 hk3);have S3:=aT (S2.out.next hk3);obtain⟨rfl,_,_,_⟩:=hk3;obtain⟨z30,z31,z32,z33,z34,z35⟩:=S3.out.ib.cells) | ((go_at_call 274;(with_reducible refine (fe (S3.out.lk) _).mono ?_);rintro e w4 hk4);have S4:=aT (S3.out.next hk4);obtain⟨rfl,_,_,_⟩:=hk4;obtain⟨z40,z41,z42,z43,z44,z45⟩:=S4.out.ib.cells) | ((go_at_call 273;(with_reducible refine (fQ (S4.out.lk) _ _).mono ?_);rintro e w5 hk5);have S5:=aT (S4.out.next hk5);obtain⟨rfl,_,_,_⟩:=hk5) | ((go_at_call 273;(with_reducible refine (fQ (S2.out.lk) _ _).mono ?_);rintro e w5 hk5);have S5:=aT (S2.out.next hk5);obtain⟨rfl,_,_,_⟩:=hk5) | fail);go_end0;refine S5.out.done.as ?_
       (try have h5:=H5.out)
       (try have h6:=H6.out)
       (try have i0:=I0.out)
       unfold reckG
       (try simp only[i0,h5,decide_true,decide_false,Bool.true_or,Bool.false_or,ne_eq,not_true_eq_false,not_false_eq_true,false_and,true_and,if_true,if_false])
       (try simp only[h6,not_true_eq_false,not_false_eq_true,if_true,if_false])
       (try rfl)
     · have b6:(op != 6)=true:=by rw[af];exact h6
       go_enter Tryz.func272,Tryz.ntmps272;go_wp2_with (first | ((go_at_call 275;(with_reducible refine (fP (S0.out.lk) _).mono ?_);rintro e w1 hk1);have S1:=aT (S0.out.next hk1);obtain⟨rfl,_,_,_⟩:=hk1;obtain⟨z10,z11,z12,z13,z14,z15⟩:=S1.out.ib.cells) | ((go_at_call 274;(with_reducible refine (fe (S1.out.lk) _).mono ?_);rintro e w2 hk2);have S2:=aT (S1.out.next hk2);obtain⟨rfl,_,_,_⟩:=hk2;obtain⟨z20,z21,z22,z23,z24,z25⟩:=S2.out.ib.cells) | ((go_at_call 275;(with_reducible refine (fP (S2.out.lk) _).mono ?_);rintro e w3 hk3);have S3:=aT (S2.out.next hk3);obtain⟨rfl,_,_,_⟩:=hk3;obtain⟨z30,z31,z32,z33,z34,z35⟩:=S3.out.ib.cells) | ((go_at_call 274;(with_reducible refine (fe (S3.out.lk) _).mono ?_);rintro e w4 hk4);have S4:=aT (S3.out.next hk4);obtain⟨rfl,_,_,_⟩:=hk4;obtain⟨z40,z41,z42,z43,z44,z45⟩:=S4.out.ib.cells) | ((go_at_call 273;(with_reducible refine (fQ (S4.out.lk) _ _).mono ?_);rintro e w5 hk5);have S5:=aT (S4.out.next hk5);obtain⟨rfl,_,_,_⟩:=hk5) | ((go_at_call 273;(with_reducible refine (fQ (S2.out.lk) _ _).mono ?_);rintro e w5 hk5);have S5:=aT (S2.out.next hk5);obtain⟨rfl,_,_,_⟩:=hk5) | fail);go_end0;refine S5.out.done.as ?_
       (try have h5:=H5.out)
       (try have h6:=H6.out)
       (try have i0:=I0.out)
       unfold reckG
       (try simp only[i0,h5,decide_true,decide_false,Bool.true_or,Bool.false_or,ne_eq,not_true_eq_false,not_false_eq_true,false_and,true_and,if_true,if_false])
       (try simp only[h6,not_true_eq_false,not_false_eq_true,if_true,if_false])
       (try rfl)
theorem lkinstr_sign (h:LkAt w base g x p s)(hs:base<=w.heap.size)(y:Ins)(i:Nat)(ho:fG y.op=true) :
 Ca 224 #[.pointer (some ⟨g,0,none⟩),I (i:Nat),.agg #[I y.op,I y.a,I y.b,I y.c,I y.k]] w (eq w base g x p (bU p s i y) none):=by
 obtain⟨op,ya,yb,yc,yk⟩:=y;have S0:=aT (show LkS w base g x p ⟨op,ya,yb,yc,yk⟩ w.heap.size s (w.alloc (.cells #[I op,I ya,I yb,I yc,I yk] 144)) from LkS.first h hs ⟨op,ya,yb,yc,yk⟩);simp only at ho;have hsg:=fun W=>iQ op W
 rw[show sgn3 op=(fE op,fF op,true) from by unfold sgn3;rw[if_pos ho]] at hsg;have HO:=aT ho;have hrk:=fun (W:World) (L:LkAt W base g x p s) (hb:base<=W.heap.size)=>lkreckons_any L hb ⟨op,ya,yb,yc,yk⟩ (fE op) (fF op)
 rw[<- reckV_eq] at hrk;simp only at hrk;generalize fE op=si at *;generalize fF op=so at *;have hbs:=aj hs (S0.out.size);clear ho;go_enter Tryz.func224,Tryz.ntmps224;go_wp2_with (first | (go_at_call 271;go_call (hsg _) as e w1 ⟨rfl,rfl⟩) | ((go_at_call 272;go_call (hrk _ S0.out.lk hbs) as e w5 hk5);have S5:=aT (S0.out.next hk5);obtain⟨rfl,_,_,_⟩:=hk5) | fail);go_end0;refine S5.out.done.as ?_;unfold bU;rw[if_pos HO.out]
theorem lkinstr_int (h:LkAt w base g x p s)(hs:base<=w.heap.size)(y:Ins)(i:Nat)(ho:y.op=1) :
 Ca 224 #[.pointer (some ⟨g,0,none⟩),I (i:Nat),.agg #[I y.op,I y.a,I y.b,I y.c,I y.k]] w (eq w base g x p (bU p s i y) none):=by
 obtain⟨op,ya,yb,yc,yk⟩:=y;have S0:=aT (show LkS w base g x p ⟨op,ya,yb,yc,yk⟩ w.heap.size s (w.alloc (.cells #[I op,I ya,I yb,I yc,I yk] 144)) from LkS.first h hs ⟨op,ya,yb,yc,yk⟩);simp only at ho;subst ho;have hsg:=fun W=>iQ 1 W
 rw[show sgn3 1=(0,0,false) from rfl] at hsg;go_enter Tryz.func224,Tryz.ntmps224;go_wp2_with (first | (go_at_call 271;go_call (hsg _) as e w1 ⟨rfl,rfl⟩) | ((go_at_call 273;go_call (fQ S0.out.lk _ _) as e w5 hk5);have S5:=aT (S0.out.next hk5);obtain⟨rfl,_,_,_⟩:=hk5) | fail);go_end0;exact S5.out.done.as rfl
theorem lkinstr_bool (h:LkAt w base g x p s)(hs:base<=w.heap.size)(y:Ins)(i:Nat)(ho:y.op=2) :
 Ca 224 #[.pointer (some ⟨g,0,none⟩),I (i:Nat),.agg #[I y.op,I y.a,I y.b,I y.c,I y.k]] w (eq w base g x p (bU p s i y) none):=by
 obtain⟨op,ya,yb,yc,yk⟩:=y;have S0:=aT (show LkS w base g x p ⟨op,ya,yb,yc,yk⟩ w.heap.size s (w.alloc (.cells #[I op,I ya,I yb,I yc,I yk] 144)) from LkS.first h hs ⟨op,ya,yb,yc,yk⟩);simp only at ho;subst ho;have hsg:=fun W=>iQ 2 W
 rw[show sgn3 2=(0,0,false) from rfl] at hsg
 by_cases k0:yk=0
 · have b0:(yk == 0)=true:=by rw[k0];rfl
   have HK:=aT (show cL s true=cL s (decide (yk=0) || decide (yk=1)) from by rw[k0];rfl);clear k0;go_enter Tryz.func224,Tryz.ntmps224;go_wp2_with (first | (go_at_call 271;go_call (hsg _) as e w1 ⟨rfl,rfl⟩) | ((go_at_call 274;go_call (fe S0.out.lk _) as e w2 hk2);have S2:=aT (S0.out.next hk2);obtain⟨rfl,_,_,_⟩:=hk2;obtain⟨z2_0,z2_1,z2_2,z2_3,z2_4,z2_5⟩:=S2.out.ib.cells) | ((go_at_call 273;go_call (fQ S2.out.lk _ _) as e w5 hk5);have S5:=aT (S2.out.next hk5);obtain⟨rfl,_,_,_⟩:=hk5) | fail);go_end0;refine S5.out.done.as ?_
   show fp _ ya 2=fp (cL s (decide (yk=0) || decide (yk=1))) ya 2
   rw[<- HK.out]
 · have b0:(yk == 0)=false:=by rw[ae];exact k0
   have HK:=aT (show cL s (yk == 1)=cL s (decide (yk=0) || decide (yk=1)) from by rw[ah k0];rfl);go_enter Tryz.func224,Tryz.ntmps224;go_wp2_with (first | (go_at_call 271;go_call (hsg _) as e w1 ⟨rfl,rfl⟩) | ((go_at_call 274;go_call (fe S0.out.lk _) as e w2 hk2);have S2:=aT (S0.out.next hk2);obtain⟨rfl,_,_,_⟩:=hk2;obtain⟨z2_0,z2_1,z2_2,z2_3,z2_4,z2_5⟩:=S2.out.ib.cells) | ((go_at_call 273;go_call (fQ S2.out.lk _ _) as e w5 hk5);have S5:=aT (S2.out.next hk5);obtain⟨rfl,_,_,_⟩:=hk5) | fail);go_end0;refine S5.out.done.as ?_
   show fp _ ya 2=fp (cL s (decide (yk=0) || decide (yk=1))) ya 2
   rw[<- HK.out]
theorem lkinstr_if (h:LkAt w base g x p s)(hs:base<=w.heap.size)(y:Ins)(i:Nat)(ho:y.op=27) :
 Ca 224 #[.pointer (some ⟨g,0,none⟩),I (i:Nat),.agg #[I y.op,I y.a,I y.b,I y.c,I y.k]] w (eq w base g x p (bU p s i y) none):=by
 obtain⟨op,ya,yb,yc,yk⟩:=y;have S0:=aT (show LkS w base g x p ⟨op,ya,yb,yc,yk⟩ w.heap.size s (w.alloc (.cells #[I op,I ya,I yb,I yc,I yk] 144)) from LkS.first h hs ⟨op,ya,yb,yc,yk⟩);simp only at ho;subst ho;have hsg:=fun W=>iQ 27 W
 rw[show sgn3 27=(0,0,false) from rfl] at hsg;go_enter Tryz.func224,Tryz.ntmps224;go_wp2_with (first | (go_at_call 271;go_call (hsg _) as e w1 ⟨rfl,rfl⟩) | ((go_at_call 275;(with_reducible refine (fP S0.out.lk _).mono ?_);rintro e w1 hk1);have S1:=aT (S0.out.next hk1);obtain⟨rfl,_,_,_⟩:=hk1;obtain⟨z1_0,z1_1,z1_2,z1_3,z1_4,z1_5⟩:=S1.out.ib.cells) | ((go_at_call 274;(with_reducible refine (fe S1.out.lk _).mono ?_);rintro e w2 hk2);have S2:=aT (S1.out.next hk2);obtain⟨rfl,_,_,_⟩:=hk2;obtain⟨z2_0,z2_1,z2_2,z2_3,z2_4,z2_5⟩:=S2.out.ib.cells) | ((go_at_call 275;(with_reducible refine (fP S2.out.lk _).mono ?_);rintro e w3 hk3);have S3:=aT (S2.out.next hk3);obtain⟨rfl,_,_,_⟩:=hk3;obtain⟨z3_0,z3_1,z3_2,z3_3,z3_4,z3_5⟩:=S3.out.ib.cells) | ((go_at_call 275;(with_reducible refine (fP S3.out.lk _).mono ?_);rintro e w4 hk4);have S4:=aT (S3.out.next hk4);obtain⟨rfl,_,_,_⟩:=hk4;obtain⟨z4_0,z4_1,z4_2,z4_3,z4_4,z4_5⟩:=S4.out.ib.cells) | ((go_at_call 274;(with_reducible refine (fe S4.out.lk _).mono ?_);rintro e w5 hk5);have S5:=aT (S4.out.next hk5);obtain⟨rfl,_,_,_⟩:=hk5;obtain⟨z5_0,z5_1,z5_2,z5_3,z5_4,z5_5⟩:=S5.out.ib.cells) | ((go_at_call 273;go_call (fQ S5.out.lk _ _) as e w6 hk6);have S6:=aT (S5.out.next hk6);obtain⟨rfl,_,_,_⟩:=hk6) | fail);go_end0;exact S6.out.done.as rfl
theorem lkinstr_var (h:LkAt w base g x p s)(hs:base<=w.heap.size)(y:Ins)(i:Nat)(ho:y.op=3) :
 Ca 224 #[.pointer (some ⟨g,0,none⟩),I (i:Nat),.agg #[I y.op,I y.a,I y.b,I y.c,I y.k]] w (eq w base g x p (bU p s i y) none):=by
 obtain⟨op,ya,yb,yc,yk⟩:=y;have S0:=aT (show LkS w base g x p ⟨op,ya,yb,yc,yk⟩ w.heap.size s (w.alloc (.cells #[I op,I ya,I yb,I yc,I yk] 144)) from LkS.first h hs ⟨op,ya,yb,yc,yk⟩);simp only at ho;subst ho;have hsg:=fun W=>iQ 3 W
 rw[show sgn3 3=(0,0,false) from rfl] at hsg;obtain⟨z0,z1,z2,z3,z4,z5⟩:=S0.out.ib.cells;go_enter Tryz.func224,Tryz.ntmps224;go_upto_region 13 with (first | (go_at_call 271;go_call (hsg _) as e w1 ⟨rfl,rfl⟩) | fail);go_region_held3 (fun w'=>w'.cell? ⟨w.heap.size,1,none⟩=some (I ya)/\w'.cell? ⟨w.heap.size,2,none⟩=some (I yb)) (first | go_keep | (refine⟨?_,?_⟩ <;> assumption)) (first | ((go_at_call 275;go_call (fP S0.out.drew.lk _) as e w1 hk1);have S1:=aT (S0.out.drew.next hk1);obtain⟨rfl,_,_,_⟩:=hk1;obtain⟨z1_0,z1_1,z1_2,z1_3,z1_4,z1_5⟩:=S1.out.ib.cells) | ((go_at_call 273;go_call (fQ S1.out.lk _ _) as e w6 hk6);have S6:=aT (S1.out.next hk6);obtain⟨rfl,_,_,_⟩:=hk6;obtain⟨z6_0,z6_1,z6_2,z6_3,z6_4,z6_5⟩:=S6.out.ib.cells) | fail);go_wp2;go_end0;exact S6.out.done.as rfl
end
