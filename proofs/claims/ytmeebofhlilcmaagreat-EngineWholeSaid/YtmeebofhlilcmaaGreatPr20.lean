/- Parts. -/
import Derived.Test.YtmeebofhlilcmaaGreatPr19
import Derived.Lib.SliceRun
import Derived.BigFrame
set_option linter.unusedVariables false
set_option linter.unusedSimpArgs false
set_option maxRecDepth 100000
set_option maxHeartbeats 0
namespace Go.Proofs.YtmeebofhlilcmaaGreat
variable {base g:Nat} {w:World} {t:TypeId} {cs:List Value}
open Go.RowKit
section
variable {w w':World} {base g:Nat} {x:PA} {p:PV} {s s':LkV}
theorem iF (h:LkAt w base g x p s)(z:Int):eq w base g x p { s with past:=z } none (.returned (.tuple #[])) (w.setCell ⟨g,7,none⟩ (I z)):=by
 obtain⟨K,nk,ck,O,no,co,hb,hg,hk,ho⟩:=h;exact⟨rfl,⟨K,nk,ck,O,no,co,hb.set_ 7 (I z),hg,hk.setFar hb aV 7 _,ho.setFar hb aV 7 _⟩,(Below.refl _ _).setCell hg _,Stay.set hb aV _ _⟩
theorem iG {s1:LkV}{b b':Bool}{z z':Int}(hb:b=b')(hz:z=z'):({ cM s1 b with past:=z }:LkV)={ cM s1 b' with past:=z' }:=by subst hb hz;rfl
def skipOp (op:Int):Prop:=fF op=false/\op≠1/\op≠2/\op≠3/\op≠27/\op≠21/\op≠28/\op≠29/\op≠32
theorem instrV_skip {y:Ins}(h:skipOp y.op)(i:Nat):bU p s i y={ cM (cZ s y.a).1 (decide ((cZ s y.a).2=2) && (decide (0<=y.k) && decide (y.k<=(p.code.length:Int) - 1 - (i:Int)))) with past:=max s.past ((i:Int)+1+min y.k (p.code.length:Int)) }:=by
 obtain⟨h0,h1,h2,h3,h4,h5,h6,h7,h8⟩:=h;unfold bU;rw[h0,if_neg ba,if_neg h1,if_neg h2,if_neg h3,if_neg h4,if_neg h5,if_neg h6,if_neg h7,if_neg h8];rw[iR]
 rfl
theorem lkinstr_skip (h:LkAt w base g x p s)(hs:base<=w.heap.size)(hp:Olds w base x p)(y:Ins)(i:Nat)(ho:skipOp y.op)(hi:i<p.code.length)(hcode:p.code.length<=100000)(hk:-9223372036854775808<=y.k/\y.k<=9223372036854775807) :
 Ca 224 #[.pointer (some ⟨g,0,none⟩),I (i:Nat),.agg #[I y.op,I y.a,I y.b,I y.c,I y.k]] w (eq w base g x p (bU p s i y) none):=by
 rw[instrV_skip ho];obtain⟨op,ya,yb,yc,yk⟩:=y;have S0:=aT (show LkS w base g x p ⟨op,ya,yb,yc,yk⟩ w.heap.size s (w.alloc (.cells #[I op,I ya,I yb,I yc,I yk] 144)) from LkS.first h hs ⟨op,ya,yb,yc,yk⟩);simp only at ho hk ⊢;obtain⟨o0,o1,o2,o3,o27,o21,o28,o29,o32⟩:=ho;have hsg:=fun W=>jm op W
 rw[show sgn3 op=(0,0,false) from by unfold sgn3;rw[o0];rfl] at hsg;have b1:(op == 1)=false:=by rw[ae];exact o1
 have b2:(op == 2)=false:=by rw[ae];exact o2
 have b3:(op == 3)=false:=by rw[ae];exact o3
 have b27:(op == 27)=false:=by rw[ae];exact o27
 have b21:(op == 21)=false:=by rw[ae];exact o21
 have b28:(op == 28)=false:=by rw[ae];exact o28
 have b29:(op == 29)=false:=by rw[ae];exact o29
 have b32:(op == 32)=false:=by rw[ae];exact o32
 clear o0 o1 o2 o3 o27 o21 o28 o29 o32;obtain⟨z0,z1,z2,z3,z4,z5⟩:=S0.out.ib.cells;obtain⟨g0,g1,g3,g4,g7,g8,gf,gl⟩:=S0.out.lk.cells;clear g0 g1 g3 g7 g8;have hn4:p.code.length=x.n4:=by obtain⟨w0,hr,_⟩:=hp;exact hr.r4.1
 have hn4m:x.n4<=maxLen:=by obtain⟨w0,hr,_⟩:=hp;have:=hr.k4;omega
 rw[hn4] at hi hcode ⊢;unfold maxLen at hn4m;have HN4:=aT hn4;clear hn4;have hpast:∀ b,(cM (cZ s ya).1 b).past=s.past:=fun b=>by rw[iR];rfl
 have HPT:=aT hpast;clear hpast;have htk:=fun {W:World} (L:LkAt W base g x p s)=>jB L ya
 generalize cZ s ya=T at *;obtain⟨s1,tv⟩:=T;simp only at htk HPT ⊢;generalize hM:max s.past ((i:Int)+1+min yk (x.n4:Int))=M;generalize htb:(decide (tv=2) && (decide (0<=yk) && decide (yk<=(x.n4:Int) - 1 - (i:Int))))=tb;have HM:=aT hM;clear hM;have w1:IntKind.i64.wrap ((x.n4:Int) - 1)=(x.n4:Int) - 1:=by rw[IntKind.wrap_i64];omega
 have w2':IntKind.i64.wrap ((x.n4:Int) - 1 - (i:Int))=(x.n4:Int) - 1 - (i:Int):=by rw[IntKind.wrap_i64];omega
 by_cases t2:tv=2
 · subst t2
   by_cases k0:0<=yk
   · by_cases k1:yk<=(x.n4:Int) - 1 - (i:Int)
     · have hB:=aT (show true=tb from by rw[<- htb,am (rfl:(2:Int)=2),am k0,am k1];rfl);clear htb;go_enter Tryz.func224,Tryz.ntmps224;go_upto_region 5 with (first | (go_at_call 271;go_call (hsg _) as e w1 ⟨rfl,rfl⟩) | fail);go_region_held3 (fun w'=>w'.cell? ⟨w.heap.size,1,none⟩=some (I ya)/\w'.cell? ⟨w.heap.size,4,none⟩=some (I yk)/\w'.cell? ⟨g,4,none⟩=some (.slice x.A4 x.n4 x.c4)) (first | go_keep | (refine⟨?_,?_,?_⟩ <;> assumption)) (first | ((go_at_call 275;go_call (htk S0.out.drew.lk) as e w1 hk1);have S1:=aT (S0.out.drew.next hk1);obtain⟨rfl,_,_,_⟩:=hk1;obtain⟨z1_0,z1_1,z1_2,z1_3,z1_4,z1_5⟩:=S1.out.ib.cells;obtain⟨_,_,_,g1_4,_,_,_,gl1⟩:=S1.out.lk.cells) | ((go_at_call 274;go_call (it S1.out.lk _) as e w2 hk2);have S2:=aT (S1.out.next hk2);obtain⟨rfl,_,_,_⟩:=hk2;obtain⟨z2_0,z2_1,z2_2,z2_3,z2_4,z2_5⟩:=S2.out.ib.cells;obtain⟨_,_,_,g2_4,g2_7,_,gf2,gl2⟩:=S2.out.lk.cells) | fail);rw[HPT.out] at g2_7;have hmin:yk<=(x.n4:Int):=aS
       by_cases hmax:s.past<=(i:Int)+1+yk
       · skip
         go_upto_region 6 with fail;go_region
         all_goals go_wp2
         all_goals
          go_end0;refine ((S2.out.next (iF S2.out.lk _)).drew.done).as (iG ?_ ?_)
          · first
             | exact hB.out
             | (rw[<- hB.out,aD];omega)
             | (exfalso;omega)
          · have:=HM.out;omega
       · skip
         go_upto_region 6 with fail;go_region
         all_goals go_wp2
         all_goals
          go_end0;refine ((S2.out.next (iF S2.out.lk _)).drew.done).as (iG ?_ ?_)
          · first
             | exact hB.out
             | (rw[<- hB.out,aD];omega)
             | (exfalso;omega)
          · have:=HM.out;omega
     · have hB:=aT (show false=tb from by rw[<- htb,aj k1,Bool.and_false,Bool.and_false]);clear htb;go_enter Tryz.func224,Tryz.ntmps224;go_upto_region 5 with (first | (go_at_call 271;go_call (hsg _) as e w1 ⟨rfl,rfl⟩) | fail);go_region_held3 (fun w'=>w'.cell? ⟨w.heap.size,1,none⟩=some (I ya)/\w'.cell? ⟨w.heap.size,4,none⟩=some (I yk)/\w'.cell? ⟨g,4,none⟩=some (.slice x.A4 x.n4 x.c4)) (first | go_keep | (refine⟨?_,?_,?_⟩ <;> assumption)) (first | ((go_at_call 275;go_call (htk S0.out.drew.lk) as e w1 hk1);have S1:=aT (S0.out.drew.next hk1);obtain⟨rfl,_,_,_⟩:=hk1;obtain⟨z1_0,z1_1,z1_2,z1_3,z1_4,z1_5⟩:=S1.out.ib.cells;obtain⟨_,_,_,g1_4,_,_,_,gl1⟩:=S1.out.lk.cells) | ((go_at_call 274;go_call (it S1.out.lk _) as e w2 hk2);have S2:=aT (S1.out.next hk2);obtain⟨rfl,_,_,_⟩:=hk2;obtain⟨z2_0,z2_1,z2_2,z2_3,z2_4,z2_5⟩:=S2.out.ib.cells;obtain⟨_,_,_,g2_4,g2_7,_,gf2,gl2⟩:=S2.out.lk.cells) | fail);rw[HPT.out] at g2_7
       by_cases hmin:yk<=(x.n4:Int)
       · by_cases hmax:s.past<=(i:Int)+1+yk
         · skip
           go_upto_region 6 with fail;go_region
           all_goals go_wp2
           all_goals
            go_end0;refine ((S2.out.next (iF S2.out.lk _)).drew.done).as (iG ?_ ?_)
            · first
               | exact hB.out
               | (rw[<- hB.out,aD];omega)
               | (exfalso;omega)
            · have:=HM.out;omega
         · skip
           go_upto_region 6 with fail;go_region
           all_goals go_wp2
           all_goals
            go_end0;refine ((S2.out.next (iF S2.out.lk _)).drew.done).as (iG ?_ ?_)
            · first
               | exact hB.out
               | (rw[<- hB.out,aD];omega)
               | (exfalso;omega)
            · have:=HM.out;omega
       · by_cases hmax:s.past<=(i:Int)+1+(x.n4:Int)
         · skip
           go_upto_region 6 with fail;go_region
           all_goals go_wp2
           all_goals
            go_end0;refine ((S2.out.next (iF S2.out.lk _)).drew.done).as (iG ?_ ?_)
            · first
               | exact hB.out
               | (rw[<- hB.out,aD];omega)
               | (exfalso;omega)
            · have:=HM.out;omega
         · skip
           go_upto_region 6 with fail;go_region
           all_goals go_wp2
           all_goals
            go_end0;refine ((S2.out.next (iF S2.out.lk _)).drew.done).as (iG ?_ ?_)
            · first
               | exact hB.out
               | (rw[<- hB.out,aD];omega)
               | (exfalso;omega)
            · have:=HM.out;omega
   · have kd:=aj k0;have hB:=aT (show false=tb from by rw[<- htb,aj k0,Bool.false_and,Bool.and_false]);clear htb;go_enter Tryz.func224,Tryz.ntmps224;go_upto_region 5 with (first | (go_at_call 271;go_call (hsg _) as e w1 ⟨rfl,rfl⟩) | fail);refine wp_region_held_drew (S:=fun w'=>w'.cell? ⟨w.heap.size,1,none⟩=some (I ya)/\w'.cell? ⟨w.heap.size,4,none⟩=some (I yk)/\w'.cell? ⟨g,4,none⟩=some (.slice x.A4 x.n4 x.c4)) bP ⟨z1,z4,g4⟩ (fun hHeld=>?_);refine aU 0 ?_;refine aU 1 ?_;refine aU 2 ?_;refine aU 3 ?_ (hy:=Or.inl ⟨by rfl,eX⟩);refine bQ 4 (fun K hK=>?_);go_simp
     (go_at_call 275;go_call (htk S0.out.drew.lk) as e w1 hk1)
     have S1:=aT (S0.out.drew.next hk1);obtain⟨rfl,_,_,_⟩:=hk1;obtain⟨z1_0,z1_1,z1_2,z1_3,z1_4,z1_5⟩:=S1.out.ib.cells;obtain⟨_,_,_,g1_4,_,_,_,gl1⟩:=S1.out.lk.cells;refine hK.out _ _ (⟨z1_1,z1_4,g1_4⟩) (fun hHeld=>?_);clear hK K;refine bI ?_;refine aU 5 ?_;refine aU 6 ?_;refine aU 7 ?_;refine aU 8 ?_ (hy:=Or.inl ⟨by rfl,eX⟩);refine aU 9 ?_;refine aU 10 ?_;refine aU 11 ?_;refine bx 12 ?_;refine bx 13 ?_;refine bx 14 ?_;refine bx 15 ?_;refine bx 16 ?_;refine bx 17 ?_;refine bx 18 ?_;refine bx 19 ?_;refine bx 20 ?_;refine bx 21 ?_;refine bx 22 ?_;refine bx 23 ?_;refine aU 24 ?_;refine bQ 25 (fun K hK=>?_);go_simp
     (go_at_call 274;go_call (it S1.out.lk _) as e w2 hk2)
     have S2:=aT (S1.out.next hk2);obtain⟨rfl,_,_,_⟩:=hk2;obtain⟨z2_0,z2_1,z2_2,z2_3,z2_4,z2_5⟩:=S2.out.ib.cells;obtain⟨_,_,_,g2_4,g2_7,_,gf2,gl2⟩:=S2.out.lk.cells;refine hK.out _ _ (⟨z2_1,z2_4,g2_4⟩) (fun hHeld=>?_);clear hK K;refine bI ?_;refine wpAnyH_done bR ?_ _;rw[HPT.out] at g2_7;have hmin:yk<=(x.n4:Int):=aS
     by_cases hmax:s.past<=(i:Int)+1+yk
     · skip
       go_upto_region 6 with fail;go_region
       all_goals go_wp2
       all_goals
        go_end0;refine ((S2.out.next (iF S2.out.lk _)).drew.done).as (iG ?_ ?_)
        · first
           | exact hB.out
           | (rw[<- hB.out,aD];omega)
           | (exfalso;omega)
        · have:=HM.out;omega
     · skip
       go_upto_region 6 with fail;go_region
       all_goals go_wp2
       all_goals
        go_end0;refine ((S2.out.next (iF S2.out.lk _)).drew.done).as (iG ?_ ?_)
        · first
           | exact hB.out
           | (rw[<- hB.out,aD];omega)
           | (exfalso;omega)
        · have:=HM.out;omega
 · have t2b:(tv == 2)=false:=by rw[ae];exact t2
   have hB:=aT (show false=tb from by rw[<- htb,aj t2,Bool.false_and]);clear htb;go_enter Tryz.func224,Tryz.ntmps224;go_upto_region 5 with (first | (go_at_call 271;go_call (hsg _) as e w1 ⟨rfl,rfl⟩) | fail);refine wp_region_held_drew (S:=fun w'=>w'.cell? ⟨w.heap.size,1,none⟩=some (I ya)/\w'.cell? ⟨w.heap.size,4,none⟩=some (I yk)/\w'.cell? ⟨g,4,none⟩=some (.slice x.A4 x.n4 x.c4)) bP ⟨z1,z4,g4⟩ (fun hHeld=>?_);refine aU 0 ?_;refine aU 1 ?_;refine aU 2 ?_;refine aU 3 ?_ (hy:=Or.inl ⟨by rfl,eX⟩);refine bQ 4 (fun K hK=>?_);go_simp
   (go_at_call 275;go_call (htk S0.out.drew.lk) as e w1 hk1)
   have S1:=aT (S0.out.drew.next hk1);obtain⟨rfl,_,_,_⟩:=hk1;obtain⟨z1_0,z1_1,z1_2,z1_3,z1_4,z1_5⟩:=S1.out.ib.cells;obtain⟨_,_,_,g1_4,_,_,_,gl1⟩:=S1.out.lk.cells;refine hK.out _ _ (⟨z1_1,z1_4,g1_4⟩) (fun hHeld=>?_);clear hK K;refine bI ?_;refine aU 5 ?_;refine aU 6 ?_;refine bx 7 ?_;refine bx 8 ?_;refine bx 9 ?_;refine aU 10 ?_;refine aU 11 ?_;refine bx 12 ?_;refine bx 13 ?_;refine bx 14 ?_;refine bx 15 ?_;refine bx 16 ?_;refine bx 17 ?_;refine bx 18 ?_;refine bx 19 ?_;refine bx 20 ?_;refine bx 21 ?_;refine bx 22 ?_;refine bx 23 ?_;refine aU 24 ?_;refine bQ 25 (fun K hK=>?_);go_simp
   (go_at_call 274;go_call (it S1.out.lk _) as e w2 hk2)
   have S2:=aT (S1.out.next hk2);obtain⟨rfl,_,_,_⟩:=hk2;obtain⟨z2_0,z2_1,z2_2,z2_3,z2_4,z2_5⟩:=S2.out.ib.cells;obtain⟨_,_,_,g2_4,g2_7,_,gf2,gl2⟩:=S2.out.lk.cells;refine hK.out _ _ (⟨z2_1,z2_4,g2_4⟩) (fun hHeld=>?_);clear hK K;refine bI ?_;refine wpAnyH_done bR ?_ _;rw[HPT.out] at g2_7
   by_cases hmin:yk<=(x.n4:Int)
   · by_cases hmax:s.past<=(i:Int)+1+yk
     · skip
       go_upto_region 6 with fail;go_region
       all_goals go_wp2
       all_goals
        go_end0;refine ((S2.out.next (iF S2.out.lk _)).drew.done).as (iG ?_ ?_)
        · first
           | exact hB.out
           | (rw[<- hB.out,aD];omega)
           | (exfalso;omega)
        · have:=HM.out;omega
     · skip
       go_upto_region 6 with fail;go_region
       all_goals go_wp2
       all_goals
        go_end0;refine ((S2.out.next (iF S2.out.lk _)).drew.done).as (iG ?_ ?_)
        · first
           | exact hB.out
           | (rw[<- hB.out,aD];omega)
           | (exfalso;omega)
        · have:=HM.out;omega
   · by_cases hmax:s.past<=(i:Int)+1+(x.n4:Int)
     · skip
       go_upto_region 6 with fail;go_region
       all_goals go_wp2
       all_goals
        go_end0;refine ((S2.out.next (iF S2.out.lk _)).drew.done).as (iG ?_ ?_)
        · first
           | exact hB.out
           | (rw[<- hB.out,aD];omega)
           | (exfalso;omega)
        · have:=HM.out;omega
     · skip
       go_upto_region 6 with fail;go_region
       all_goals go_wp2
       all_goals
        go_end0;refine ((S2.out.next (iF S2.out.lk _)).drew.done).as (iG ?_ ?_)
        · first
           | exact hB.out
           | (rw[<- hB.out,aD];omega)
           | (exfalso;omega)
        · have:=HM.out;omega
end
theorem gq {α:Type}{enc:α->Value}{W:World}{n:Nat}{e:TypeId}{l:List α}(h:Blk W g e (l.map enc))(hb:base<=g)(hl:l.length=n)(hm:n<=maxLen):Ow enc W base e (some ⟨g,0,none⟩) n n l:=by
 subst hl;exact⟨rfl,by simp,.inr ⟨g,l.length,(l.map enc).toArray,rfl,hb,h,Nat.le_refl _,hm,by simp,by rw[Nat.mul_one];exact au ba⟩⟩
theorem setCell_same {i:Nat}{v:Value}(h:Blk w g t cs)(hv:cs[i]?=some v):w.setCell ⟨g,i,none⟩ v=w:=by
 have hg:=h.lt;unfold Blk at h;have hheap:(w.setCell ⟨g,i,none⟩ v).heap=w.heap:=by
  apply Array.ext (by simp[World.setCell]);intro j h1 h2
  by_cases e:j=g
  · subst e;have e1:(w.setCell ⟨j,i,none⟩ v).heap[j]?=w.heap[j]?:=by
     simp only[World.setCell,Array.getElem?_modify,if_true];rw[h];simp only[Option.map_some,Option.isSome_none,Bool.false_eq_true,if_false]
     congr 2
     apply Array.ext';rw[Array.toList_setIfInBounds];obtain⟨hi,hv'⟩:=List.getElem?_eq_some_iff.1 hv
     show cs.set i v=cs
     rw[<- hv',List.set_getElem_self]
    rw[Array.getElem?_eq_getElem h1,Array.getElem?_eq_getElem h2] at e1;injection e1
  · have e1:(w.setCell ⟨g,i,none⟩ v).heap[j]?=w.heap[j]?:=by
     simp only[World.setCell,Array.getElem?_modify];rw[if_neg (fun q=>e q.symm)]
    rw[Array.getElem?_eq_getElem h1,Array.getElem?_eq_getElem h2] at e1;injection e1
 cases w
 simp only[World.setCell] at hheap ⊢;rw[hheap]
theorem setCells_same {v:Value}(h:Blk w g t cs):∀ (n o:Nat),(∀ j,j<n->cs[o+j]?=some v)->w.setCells g o (List.replicate n v)=w:=by
 intro n
 induction n with
 | zero=>intro o _;rfl
 | succ n ih=>
   intro o hj;rw[List.replicate_succ,World.setCells,setCell_same (i:=o) h (hj 0 aS)];exact ih (o+1) (fun j hlt=>by have:=hj (j+1) aS;rwa [show o+(j+1)=o+1+j by omega] at this)
theorem zero_of {P:Program}{z:Value}{a b:Nat}(h:(P.info? t).map (fun i=>(i.zero,i.size,i.bytes))=some (some z,a,b))(w:World):(zeroValue t).run P w=.ok z w:=by
 cases hi:P.info? t with
 | none=>rw[hi] at h;cases h
 | some i=>
   rw[hi] at h;simp only[Option.map_some,Option.some.injEq,Prod.mk.injEq] at h;simp[zeroValue,typeInfo,hi,h.1]
theorem elemBool:dI Tryz.prog 149 4 (.bool false) 1 1:=dI.mk' Tryz.underlying149 bP rfl aV
theorem zeroInt (w:World):(zeroValue 3).run Tryz.prog w=.ok (I 0) w:=zero_of (P:=Tryz.prog) (a:=1) (b:=8) bP w
theorem zeroBool (w:World):(zeroValue 4).run Tryz.prog w=.ok (.bool false) w:=zero_of (P:=Tryz.prog) (a:=1) (b:=1) bP w
theorem clear_ow {α:Type}{enc:α->Value}{P:Program}{e ty:TypeId}{z:Value}{n c:Nat}{A:Option Addr}{l:List α}(ht:P.underlying t=some (.slice e))(hv:∀ w,(zeroValue e).run P w=.ok z w)(hz:z.cells=#[z])(h1:z.oneCell'=true)(h:Ow enc w base e A n c l)(hl:∀ x ∈ l,enc x=z) :
 (Builtin.clear_ #[t] ty #[.slice A n c]).run P w=.ok (.tuple #[]) w:=by
 rcases h.2.2 with ⟨hv',hn⟩ | ⟨g,cap,cur,hv',_,hh,hnc,_,hsz,htk⟩
 · injection hv' with e1 e2 e3;subst e1 hn;simp[Builtin.clear_,run_underlying ht]
 · injection hv' with e1 e2 e3;subst e1 e3;have hb:Blk w g e cur.toList:=by unfold Blk;rw[hh]
   have hcell:∀ j,j<n->cur.toList[j]?=some z:=fun j hj=>by
    have h2:(cur.toList.take (n * 1))[j]?=(l.map enc)[j]?:=by rw[htk]
    rw[aK,if_pos aS,List.getElem?_map] at h2;rw[h2,ap (by rw[h.1];exact hj)];simp only[Option.map_some];rw[hl _ (List.getElem_mem _)]
   rcases aH n with q | q
   · subst q;simp[Builtin.clear_,run_underlying ht]
   · refine (Lib.run_clear_slice (P:=P) w t e ty z ht hv hz h1 g 0 n _ q (fun j hj=>by rw[aB,hb.cell j,hcell j hj];rfl) (fun j _=>hb.frozen _)).trans ?_;rw[setCells_same hb n 0 (fun j hj=>by rw[aB];exact hcell j hj)]
section
variable {w w':World}
theorem index_false (A:Option Addr)(n c:Nat)(l:List Bool)(w:World)(h:Rd bo w A n l)(hn:n<=maxLen) :
 Ca 278 #[.slice A n c,.bool false] w fun e w'=>∃ z:Int,e=.returned (I z)/\(0<=z ↔ l.all id=false)/\w=w':=by
 have hl:=h.1;have HL:=aT hl;have HR:=aT h;unfold maxLen at hn;clear h hl;go_enter Tryz.func278,Tryz.ntmps278;go_wp2_with fail;go_loopw [5,8] (fun _ i wr=>∃ k:Nat,k<=n/\i=I (k:Nat)/\(∀ j,j<k->l[j]?=some true)/\w=wr) (fun _ i _=>n - (intOf i).toNat)
 case atStart=>exact⟨0,aS,rfl,fun j hj=>absurd hj aS,rfl⟩
 case round=>
  obtain⟨k,hk,rfl,hall,rfl⟩:=hrel;have HA:=aT hall;clear hall
  by_cases hlt:k<n
  · obtain⟨b,o,rfl,hb,hc⟩:=HR.out.2.at_ hlt;have hkl:k<l.length:=by rw[HL.out];exact hlt
    rw[iy l k hkl] at hc;have hx:=ap hkl;have HX:=aT hx;clear hx;generalize l[k]=xb at *
    cases xb with
    | false=>
      have hf:Hid (l.all id=false):=by
       show l.all id=false
       cases q:l.all id with
       | false=>rfl
       | true=>
         rw[List.all_eq_true] at q;have:=q false (List.mem_of_getElem? HX.out)
         cases this
      have hc':w.cell? ⟨b,o+k,none⟩=some (.bool false):=hc;clear hc;go_wp2;go_ret;exact⟨(k:Nat),rfl,⟨fun _=>hf.out,fun _=>by omega⟩,rfl⟩
    | true=>
      have hc':w.cell? ⟨b,o+k,none⟩=some (.bool true):=hc;clear hc;have hn2:Hid (∀ j,j<k+1->l[j]?=some true):=fun j hj=>by
       rcases aw j k with q | q
       · exact HA.out j q
       · have:j=k:=aS;subst this;exact HX.out
      go_wp2;go_roundw
      case rel=>exact⟨k+1,aS,by go_num,hn2.out,trivial⟩
      case measure=>simp[intOf];omega
  · have hk9:k=n:=aS;subst hk9;go_wp2;go_ret;refine⟨-1,rfl,⟨fun h=>absurd h aS,fun h=>?_⟩,rfl⟩
    exfalso
    have:l.all id=true:=by
     rw[List.all_eq_true];intro y hy;obtain⟨j,hj⟩:=List.getElem?_of_mem hy;have hjl:=(List.getElem?_eq_some_iff.1 hj).1;have:=HA.out j (by rw[<- HL.out];exact hjl);rw[hj] at this;injection this
    rw[this] at h
    cases h
theorem contains_false (A:Option Addr)(n c:Nat)(l:List Bool)(w:World)(h:Rd bo w A n l)(hn:n<=maxLen) :
 Ca 225 #[.slice A n c,.bool false] w fun e w'=>e=.returned (.bool (!(l.all id)))/\w=w':=by
 have hi:=index_false A n c l w h hn;go_enter Tryz.func225,Tryz.ntmps225;go_wp2_with (first | ((go_at_call 278;go_call (hi) as e w1 ⟨z,rfl,hz,rfl⟩);have HZ:=aT hz;clear hz) | fail);go_ret;refine⟨cO ?_,rfl⟩;have hz:=HZ.out
 cases q:l.all id with
 | false=>rw[q] at hz;simpa using hz
 | true=>rw[q] at hz;simpa using hz
theorem mZ (s:LkV)(n:Int):(cZ s n).1.outs=s.outs:=by rw[iR]
theorem oM (s:LkV)(n k:Int):(fp s n k).outs=s.outs:=by rw[givesV_eq]
theorem oneV_outs (s:LkV)(l:List Int)(n:Int):(oneV s l n).1.outs=s.outs:=by rw[ky]
theorem cellV_outs (p:PV)(s:LkV)(n:Int):(cellV p s n).1.outs=s.outs:=by rw[mN]
theorem m0 (s:LkV)(b:Bool):(cM s b).outs=s.outs:=rfl
theorem reckV_outs (s:LkV)(y:Ins):(reckV s y).outs=s.outs:=by
 unfold reckV;simp only
 split
 · rw[oM,m0,mZ,m0,mZ]
 · rw[oM,m0,mZ]
theorem instrV_outs (p:PV)(s:LkV)(i:Nat)(y:Ins):(bU p s i y).outs.length=s.outs.length:=by
 unfold bU;simp only
 repeat' split
 all_goals simp only[reckV_outs,oM,mZ,m0,oneV_outs,cellV_outs,List.length_set]
theorem lookV_outs (p:PV)(k:Nat):(cj p k).outs.length=p.outs.length:=by
 induction k with
 | zero=>simp[cj]
 | succ k ih=>
   unfold cj
   split
   · exact ih
   · rw[instrV_outs];exact ih
theorem lookV_bad {p:PV}{k:Nat}(h:(cj p k).bad=true):∀ m,cj p (k+m)=cj p k:=by
 intro m
 induction m with
 | zero=>rfl
 | succ m ih=>
   show (if (cj p (k+m)).bad then cj p (k+m) else _)=_
   rw[ih,if_pos h]
theorem lookV_good {p:PV}{k:Nat}(h:(cj p k).bad=false):cj p (k+1)=bU p (cj p k) k (aY p.code k):=by
 show (if (cj p k).bad then cj p k else _)=_
 rw[if_neg (by rw[h];simp)]
section
variable {base g:Nat} {x:PA} {p:PV} {s:LkV}
theorem lkinstr_any (h:LkAt w base g x p s)(hs:base<=w.heap.size)(hp:Olds w base x p)(y:Ins)(i:Nat)(hol:s.outs.length=p.outs.length)(hi:i<p.code.length)(hcode:p.code.length<=100000)(hk:-9223372036854775808<=y.k/\y.k<=9223372036854775807) :
 Ca 224 #[.pointer (some ⟨g,0,none⟩),I (i:Nat),.agg #[I y.op,I y.a,I y.b,I y.c,I y.k]] w (eq w base g x p (bU p s i y) none):=by
 by_cases h0:fF y.op=true
 · exact lkinstr_sign h hs y i h0
 by_cases h1:y.op=1
 · exact lkinstr_int h hs y i h1
 by_cases h2:y.op=2
 · exact lkinstr_bool h hs y i h2
 by_cases h3:y.op=3
 · exact lkinstr_var h hs y i h3
 by_cases h4:y.op=27
 · exact lkinstr_if h hs y i h4
 by_cases h5:y.op=21
 · exact lkinstr_cell h hs hp y i h5
 by_cases h6:y.op=28
 · exact lkinstr_in h hs hp y i h6
 by_cases h7:y.op=29
 · exact lkinstr_out h hs hp y i h7 hol
 by_cases h8:y.op=32
 · exact lkinstr_keep h hs hp y i h8
 · exact lkinstr_skip h hs hp y i ⟨by simpa using h0,h1,h2,h3,h4,h5,h6,h7,h8⟩ hi hcode hk
theorem Olds.below (h:Olds w base x p)(hb:Below base w w'):Olds w' base x p:=by
 obtain⟨w0,h1,h2,h3⟩:=h;exact⟨w0,h1,h2,h3.trans hb⟩
theorem look_any (h:LkAt w base g x p (cj p 0))(hs:base<=w.heap.size)(hp:Olds w base x p)(hm:mayB p=true)(hw:eI p) :
 Ca 154 #[.pointer (some ⟨g,0,none⟩)] w fun e w'=>e=.returned (.bool (!(cj p p.code.length).bad && (cj p p.code.length).outs.all id))/\Below base w w':=by
 have HL:=aT h;obtain⟨K,nk,ck,O,no,co,hb,hg,hk,ho⟩:=h;have c4:=hb.c4;have c5:=hb.c5;have c6:=hb.c6;have hcl5:∀ ty,(Builtin.clear_ #[22] ty #[.slice K nk ck]).run Tryz.prog w=.ok (.tuple #[]) w:=fun ty=>clear_ow Tryz.underlying22 zeroInt rfl rfl hk (fun z hz=>by rw[show (cj p 0).kinds=List.replicate p.regs.toNat 0 from rfl] at hz;rw[List.eq_of_mem_replicate hz];rfl)
 have hcl6:∀ ty,(Builtin.clear_ #[149] ty #[.slice O no co]).run Tryz.prog w=.ok (.tuple #[]) w:=fun ty=>clear_ow Tryz.underlying149 zeroBool rfl rfl ho (fun z hz=>by rw[show (cj p 0).outs=List.replicate p.outs.length false from rfl] at hz;rw[List.eq_of_mem_replicate hz];rfl)
 have HP:=aT hp;have hcode:=(dN.1 hm).2.2.2.2.2.1;have hn4:=(hp.rd (Below.refl _ _)).r4.1;have HN4:=aT hn4;have HW:=aT hw;rw[hn4] at hcode;have hgl:=hb.lt;clear hb hk ho hm hp hw hn4;go_enter Tryz.func154,Tryz.ntmps154;go_wp2_with (simp only[hcl5,hcl6]);go_loopw [3,4,19] (fun _ _ i wr=>∃ k:Nat,k<=x.n4/\i=I (k:Nat)/\(cj p k).bad=false/\LkAt wr base g x p (cj p k)/\Below base w wr) (fun _ _ i _=>x.n4 - (intOf i).toNat)
 case atStart=>exact⟨0,aS,rfl,rfl,HL.out,Below.refl _ _⟩
 case round=>
  obtain⟨k,hk,rfl,hbad,hlk,hbel⟩:=hrel;have HLk:=aT hlk;have HB:=aT hbel;have HBD:=aT hbad;clear hlk hbel hbad;have hbs:=HB.out.size
  by_cases hlt:k<x.n4
  · have HPw:=aT (HP.out.below HB.out);obtain⟨b,o,y,hA,hbl,hy,hcl⟩:=(HPw.out.rd (Below.refl _ _)).r4.at_ gY aS hlt;have hI:=gS hy;have hyk:=(HW.out.code y (List.mem_of_getElem? hy)).2.2.2;obtain⟨op,ya,yb,yc,yk⟩:=y;have h0:wr.cell? ⟨b,o+k * 5,none⟩=some (I op):=hcl 0 aS;have h1:wr.cell? ⟨b,o+k * 5+1,none⟩=some (I ya):=hcl 1 aS;have h2:wr.cell? ⟨b,o+k * 5+2,none⟩=some (I yb):=hcl 2 aS;have h3:wr.cell? ⟨b,o+k * 5+3,none⟩=some (I yc):=hcl 3 aS;have h4:wr.cell? ⟨b,o+k * 5+4,none⟩=some (I yk):=hcl 4 aS;have bX:Below wr.heap.size wr (wr.alloc (.cells #[I op,I ya,I yb,I yc,I yk] 144)):=(Below.refl _ _).alloc aW _;have hin:=lkinstr_any (HLk.out.below bX) (by have:=bX.size;omega) (HPw.out.below (bX.mono aS)) ⟨op,ya,yb,yc,yk⟩ k (lookV_outs p k) (by rw[HN4.out];exact hlt) (by rw[HN4.out];omega) hyk;have HG:=aT (show cj p (k+1)=bU p (cj p k) k ⟨op,ya,yb,yc,yk⟩ from by rw[lookV_good HBD.out,hI]);rw[<- HG.out] at hin;simp only at hin;have HBX:=aT (bX.mono (show base<=wr.heap.size by omega));clear hcl hI hy hyk bX HG;simp only[hA];go_upto_region 7 with (first | ((go_at_call 224;go_call (hin) as e w3 ⟨rfl,l3,b3,st3⟩);have L3:=aT l3;have B3:=aT ((HB.out.trans HBX.out).trans b3);obtain⟨_,_,_,_,_,g8,_,gl3⟩:=l3.cells;clear l3 b3 st3) | fail)
    cases hb2:(cj p (k+1)).bad with
    | true=>
      rw[hb2] at g8;have hfin:Hid ((!(cj p p.code.length).bad && (cj p p.code.length).outs.all id)=false):=by
       show _=_
       have e:cj p p.code.length=cj p (k+1):=by
        have:=lookV_bad hb2 (p.code.length - (k+1))
        rwa [show k+1+(p.code.length - (k+1))=p.code.length by rw[HN4.out];omega] at this
       rw[e,hb2];rfl
      clear hb2;go_wp2_with fail;go_ret;exact⟨by rw[hfin.out];rfl,B3.out⟩
    | false=>
      rw[hb2] at g8;have HB2:=aT hb2;clear hb2;go_wp2_with fail;go_roundw
      case rel=>exact⟨k+1,aS,by go_num,HB2.out,L3.out,B3.out⟩
      case measure=>simp[intOf];omega
  · have hk9:k=x.n4:=aS;subst hk9;have hlk:=HLk.out;obtain⟨K,nk,ck,O,no,co,hb,hg,hk,ho⟩:=hlk;have c6':=hb.c6;have hcf:=contains_false O no co _ wr ho.rd (by have:=ho.cap;omega);have hbl:=hb.lt;have hfin:Hid ((!(cj p p.code.length).bad && (cj p p.code.length).outs.all id)=(cj p x.n4).outs.all id):=by
     show _=_
     rw[HN4.out,HBD.out];rfl
    clear hb hk ho;generalize (cj p x.n4).outs.all id=bb at *;go_wp2_with (first | ((go_at_call 225;go_call (hcf) as e w3 ⟨rfl,rfl⟩)) | fail);go_ret;exact⟨by rw[hfin.out];simp,HB.out⟩
theorem vright_no (x:PA)(p:PV)(w:World)(h:ca w x p)(hm:mayB p=false) :
 Ca 65 #[.agg #[.slice x.A1 x.n1 x.c1,.slice x.A2 x.n2 x.c2,I p.regs,.slice x.A3 x.n3 x.c3,.slice x.A4 x.n4 x.c4]] w fun e w'=>e=.returned (.bool false)/\Below w.heap.size w w':=by
 have hmay:=fun w h=>j9 x p w h
 rw[hm] at hmay;have HP:=aT h;clear hm h;go_enter Tryz.func65,Tryz.ntmps65;go_wp2_with (first | (go_at_call 153;go_call (hmay _ (HP.out.below (b:=w.heap.size) bc aW)) as e w1 ⟨rfl,hb1⟩) | fail);go_ret;exact⟨rfl,bH (a:=w) (B:=w.heap.size) bc hb1 be⟩
theorem vright_yes (x:PA)(p:PV)(w:World)(h:ca w x p)(hw:eI p)(hm:mayB p=true) :
 Ca 65 #[.agg #[.slice x.A1 x.n1 x.c1,.slice x.A2 x.n2 x.c2,I p.regs,.slice x.A3 x.n3 x.c3,.slice x.A4 x.n4 x.c4]] w fun e w'=>e=.returned (.bool (!(cj p p.code.length).bad && (cj p p.code.length).outs.all id))/\Below w.heap.size w w':=by
 have hmay:=fun w h=>j9 x p w h
 rw[hm] at hmay;have hlk:=fun (W:World) (base g:Nat) (l:LkAt W base g x p (cj p 0)) (hs:base<=W.heap.size) (hp:Olds W base x p)=>look_any l hs hp hm hw
 generalize (!(cj p p.code.length).bad && (cj p p.code.length).outs.all id)=bb at *;have HP:=aT h;have hout:=h.r2.1;obtain⟨hr0,hr1⟩:=(show 0<=p.regs/\p.regs<=1600 from ⟨(dN.1 hm).2.2.1,(dN.1 hm).2.2.2.1⟩);have hn2:x.n2<=100:=by
  have:=(fJ.1 (dN.1 hm).2.1).2.2;omega
 have hl0:cj p 0=⟨List.replicate p.regs.toNat 0,List.replicate x.n2 false,0,false⟩:=by rw[<- hout];rfl
 have HL0:=aT hl0;clear hm hw h hl0 hout;obtain⟨r,hr⟩:∃ r:Nat,p.regs=(r:Nat):=⟨p.regs.toNat,aS⟩;have hrt:p.regs.toNat=r:=aS;have HRT:=aT hrt;clear hrt;simp only[hr] at hr0 hr1 hmay ⊢;have hmk1:∀ W:World,(Instr.makeSlice 22 (I (r:Int)) (I (r:Int))).run Tryz.prog W=.ok (.slice (some ⟨W.heap.size,0,none⟩) r r) (W.alloc (.cells ((List.replicate r (0:Int)).map iv).toArray 3)):=fun W=>by
  have:=jN dS r aS aS W;rw[show madeCells (I 0).cells r=((List.replicate r (0:Int)).map iv).toArray from by
   apply Array.ext';rw[show (I 0).cells=#[I 0] from rfl,toList_madeCells_one];simp[iv]] at this
  exact this
 have hmk2:∀ W:World,(Instr.makeSlice 149 (I (x.n2:Int)) (I (x.n2:Int))).run Tryz.prog W=.ok (.slice (some ⟨W.heap.size,0,none⟩) x.n2 x.n2) (W.alloc (.cells ((List.replicate x.n2 false).map bo).toArray 4)):=fun W=>by
  have:=jN elemBool x.n2 aS aS W;rw[show madeCells (Value.bool false).cells x.n2=((List.replicate x.n2 false).map bo).toArray from by
   apply Array.ext';rw[show (Value.bool false).cells=#[Value.bool false] from rfl,toList_madeCells_one];simp[bo]] at this
  exact this
 have hZ:=aT (show (cj p 0)=⟨List.replicate r 0,List.replicate x.n2 false,0,false⟩ from by rw[HL0.out,HRT.out]);have hlz:(List.replicate r (0:Int)).length=r:=List.length_replicate;have hlo:(List.replicate x.n2 false).length=x.n2:=List.length_replicate;have HLZ:=aT hlz;have HLO:=aT hlo;clear hlz hlo HL0;generalize List.replicate r (0:Int)=zs at *;generalize List.replicate x.n2 false=os at *;go_enter Tryz.func65,Tryz.ntmps65;go_upto_region 3 with (first | ((go_at_call 153;go_call (hmay _ (HP.out.below (b:=w.heap.size) bc aW)) as e w1 ⟨rfl,hb1⟩);have hp1:=Blk.below (w':=w1) (g:=w.heap.size) (t:=26) (cs:=[.slice x.A1 x.n1 x.c1,.slice x.A2 x.n2 x.c2,I r,.slice x.A3 x.n3 x.c3,.slice x.A4 x.n4 x.c4]) bK hb1 be;obtain⟨y10,y11,y12,y13,y14⟩:=blk5 hp1;have sz1:=hp1.lt;have b01:Below w.heap.size w w1:=bH (a:=w) (B:=w.heap.size) bc hb1 be) | fail);have P1:=aT (show ca w1 x p from HP.out.below (b:=w.heap.size) b01 aW);have B01:=aT b01;have hC:∀ (K:Option Addr) (nk ck:Nat) (O:Option Addr) (no co:Nat) (past:Int) (bad:Bool),lkC x p K nk ck O no co past bad=[.slice x.A1 x.n1 x.c1,.slice x.A2 x.n2 x.c2,I (r:Int),.slice x.A3 x.n3 x.c3,.slice x.A4 x.n4 x.c4,.slice K nk ck,.slice O no co,I past,.bool bad]:=fun K nk ck O no co past bad=>by unfold lkC;rw[hr]
 have HC:=aT hC;clear b01 hC;go_region
 · have bW:Below w1.heap.size w1 (((w1.alloc (.cells (zs.map iv).toArray 3)).alloc (.cells (os.map bo).toArray 4)).alloc (.cells #[.slice x.A1 x.n1 x.c1,.slice x.A2 x.n2 x.c2,I (r:Int),.slice x.A3 x.n3 x.c3,.slice x.A4 x.n4 x.c4,.slice (some ⟨w1.heap.size,0,none⟩) r r,.slice (some ⟨w1.heap.size+1,0,none⟩) x.n2 x.n2,I 0,.bool false] 231)).drew:=bc;have L:LkAt (((w1.alloc (.cells (zs.map iv).toArray 3)).alloc (.cells (os.map bo).toArray 4)).alloc (.cells #[.slice x.A1 x.n1 x.c1,.slice x.A2 x.n2 x.c2,I (r:Int),.slice x.A3 x.n3 x.c3,.slice x.A4 x.n4 x.c4,.slice (some ⟨w1.heap.size,0,none⟩) r r,.slice (some ⟨w1.heap.size+1,0,none⟩) x.n2 x.n2,I 0,.bool false] 231)).drew w1.heap.size (w1.heap.size+1+1) x p (cj p 0):=by
    rw[hZ.out];exact⟨some ⟨w1.heap.size,0,none⟩,r,r,some ⟨w1.heap.size+1,0,none⟩,x.n2,x.n2,by rw[HC.out];exact Blk.drew (Blk.top _ ba rfl),aS,
     gq (Blk.drew (((Blk.top (g:=w1.heap.size) (t:=3) (cs:=zs.map iv) w1 rfl rfl).alloc _).alloc _)) aW HLZ.out bM,gq (Blk.drew ((Blk.top (g:=w1.heap.size+1) (t:=4) (cs:=os.map bo) _ ba rfl).alloc _)) aS HLO.out bM⟩
   have sW:=bW.size;have c:=hlk _ _ _ L sW ⟨w1,P1.out,Nat.le_refl _,bW⟩;have BW:=aT bW;clear L bW hlk;go_wp2_with (first | ((go_at_call 154;go_call (c) as e w2 ⟨rfl,b2⟩);have B2:=aT b2;clear b2) | fail);go_ret;exact⟨rfl,B01.out.trans ((BW.out.trans B2.out).mono B01.out.size)⟩
 · have bW:Below w1.heap.size w1 (((w1.alloc (.cells (os.map bo).toArray 4)).alloc (.cells (zs.map iv).toArray 3)).alloc (.cells #[.slice x.A1 x.n1 x.c1,.slice x.A2 x.n2 x.c2,I (r:Int),.slice x.A3 x.n3 x.c3,.slice x.A4 x.n4 x.c4,.slice (some ⟨w1.heap.size+1,0,none⟩) r r,.slice (some ⟨w1.heap.size,0,none⟩) x.n2 x.n2,I 0,.bool false] 231)).drew:=bc;have L:LkAt (((w1.alloc (.cells (os.map bo).toArray 4)).alloc (.cells (zs.map iv).toArray 3)).alloc (.cells #[.slice x.A1 x.n1 x.c1,.slice x.A2 x.n2 x.c2,I (r:Int),.slice x.A3 x.n3 x.c3,.slice x.A4 x.n4 x.c4,.slice (some ⟨w1.heap.size+1,0,none⟩) r r,.slice (some ⟨w1.heap.size,0,none⟩) x.n2 x.n2,I 0,.bool false] 231)).drew w1.heap.size (w1.heap.size+1+1) x p (cj p 0):=by
    rw[hZ.out];exact⟨some ⟨w1.heap.size+1,0,none⟩,r,r,some ⟨w1.heap.size,0,none⟩,x.n2,x.n2,by rw[HC.out];exact Blk.drew (Blk.top _ ba rfl),aS,
     gq (Blk.drew ((Blk.top (g:=w1.heap.size+1) (t:=3) (cs:=zs.map iv) _ ba rfl).alloc _)) aS HLZ.out bM,gq (Blk.drew (((Blk.top (g:=w1.heap.size) (t:=4) (cs:=os.map bo) w1 rfl rfl).alloc _).alloc _)) aW HLO.out bM⟩
   have sW:=bW.size;have c:=hlk _ _ _ L sW ⟨w1,P1.out,Nat.le_refl _,bW⟩;have BW:=aT bW;clear L bW hlk;go_wp2_with (first | ((go_at_call 154;go_call (c) as e w2 ⟨rfl,b2⟩);have B2:=aT b2;clear b2) | fail);go_ret;exact⟨rfl,B01.out.trans ((BW.out.trans B2.out).mono B01.out.size)⟩
theorem oN (x:PA)(p:PV)(w:World)(h:ca w x p)(hw:eI p) :
 Ca 65 #[.agg #[.slice x.A1 x.n1 x.c1,.slice x.A2 x.n2 x.c2,I p.regs,.slice x.A3 x.n3 x.c3,.slice x.A4 x.n4 x.c4]] w fun e w'=>e=.returned (.bool (dJ p))/\Below w.heap.size w w':=by
 cases hm:mayB p with
 | false=>
   rw[show dJ p=false by unfold dJ;rw[hm];rfl];exact vright_no x p w h hm
 | true=>
   rw[show dJ p=(!(cj p p.code.length).bad && (cj p p.code.length).outs.all id) by unfold dJ;rw[hm];rfl];exact vright_yes x p w h hw hm
end
end
