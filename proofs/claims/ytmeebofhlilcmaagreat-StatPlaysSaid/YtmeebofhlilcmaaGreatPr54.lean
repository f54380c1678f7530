/- Parts: StatB, StatC, StatD, Stat45, Of40, Few28. -/
import Derived.Test.YtmeebofhlilcmaaGreatPr53
import Derived.IntWalk
set_option linter.unusedVariables false
set_option linter.unusedSimpArgs false
set_option maxRecDepth 100000
set_option maxHeartbeats 0
namespace Go.Proofs.YtmeebofhlilcmaaGreat
open Go.RowKit
theorem stone_any (k en:Int)(A1 A2:Option Addr)(n1 c1 n2 c2:Nat)(e n:Int)(w:World)(hn:-9223372036854775808<=n/\n<=9223372036854775807) :
 Ca 214 #[.agg #[I k,I en,.slice A1 n1 c1,.slice A2 n2 c2],.agg #[I e,I n]] w fun x w'=>x=.returned (.agg #[I ((oneT k e n) 0),I ((oneT k e n) 1),I ((oneT k e n) 2),I ((oneT k e n) 3),I ((oneT k e n) 4),I ((oneT k e n) 5),I ((oneT k e n) 6),I ((oneT k e n) 7),I ((oneT k e n) 8),I ((oneT k e n) 9)])/\Below w.heap.size w w':=by
 have hwn:IntKind.i64.wrap n=n:=by rw[IntKind.wrap_i64];omega
 clear hn;obtain⟨O,hO⟩:∃ O,O=oneT k e n:=⟨_,rfl⟩;rw[<- hO];have HO:=aT hO;clear hO;have hk:k=1\/k=2\/k=3\/k=5\/(k≠1/\k≠2/\k≠3/\k≠5):=aS;have he:e=41\/e=52\/e=2\/e=50\/e=1\/e=0\/(e≠41/\e≠52/\e≠2/\e≠50/\e≠1/\e≠0):=aS;rcases he with rfl | rfl | rfl | rfl | rfl | rfl | ⟨e1,e2,e3,e4,e5,e6⟩
 case inr.inr.inr.inr.inr.inr=>
  have f1:(e == 41)=false:=by simp[e1]
  have f2:(e == 52)=false:=by simp[e2]
  have f3:(e == 2)=false:=by simp[e3]
  have f4:(e == 50)=false:=by simp[e4]
  have f5:(e == 1)=false:=by simp[e5]
  have f6:(e == 0)=false:=by simp[e6]
  rcases hk with rfl | rfl | rfl | rfl | ⟨d1,d2,d3,d4⟩
  case inr.inr.inr.inr=>
   have g1:(k == 1)=false:=by simp[d1]
   have g2:(k == 2)=false:=by simp[d2]
   have g3:(k == 3)=false:=by simp[d3]
   have g4:(k == 5)=false:=by simp[d4]
   have D1:=aT d1;have D2:=aT d2;have D3:=aT d3;have D4:=aT d4;have E1:=aT e1;have E2:=aT e2;have E3:=aT e3;have E4:=aT e4;have E5:=aT e5;have E6:=aT e6;clear d1 d2 d3 d4 e1 e2 e3 e4 e5 e6;go_enter Tryz.func214,Tryz.ntmps214;go_wp2;refine bodyPost_ret (v:=.agg #[I (O 0),I (O 1),I (O 2),I (O 3),I (O 4),I (O 5),I (O 6),I (O 7),I (O 8),I (O 9)]) (by simp[results,Tryz.results214,go_sem,HO.out,oneT,D1.out,D2.out,D3.out,D4.out,E1.out,E2.out,E3.out,E4.out,E5.out,E6.out]) rfl ?_;exact⟨rfl,ba⟩
  all_goals
   have E1:=aT e1;have E2:=aT e2;have E3:=aT e3;have E4:=aT e4;have E5:=aT e5;have E6:=aT e6;clear e1 e2 e3 e4 e5 e6;go_enter Tryz.func214,Tryz.ntmps214
   first
    | (go_wp2
       refine bodyPost_ret (v:=.agg #[I (O 0),I (O 1),I (O 2),I (O 3),I (O 4),I (O 5),I (O 6),I (O 7),I (O 8),I (O 9)]) oQ rfl ?_;exact⟨rfl,ba⟩)
    | (go_upto_region 21 with fail
       go_region
       all_goals
        go_wp2;refine bodyPost_ret (v:=.agg #[I (O 0),I (O 1),I (O 2),I (O 3),I (O 4),I (O 5),I (O 6),I (O 7),I (O 8),I (O 9)]) oQ rfl ?_;exact⟨rfl,ba⟩)
 all_goals
  rcases hk with rfl | rfl | rfl | rfl | ⟨d1,d2,d3,d4⟩
 all_goals first
  | (have g1:(k == 1)=false:=by simp[d1]
     have g2:(k == 2)=false:=by simp[d2]
     have g3:(k == 3)=false:=by simp[d3]
     have g4:(k == 5)=false:=by simp[d4]
     have D1:=aT d1;have D2:=aT d2;have D3:=aT d3;have D4:=aT d4;clear d1 d2 d3 d4;go_enter Tryz.func214,Tryz.ntmps214;go_wp2;refine bodyPost_ret (v:=.agg #[I (O 0),I (O 1),I (O 2),I (O 3),I (O 4),I (O 5),I (O 6),I (O 7),I (O 8),I (O 9)]) (by simp[results,Tryz.results214,go_sem,HO.out,oneT,D1.out,D2.out,D3.out,D4.out]) rfl ?_;exact⟨rfl,ba⟩)
  | (go_enter Tryz.func214,Tryz.ntmps214
     go_wp2;refine bodyPost_ret (v:=.agg #[I (O 0),I (O 1),I (O 2),I (O 3),I (O 4),I (O 5),I (O 6),I (O 7),I (O 8),I (O 9)]) (by simp[results,Tryz.results214,go_sem,HO.out,oneT,hwn]) rfl ?_;exact⟨rfl,ba⟩)
  | (go_enter Tryz.func214,Tryz.ntmps214
     go_upto_region 21 with fail;go_region
     all_goals
      go_wp2;refine bodyPost_ret (v:=.agg #[I (O 0),I (O 1),I (O 2),I (O 3),I (O 4),I (O 5),I (O 6),I (O 7),I (O 8),I (O 9)]) (by simp[results,Tryz.results214,go_sem,HO.out,oneT,hwn]) rfl ?_;exact⟨rfl,ba⟩)
theorem add45_any (T:Nat->Int)(k en:Int)(A1 A2:Option Addr)(n1 c1 n2 c2:Nat)(e n:Int)(w:World)(hn:-9223372036854775808<=n/\n<=9223372036854775807) :
 Ca 135 #[.agg #[I (T 0),I (T 1),I (T 2),I (T 3),I (T 4),I (T 5),I (T 6),I (T 7),I (T 8),I (T 9)],.agg #[I k,I en,.slice A1 n1 c1,.slice A2 n2 c2],.agg #[I e,I n]] w fun x w'=>x=.returned (.agg #[I ((addT T k e n) 0),I ((addT T k e n) 1),I ((addT T k e n) 2),I ((addT T k e n) 3),I ((addT T k e n) 4),I ((addT T k e n) 5),I ((addT T k e n) 6),I ((addT T k e n) 7),I ((addT T k e n) 8),I ((addT T k e n) 9)])/\Below w.heap.size w w':=by
 have hone:=fun w=>stone_any k en A1 A2 n1 c1 n2 c2 e n w hn
 clear hn;have hc:(k=5/\e=0)\/k≠5\/(k=5/\e≠0):=aS;rcases hc with ⟨rfl,rfl⟩ | hk | ⟨rfl,he⟩
 · have hm:iu T 5 0 n=oneT 5 0 n:=by funext j;unfold iu;rw[if_neg aS]
   have hb:∀ w,Ca 215 #[.agg #[I (T 0),I (T 1),I (T 2),I (T 3),I (T 4),I (T 5),I (T 6),I (T 7),I (T 8),I (T 9)],.agg #[I ((oneT 5 0 n) 0),I ((oneT 5 0 n) 1),I ((oneT 5 0 n) 2),I ((oneT 5 0 n) 3),I ((oneT 5 0 n) 4),I ((oneT 5 0 n) 5),I ((oneT 5 0 n) 6),I ((oneT 5 0 n) 7),I ((oneT 5 0 n) 8),I ((oneT 5 0 n) 9)]] w fun x w'=>x=.returned (.agg #[I ((addT T 5 0 n) 0),I ((addT T 5 0 n) 1),I ((addT T 5 0 n) 2),I ((addT T 5 0 n) 3),I ((addT T 5 0 n) 4),I ((addT T 5 0 n) 5),I ((addT T 5 0 n) 6),I ((addT T 5 0 n) 7),I ((addT T 5 0 n) 8),I ((addT T 5 0 n) 9)])/\Below w.heap.size w w':=fun w=>by
    unfold addT;rw[hm];exact oz _ _ w
   clear hm;generalize addT T 5 0 n=R at *;generalize oneT 5 0 n=O at *;go_enter Tryz.func135,Tryz.ntmps135;go_wp2_with (first | ((go_at_call 214;(with_reducible refine (hone _).mono ?_);rintro x w1 ⟨rfl,hb1⟩);have hx1:=Blk.below (w':=w1) (g:=w.heap.size) (t:=107) (cs:=[I (T 0),I (T 1),I (T 2),I (T 3),I (T 4),I (T 5),I (T 6),I (T 7),I (T 8),I (T 9)]) bH hb1 bq;have hy1:=Blk.below (w':=w1) (g:=w.heap.size+1) (t:=98) (cs:=[I 5,I en,.slice A1 n1 c1,.slice A2 n2 c2]) bH hb1 bq;have hz1:=Blk.below (w':=w1) (g:=w.heap.size+2) (t:=100) (cs:=[I 0,I n]) bH hb1 bq;have hr1:=Blk.below (w':=w1) (g:=w.heap.size+3) (t:=107) (cs:=[I (noT 0),I (noT 1),I (noT 2),I (noT 3),I (noT 4),I (noT 5),I (noT 6),I (noT 7),I (noT 8),I (noT 9)]) bH hb1 bq;obtain⟨x0,x1,x2,x3,x4,x5,x6,x7,x8,x9⟩:=gP hx1;have y0:=hy1.c0;have z0:=hz1.c0;have fr1:=hr1.lt;have l0:w.heap.size<w1.heap.size:=hx1.lt;have l1:w.heap.size+1<w1.heap.size:=hy1.lt;have l2:w.heap.size+1+1<w1.heap.size:=hz1.lt;have l3:w.heap.size+1+1+1<w1.heap.size:=hr1.lt;have z0':w1.cell? ⟨w.heap.size+1+1,0,none⟩=some (I 0):=z0;replace hb1:=bM (a:=w) (B:=w.heap.size) ba hb1 bq;have hb1s:=hb1.size) | ((go_at_call 215;(with_reducible refine (hb _).mono ?_);rintro x w2 ⟨rfl,hb2⟩);have hr2:=Blk.below (w':=w2) (g:=w.heap.size+3) (t:=107) (cs:=[I (noT 0),I (noT 1),I (noT 2),I (noT 3),I (noT 4),I (noT 5),I (noT 6),I (noT 7),I (noT 8),I (noT 9)]) bH hb2 bq;have fr2:w.heap.size+1+1+1<w2.heap.size:=hr2.lt;have hr2':Blk w2 (w.heap.size+1+1+1) 107 [I (noT 0),I (noT 1),I (noT 2),I (noT 3),I (noT 4),I (noT 5),I (noT 6),I (noT 7),I (noT 8),I (noT 9)]:=hr2;have ff2:∀ j,w2.frozen? ⟨w.heap.size+1+1+1,j,none⟩=false:=hr2.frozen;obtain⟨q0,q1,q2,q3,q4,q5,q6,q7,q8,q9⟩:=gP hr2';replace hb2:=bM (a:=w) (B:=w.heap.size) ba hb2 bq;have hb2s:=hb2.size));refine bodyPost_ret (v:=.agg #[I (R 0),I (R 1),I (R 2),I (R 3),I (R 4),I (R 5),I (R 6),I (R 7),I (R 8),I (R 9)]) mI rfl ?_;exact⟨rfl,ba⟩
 · have hm:¬ (k=5/\e=0):=fun h=>hk h.1
   obtain⟨R,hR⟩:∃ R,R=addT T k e n:=⟨_,rfl⟩;obtain⟨O,hO⟩:∃ O,O=oneT k e n:=⟨_,rfl⟩;have HR:=aT hR;have hb:∀ w,Ca 215 #[.agg #[I (T 0),I (T 1),I (T 2),I (T 3),I (T 4),I (T 5),I (T 6),I (T 7),I (T 8),I (T 9)],.agg #[I (O 0),I (O 1),I (O 2),I (O 3),I (O 4),I (O 5),I (O 6),I (T 7),I (O 8),I (O 9)]] w fun x w'=>x=.returned (.agg #[I (R 0),I (R 1),I (R 2),I (R 3),I (R 4),I (R 5),I (R 6),I (R 7),I (R 8),I (R 9)])/\Below w.heap.size w w':=fun w=>by
    have:=oz T (iu T k e n) w;rw[show dO T (iu T k e n)=R from hR.symm] at this;rw[moreT7,if_neg hm,fH (show (0:Nat)≠7 by omega),fH (show (1:Nat)≠7 by omega),fH (show (2:Nat)≠7 by omega),fH (show (3:Nat)≠7 by omega),fH (show (4:Nat)≠7 by omega),fH (show (5:Nat)≠7 by omega),fH (show (6:Nat)≠7 by omega),fH (show (8:Nat)≠7 by omega),fH (show (9:Nat)≠7 by omega),<- hO] at this;exact this
   rw[<- hO] at hone;clear hR hO;have hkb:(k != 5)=true:=by rw[ah];exact hk
   clear hm hk;go_enter Tryz.func135,Tryz.ntmps135;go_wp2_with (first | ((go_at_call 214;(with_reducible refine (hone _).mono ?_);rintro x w1 ⟨rfl,hb1⟩);have hx1:=Blk.below (w':=w1) (g:=w.heap.size) (t:=107) (cs:=[I (T 0),I (T 1),I (T 2),I (T 3),I (T 4),I (T 5),I (T 6),I (T 7),I (T 8),I (T 9)]) bH hb1 bq;have hy1:=Blk.below (w':=w1) (g:=w.heap.size+1) (t:=98) (cs:=[I k,I en,.slice A1 n1 c1,.slice A2 n2 c2]) bH hb1 bq;have hz1:=Blk.below (w':=w1) (g:=w.heap.size+2) (t:=100) (cs:=[I e,I n]) bH hb1 bq;have hr1:=Blk.below (w':=w1) (g:=w.heap.size+3) (t:=107) (cs:=[I (noT 0),I (noT 1),I (noT 2),I (noT 3),I (noT 4),I (noT 5),I (noT 6),I (noT 7),I (noT 8),I (noT 9)]) bH hb1 bq;obtain⟨x0,x1,x2,x3,x4,x5,x6,x7,x8,x9⟩:=gP hx1;have y0:=hy1.c0;have z0:=hz1.c0;have fr1:=hr1.lt;have l0:w.heap.size<w1.heap.size:=hx1.lt;have l1:w.heap.size+1<w1.heap.size:=hy1.lt;have l2:w.heap.size+1+1<w1.heap.size:=hz1.lt;have l3:w.heap.size+1+1+1<w1.heap.size:=hr1.lt;have z0':w1.cell? ⟨w.heap.size+1+1,0,none⟩=some (I e):=z0;replace hb1:=bM (a:=w) (B:=w.heap.size) ba hb1 bq;have hb1s:=hb1.size) | ((go_at_call 215;(with_reducible refine (hb _).mono ?_);rintro x w2 ⟨rfl,hb2⟩);have hr2:=Blk.below (w':=w2) (g:=w.heap.size+3) (t:=107) (cs:=[I (noT 0),I (noT 1),I (noT 2),I (noT 3),I (noT 4),I (noT 5),I (noT 6),I (noT 7),I (noT 8),I (noT 9)]) oK hb2 bq;have fr2:w.heap.size+1+1+1<w2.heap.size:=hr2.lt;have hr2':Blk w2 (w.heap.size+1+1+1) 107 [I (noT 0),I (noT 1),I (noT 2),I (noT 3),I (noT 4),I (noT 5),I (noT 6),I (noT 7),I (noT 8),I (noT 9)]:=hr2;have ff2:∀ j,w2.frozen? ⟨w.heap.size+1+1+1,j,none⟩=false:=hr2.frozen;obtain⟨q0,q1,q2,q3,q4,q5,q6,q7,q8,q9⟩:=gP hr2';replace hb2:=bM (a:=w) (B:=w.heap.size) ba hb2 bq;have hb2s:=hb2.size) | fail);refine bodyPost_ret (v:=.agg #[I (R 0),I (R 1),I (R 2),I (R 3),I (R 4),I (R 5),I (R 6),I (R 7),I (R 8),I (R 9)]) mI rfl ?_;exact⟨by rw[<- HR.out],ba⟩
 · have hm:¬ ((5:Int)=5/\e=0):=fun h=>he h.2
   obtain⟨R,hR⟩:∃ R,R=addT T 5 e n:=⟨_,rfl⟩;obtain⟨O,hO⟩:∃ O,O=oneT 5 e n:=⟨_,rfl⟩;have HR:=aT hR;have hb:∀ w,Ca 215 #[.agg #[I (T 0),I (T 1),I (T 2),I (T 3),I (T 4),I (T 5),I (T 6),I (T 7),I (T 8),I (T 9)],.agg #[I (O 0),I (O 1),I (O 2),I (O 3),I (O 4),I (O 5),I (O 6),I (T 7),I (O 8),I (O 9)]] w fun x w'=>x=.returned (.agg #[I (R 0),I (R 1),I (R 2),I (R 3),I (R 4),I (R 5),I (R 6),I (R 7),I (R 8),I (R 9)])/\Below w.heap.size w w':=fun w=>by
    have:=oz T (iu T 5 e n) w;rw[show dO T (iu T 5 e n)=R from hR.symm] at this;rw[moreT7,if_neg hm,fH (show (0:Nat)≠7 by omega),fH (show (1:Nat)≠7 by omega),fH (show (2:Nat)≠7 by omega),fH (show (3:Nat)≠7 by omega),fH (show (4:Nat)≠7 by omega),fH (show (5:Nat)≠7 by omega),fH (show (6:Nat)≠7 by omega),fH (show (8:Nat)≠7 by omega),fH (show (9:Nat)≠7 by omega),<- hO] at this;exact this
   rw[<- hO] at hone;clear hR hO;have heb:(e != 0)=true:=by rw[ah];exact he
   clear hm he;go_enter Tryz.func135,Tryz.ntmps135;go_wp2_with (first | ((go_at_call 214;(with_reducible refine (hone _).mono ?_);rintro x w1 ⟨rfl,hb1⟩);have hx1:=Blk.below (w':=w1) (g:=w.heap.size) (t:=107) (cs:=[I (T 0),I (T 1),I (T 2),I (T 3),I (T 4),I (T 5),I (T 6),I (T 7),I (T 8),I (T 9)]) bH hb1 bq;have hy1:=Blk.below (w':=w1) (g:=w.heap.size+1) (t:=98) (cs:=[I 5,I en,.slice A1 n1 c1,.slice A2 n2 c2]) bH hb1 bq;have hz1:=Blk.below (w':=w1) (g:=w.heap.size+2) (t:=100) (cs:=[I e,I n]) bH hb1 bq;have hr1:=Blk.below (w':=w1) (g:=w.heap.size+3) (t:=107) (cs:=[I (noT 0),I (noT 1),I (noT 2),I (noT 3),I (noT 4),I (noT 5),I (noT 6),I (noT 7),I (noT 8),I (noT 9)]) bH hb1 bq;obtain⟨x0,x1,x2,x3,x4,x5,x6,x7,x8,x9⟩:=gP hx1;have y0:=hy1.c0;have z0:=hz1.c0;have fr1:=hr1.lt;have l0:w.heap.size<w1.heap.size:=hx1.lt;have l1:w.heap.size+1<w1.heap.size:=hy1.lt;have l2:w.heap.size+1+1<w1.heap.size:=hz1.lt;have l3:w.heap.size+1+1+1<w1.heap.size:=hr1.lt;have z0':w1.cell? ⟨w.heap.size+1+1,0,none⟩=some (I e):=z0;replace hb1:=bM (a:=w) (B:=w.heap.size) ba hb1 bq;have hb1s:=hb1.size) | ((go_at_call 215;(with_reducible refine (hb _).mono ?_);rintro x w2 ⟨rfl,hb2⟩);have hr2:=Blk.below (w':=w2) (g:=w.heap.size+3) (t:=107) (cs:=[I (noT 0),I (noT 1),I (noT 2),I (noT 3),I (noT 4),I (noT 5),I (noT 6),I (noT 7),I (noT 8),I (noT 9)]) oK hb2 bq;have fr2:w.heap.size+1+1+1<w2.heap.size:=hr2.lt;have hr2':Blk w2 (w.heap.size+1+1+1) 107 [I (noT 0),I (noT 1),I (noT 2),I (noT 3),I (noT 4),I (noT 5),I (noT 6),I (noT 7),I (noT 8),I (noT 9)]:=hr2;have ff2:∀ j,w2.frozen? ⟨w.heap.size+1+1+1,j,none⟩=false:=hr2.frozen;obtain⟨q0,q1,q2,q3,q4,q5,q6,q7,q8,q9⟩:=gP hr2';replace hb2:=bM (a:=w) (B:=w.heap.size) ba hb2 bq;have hb2s:=hb2.size) | fail);refine bodyPost_ret (v:=.agg #[I (R 0),I (R 1),I (R 2),I (R 3),I (R 4),I (R 5),I (R 6),I (R 7),I (R 8),I (R 9)]) mI rfl ?_;exact⟨by rw[<- HR.out],ba⟩
open Go.RowKit Go.WideShapes Go.ChangeShapes Go.Deep Go.Joins
def EvW (w:World)(A:Option Addr)(n:Nat)(K:Nat->Int):Prop:=∀ i,i<n->∃ b o en A1 n1 c1 A2 n2 c2,A=some ⟨b,o,none⟩/\b<w.heap.size/\w.cell? ⟨b,o+i * 4,none⟩=some (I (K i))/\w.cell? ⟨b,o+i * 4+1,none⟩=some (I en)/\w.cell? ⟨b,o+i * 4+2,none⟩=some (.slice A1 n1 c1)/\w.cell? ⟨b,o+i * 4+3,none⟩=some (.slice A2 n2 c2)
def RpW (w:World)(A:Option Addr)(n:Nat)(E N:Nat->Int):Prop:=∀ i,i<n->∃ b o,A=some ⟨b,o,none⟩/\b<w.heap.size/\w.cell? ⟨b,o+i * 2,none⟩=some (I (E i))/\w.cell? ⟨b,o+i * 2+1,none⟩=some (I (N i))/\-9223372036854775808<=N i/\N i<=9223372036854775807
section
variable {w w':World} {A:Option Addr} {n B k:Nat} {K E N:Nat→Int}
theorem EvW.below (h:EvW w A n K)(hb:Below B w w')(hB:w.heap.size<=B):EvW w' A n K:=fun i hi=>by
 obtain⟨b,o,en,A1,n1,c1,A2,n2,c2,e,q,x0,x1,x2,x3⟩:=h i hi;have q':b<B:=aS;exact⟨b,o,en,A1,n1,c1,A2,n2,c2,e,by have:=hb.size;omega,(hb.cell (p:=⟨b,_,none⟩) q').trans x0,(hb.cell (p:=⟨b,_,none⟩) q').trans x1,(hb.cell (p:=⟨b,_,none⟩) q').trans x2,(hb.cell (p:=⟨b,_,none⟩) q').trans x3⟩
end
theorem of_any (A B:Option Addr)(n c d:Nat)(Ka Ea Na:Nat->Int)(w:World)(hA:EvW w A n Ka)(hB:RpW w B n Ea Na)(hn:n<=maxLen) :
 Ca 56 #[.slice A n c,.slice B n d] w fun e w'=>e=.returned (.tuple #[.agg #[I ((ofN Ka Ea Na n) 0),I ((ofN Ka Ea Na n) 1),I ((ofN Ka Ea Na n) 2),I ((ofN Ka Ea Na n) 3),I ((ofN Ka Ea Na n) 4),I ((ofN Ka Ea Na n) 5),I ((ofN Ka Ea Na n) 6),I ((ofN Ka Ea Na n) 7),I ((ofN Ka Ea Na n) 8),I ((ofN Ka Ea Na n) 9)],I 0])/\Below w.heap.size w w':=by
 have HA:=aT hA;have HB:=aT hB;unfold maxLen at hn;clear hA hB;go_enter Tryz.func56,Tryz.ntmps56;go_wp2_with fail;go_loopw [7,8,17] (fun _ _ i wr=>∃ k:Nat,k<=n/\i=I (k:Nat)/\Blk wr (w.heap.size+1) 107 [I ((ofN Ka Ea Na k) 0),I ((ofN Ka Ea Na k) 1),I ((ofN Ka Ea Na k) 2),I ((ofN Ka Ea Na k) 3),I ((ofN Ka Ea Na k) 4),I ((ofN Ka Ea Na k) 5),I ((ofN Ka Ea Na k) 6),I ((ofN Ka Ea Na k) 7),I ((ofN Ka Ea Na k) 8),I ((ofN Ka Ea Na k) 9)]/\Blk wr w.heap.size 107 [I (noT 0),I (noT 1),I (noT 2),I (noT 3),I (noT 4),I (noT 5),I (noT 6),I (noT 7),I (noT 8),I (noT 9)]/\Below w.heap.size w wr) (fun _ _ i _=>n - (intOf i).toNat)
 case atStart=>exact⟨0,aS,rfl,Blk.top _ aZ rfl,Blk.alloc (Blk.top _ rfl rfl) _,ba⟩
 case round=>
  obtain⟨k,hk,rfl,ht,hr,hb⟩:=hrel;have HT:=aT ht;have HR:=aT hr;have HBB:=aT hb;have hs:=hb.size;clear ht hr hb
  by_cases hlt:k<n
  · have hkI:(k:Int)<n:=aS;obtain⟨b,o,en,A1,n1,c1,A2,n2,c2,hA,hbl,x0,x1,x2,x3⟩:=(HA.out.below HBB.out aX) k hlt;obtain⟨b',o',hB,hbl',y0,y1,y2,y3⟩:=HB.out k hlt;subst hA hB;have hadd:=fun W=>add45_any (ofN Ka Ea Na k) (Ka k) en A1 A2 n1 c1 n2 c2 (Ea k) (Na k) W ⟨y2,y3⟩
    have hsucc:addT (ofN Ka Ea Na k) (Ka k) (Ea k) (Na k)=ofN Ka Ea Na (k+1):=rfl;rw[hsucc] at hadd;clear hsucc;obtain⟨R1,hR1⟩:∃ R1,R1=ofN Ka Ea Na (k+1):=⟨_,rfl⟩;rw[<- hR1] at hadd;have HR1:=aT hR1;clear hR1;generalize ofN Ka Ea Na k=R0 at *;go_upto_region 7 with fail;have hx:Blk (wr.alloc (.cells #[I (Ka k),I en,.slice A1 n1 c1,.slice A2 n2 c2] 98)) wr.heap.size 98 [I (Ka k),I en,.slice A1 n1 c1,.slice A2 n2 c2]:=Blk.top _ rfl rfl;have ht:=HT.out.alloc (.cells #[I (Ka k),I en,.slice A1 n1 c1,.slice A2 n2 c2] 98);have hr:=HR.out.alloc (.cells #[I (Ka k),I en,.slice A1 n1 c1,.slice A2 n2 c2] 98);have hb:Below w.heap.size w (wr.alloc (.cells #[I (Ka k),I en,.slice A1 n1 c1,.slice A2 n2 c2] 98)):=HBB.out.alloc hs _;have hsz:wr.heap.size<(wr.alloc (.cells #[I (Ka k),I en,.slice A1 n1 c1,.slice A2 n2 c2] 98)).drew.heap.size:=by simp
    refine wp_region_held_drew (S:=fun w'=>Blk w' wr.heap.size 98 [I (Ka k),I en,.slice A1 n1 c1,.slice A2 n2 c2]/\Below w.heap.size w w') bE ⟨hx.drew,hb.drew⟩ (fun hHeld=>?_);replace hx:=hx.drew;replace ht:=ht.drew;replace hr:=hr.drew;replace hb:=hb.drew;generalize World.drew (wr.alloc (.cells #[I (Ka k),I en,.slice A1 n1 c1,.slice A2 n2 c2] 98))=W at *;have Y0:=aT (fun (V:World) (h:Below w.heap.size w V)=>(h.cell (p:=⟨b',o'+k * 2,none⟩) hbl').trans y0);have Y1:=aT (fun (V:World) (h:Below w.heap.size w V)=>(h.cell (p:=⟨b',o'+k * 2+1,none⟩) hbl').trans y1);clear y0 y1 x0 x1 x2 x3;refine aV 1 ?_ (hy:=Or.inl ⟨by rfl,by (intro w hSw;(try dsimp only at hSw);obtain⟨hX,hY⟩:=hSw;have c0:=hX.cell 0;have c1:=hX.cell 1;have c2:=hX.cell 2;have c3:=hX.cell 3;go_simp;rfl)⟩);refine aV 2 ?_;refine aV 3 ?_;refine aV 4 ?_;refine aV 5 ?_ (hy:=Or.inl ⟨by rfl,by (intro w hSw;(try dsimp only at hSw);obtain⟨hX,hY⟩:=hSw;have q0:=Y0.out _ hY;have q1:=Y1.out _ hY;go_simp;rfl)⟩);refine bI 0 (fun K hK=>?_);obtain⟨x0,x1,x2,x3,x4,x5,x6,x7,x8,x9⟩:=gP ht;go_simp;refine hK.out _ _ (⟨hx,hb⟩) (fun hHeld=>?_);clear hK K;refine bu ?_;clear x0 x1 x2 x3 x4 x5 x6 x7 x8 x9;refine bI 6 (fun K hK=>?_);go_simp
    (go_at_call 135;(with_reducible refine (hadd _).mono ?_);rintro e w5 ⟨rfl,hb5⟩)
    replace hx:=hx.below hb5 hx.lt;replace ht:=ht.below hb5 ht.lt;replace hr:=hr.below hb5 hr.lt;replace hb:=hb.trans (hb5.mono aS);have hs5:=hb5.size;refine hK.out _ _ (⟨hx,hb⟩) (fun hHeld=>?_);clear hK K;refine bu ?_;refine bI 7 (fun K hK=>?_);rw[if_pos (by rfl)];refine eO 107 (.tmp 6) (.tmp 28) rfl (w.heap.size+1) 0 #[I (R1 0),I (R1 1),I (R1 2),I (R1 3),I (R1 4),I (R1 5),I (R1 6),I (R1 7),I (R1 8),I (R1 9)] rfl rfl (ht.there 0 10 aZ) bE (all_oneCell_toArray (eP R1)) ?_;intro S1 hS1;replace ht:Blk S1 (w.heap.size+1) 107 [I (R1 0),I (R1 1),I (R1 2),I (R1 3),I (R1 4),I (R1 5),I (R1 6),I (R1 7),I (R1 8),I (R1 9)]:=by rw[hS1];exact ht.setAll rfl
    replace hx:Blk S1 wr.heap.size 98 [I (Ka k),I en,.slice A1 n1 c1,.slice A2 n2 c2]:=by rw[hS1];exact Blk.setCellsFar (by have:=HT.out.lt;omega) _ _ _ hx
    replace hr:Blk S1 w.heap.size 107 [I (noT 0),I (noT 1),I (noT 2),I (noT 3),I (noT 4),I (noT 5),I (noT 6),I (noT 7),I (noT 8),I (noT 9)]:=by rw[hS1];exact Blk.setCellsFar aS _ _ _ hr
    replace hb:Below w.heap.size w S1:=by rw[hS1];exact eN hb aS _ _
    clear hS1;refine hK.out _ _ (⟨hx,hb⟩) (fun hHeld=>?_);clear hK K;refine bu ?_;refine wpAnyH_done bO ?_ _;clear hHeld;have HT1:Blk S1 (w.heap.size+1) 107 [I ((ofN Ka Ea Na (k+1)) 0),I ((ofN Ka Ea Na (k+1)) 1),I ((ofN Ka Ea Na (k+1)) 2),I ((ofN Ka Ea Na (k+1)) 3),I ((ofN Ka Ea Na (k+1)) 4),I ((ofN Ka Ea Na (k+1)) 5),I ((ofN Ka Ea Na (k+1)) 6),I ((ofN Ka Ea Na (k+1)) 7),I ((ofN Ka Ea Na (k+1)) 8),I ((ofN Ka Ea Na (k+1)) 9)]:=by rw[<- HR1.out];exact ht
    go_wp2;go_roundw
    case rel=>first
     | exact⟨k+1,aS,by go_num,HT1,hr,hb⟩
     | ((repeat apply Exists.intro);exact⟨⟨k+1,aS,by go_num,HT1,hr,hb⟩,rfl⟩)
    case measure=>simp[intOf];omega
  · have hkn:k=n:=aS;subst hkn;have ht:=HT.out;have hr:=HR.out;have hb:=HBB.out;obtain⟨R0,hR⟩:∃ R0,R0=ofN Ka Ea Na k:=⟨_,rfl⟩;rw[<- hR] at ht;have HRR:=aT hR;clear hR HT HR HBB;obtain⟨x0,x1,x2,x3,x4,x5,x6,x7,x8,x9⟩:=gP ht;obtain⟨q0,q1,q2,q3,q4,q5,q6,q7,q8,q9⟩:=gP hr;have fr:=hr.frozen;have lr:=hr.lt;go_wp2;refine bodyPost_ret (v:=.tuple #[.agg #[I (R0 0),I (R0 1),I (R0 2),I (R0 3),I (R0 4),I (R0 5),I (R0 6),I (R0 7),I (R0 8),I (R0 9)],I 0]) (by simp[results,Tryz.results56,go_sem,q0,q1,q2,q3,q4,q5,q6,q7,q8,q9]) rfl ?_;exact⟨by rw[HRR.out],ba⟩
theorem run_eq_tally1 (w:World):(Op.equalIn 10000 107 (.agg #[I 1,I 0,I 3,I 0,I 0,I 0,I 0,I 0,I 0,I 0]) (.agg #[I 1,I 0,I 3,I 0,I 0,I 0,I 0,I 0,I 0,I 0])).run Tryz.prog w=.ok true w:=by
 have h:=run_eq_ints (P:=Tryz.prog) w Tryz.underlying3 bE Tryz.underlying107 bE 10 bE bE [1,0,3,0,0,0,0,0,0,0] [1,0,3,0,0,0,0,0,0,0] rfl rfl;rw[am rfl] at h;exact h
theorem awake45 (w:World):Ca 55 #[] w fun e w'=>e=.returned (.bool true)/\Below w.heap.size w w':=by
 have hadd:∀ w:World,Ca 135 #[.agg #[I 0,I 0,I 0,I 0,I 0,I 0,I 0,I 0,I 0,I 0],.agg #[I 2,I 0,.slice none 0 0,.slice none 0 0],.agg #[I 0,I 3]] w fun x w'=>x=.returned (.agg #[I 1,I 0,I 3,I 0,I 0,I 0,I 0,I 0,I 0,I 0])/\Below w.heap.size w w':=fun w=>by
  have:=add45_any noT 2 0 none none 0 0 0 0 0 3 w ⟨aS,aS⟩;rw[show addT noT 2 0 3 0=1 from by decide +kernel,show addT noT 2 0 3 1=0 from by decide +kernel,show addT noT 2 0 3 2=3 from by decide +kernel,show addT noT 2 0 3 3=0 from by decide +kernel,show addT noT 2 0 3 4=0 from by decide +kernel,show addT noT 2 0 3 5=0 from by decide +kernel,show addT noT 2 0 3 6=0 from by decide +kernel,show addT noT 2 0 3 7=0 from by decide +kernel,show addT noT 2 0 3 8=0 from by decide +kernel,show addT noT 2 0 3 9=0 from by decide +kernel] at this;exact this
 have heq:=fun w=>run_eq_tally1 w
 go_enter Tryz.func55,Tryz.ntmps55;go_wp2_with (first | ((go_at_call 135;(with_reducible refine (hadd _).mono ?_);rintro e w1 ⟨rfl,hb1⟩);have B1:=aT hb1;clear hb1) | fail);go_ret;have b1:=B1.out;have s1:=b1.size;exact⟨rfl,ba⟩
open Go.RowKit Go.WideShapes Go.ChangeShapes Go.Deep Go.Joins
section
variable {H:Type} {enc:TypeId × Value→H} {w:World} {base b0:Nat} {held:Bool} {r:Reach} {v:Value} {d:DataW H} {ps:List MemPlace}
theorem args_set40 (hval:Value.okWide Tryz.prog w r b0 92 v)(hd:DataW.Trod enc Tryz.prog w base (fun _=>true) held 92 v d ps) :
 ∃ s r c:Nat,v=.agg #[.int .u8 s,.int .u8 r,.int .u8 c]/\s<256/\r<256/\c<256:=by
 obtain⟨vs,n,rfl,hlen,hf⟩:=nh Tryz.underlying92 bE bE hval hd
 match vs,hlen with
 | [v0,v1,v2],_=>
   obtain⟨u0,y0,e0,t0⟩:=hf 0 _ rfl;obtain⟨u1,y1,e1,t1⟩:=hf 1 _ rfl;obtain⟨u2,y2,e2,t2⟩:=hf 2 _ rfl;injection e0 with e0;injection e1 with e1;injection e2 with e2;subst e0 e1 e2;obtain⟨z0,hz0,_,hw0⟩:=DataW.trod_int Tryz.underlying5 t0;obtain⟨z1,hz1,_,hw1⟩:=DataW.trod_int Tryz.underlying5 t1;obtain⟨z2,hz2,_,hw2⟩:=DataW.trod_int Tryz.underlying5 t2;have hz0:v0=.int .u8 z0:=by simpa using hz0
   have hz1:v1=.int .u8 z1:=by simpa using hz1
   have hz2:v2=.int .u8 z2:=by simpa using hz2
   subst hz0 hz1 hz2;have b0:=bounds_u8 hw0;have b1:=bounds_u8 hw1;have b2:=bounds_u8 hw2;exact⟨z0.toNat,z1.toNat,z2.toNat,by rw[Int.toNat_of_nonneg b0.1,Int.toNat_of_nonneg b1.1,Int.toNat_of_nonneg b2.1],aS,by omega,aS⟩
end
section
variable {s r c:Nat}
theorem of40_any (w:World)(h0:s<256)(h1:r<256)(h2:c<256):Ca 50 #[.agg #[.int .u8 (s:Nat),.int .u8 (r:Nat),.int .u8 (c:Nat)]] w fun e w'=>e=.returned (.agg #[I ((s:Int) % 16+31),I ((s:Int) % 16+31 - (r:Int) % 4),I ((c:Int) % 5+1)])/\Below w.heap.size w w':=by
 go_enter Tryz.func50,Tryz.ntmps50;go_wp2;refine bodyPost_ret (v:=.agg #[I ((s:Int) % 16+31),I ((s:Int) % 16+31 - (r:Int) % 4),I ((c:Int) % 5+1)]) (by simp[results,Tryz.results50,go_sem]) rfl ?_;exact⟨rfl,ba⟩
end
def few28 (x:PA):Prop:=x.n1<=20/\x.n2<=20/\x.n3<=80/\x.n4<=60
theorem few28_yes (x:PA)(r:Int)(w:World)(hf:few28 x):Ca 15 #[.agg #[.slice x.A1 x.n1 x.c1,.slice x.A2 x.n2 x.c2,I r,.slice x.A3 x.n3 x.c3,.slice x.A4 x.n4 x.c4]] w fun e w'=>e=.returned (.bool true)/\Below w.heap.size w w':=by
 obtain⟨h1,h2,h3,h4⟩:=hf;go_enter Tryz.func15,Tryz.ntmps15;go_wp2;go_ret;exact⟨dH kF,ba⟩
theorem few28_no (x:PA)(p:PV)(w:World)(hr:dd w x p)(hf:¬ few28 x):Ca 15 #[.agg #[.slice x.A1 x.n1 x.c1,.slice x.A2 x.n2 x.c2,I p.regs,.slice x.A3 x.n3 x.c3,.slice x.A4 x.n4 x.c4]] w fun e w'=>e=.returned (.bool false)/\Below w.heap.size w w':=by
 obtain⟨_,_,_,_,k1,k2,k3,k4⟩:=hr;unfold maxLen at k1 k2 k3 k4;unfold few28 at hf
 by_cases h1:x.n1<=20
 · by_cases h2:x.n2<=20
   · by_cases h3:x.n3<=80
     · have h4:¬ x.n4<=60:=fun h=>hf ⟨h1,h2,h3,h⟩
       clear hf;go_enter Tryz.func15,Tryz.ntmps15;go_wp2;go_ret;exact⟨dH kF,ba⟩
     · clear hf;go_enter Tryz.func15,Tryz.ntmps15;go_wp2;go_ret;exact⟨dH kF,ba⟩
   · clear hf;go_enter Tryz.func15,Tryz.ntmps15;go_wp2;go_ret;exact⟨dH kF,ba⟩
 · clear hf;go_enter Tryz.func15,Tryz.ntmps15;go_wp2;go_ret;exact⟨dH kF,ba⟩
end Go.Proofs.YtmeebofhlilcmaaGreat
