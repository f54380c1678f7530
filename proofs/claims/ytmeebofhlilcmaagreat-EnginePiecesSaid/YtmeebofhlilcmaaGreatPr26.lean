/- Parts. -/
import Derived.Test.YtmeebofhlilcmaaGreatPr25
import Derived.Lib.BufferMore
set_option linter.unusedVariables false
set_option linter.unusedSimpArgs false
set_option maxRecDepth 100000
set_option maxHeartbeats 0
namespace Go.Proofs.YtmeebofhlilcmaaGreat
open Go.RowKit
section
variable {w0 w w':World} {g:Nat} {a:TA} {cells ins:List Int} {s:VS}
theorem does_op (h:du w0 w g a cells ins s)(op:Int)(ho:7<=op/\op<=20)(ja jb jc:Nat)(k:Int)(ha:ja<a.nr)(hb:jb<a.nr)(hc:jc<a.nr)(hne:ja≠jb)(hnc:ja≠jc)(h64:In64 (ba s.regs jb)) :
 Ca 245 #[.pointer (some ⟨g,0,none⟩),.agg #[I op,I (ja:Nat),I (jb:Nat),I (jc:Nat),I k]] w fun e w'=>e=.returned (I 0)/\du w0 w' g a cells ins (dE cells ins ⟨op,(ja:Nat),(jb:Nat),(jc:Nat),k⟩ s):=by
 have hv:Hid (dE cells ins ⟨op,(ja:Nat),(jb:Nat),(jc:Nat),k⟩ s={ s with regs:=putK s.regs (ja:Nat) (doK op (ba s.regs jb) (ba s.regs jc)),steps:=s.steps+1 }):=by
  show _=_
  unfold dE iB atK;simp only;rw[if_neg aS,if_neg aS,if_neg aS,if_neg aS,if_neg aS,if_neg aS,if_neg aS,if_neg aS,if_pos ho,av,av]
 have hdo:=fun w=>ardo_any op (ba s.regs jb) (ba s.regs jc) w ho h64
 have n1:(op == 1)=false:=by rw[ae];omega
 have n2:(op == 2)=false:=by rw[ae];omega
 have n3:(op == 3)=false:=by rw[ae];omega
 have n5:(op == 5)=false:=by rw[ae];omega
 have n6:(op == 6)=false:=by rw[ae];omega
 have n27:(op == 27)=false:=by rw[ae];omega
 have n21:(op == 21)=false:=by rw[ae];omega
 have n28:(op == 28)=false:=by rw[ae];omega
 have n29:(op == 29)=false:=by rw[ae];omega
 have n32:(op == 32)=false:=by rw[ae];omega
 have n30:(op == 30)=false:=by rw[ae];omega
 have n31:(op == 31)=false:=by rw[ae];omega
 clear ho h64;obtain⟨gr,h0⟩:=cB.start h ha;have O1:cB w0 (w.alloc (.cells #[I op,I (ja:Nat),I (jb:Nat),I (jc:Nat),I k] 144)) g a cells ins s gr/\Blk (w.alloc (.cells #[I op,I (ja:Nat),I (jb:Nat),I (jc:Nat),I k] 144)) w.heap.size 144 [I op,I (ja:Nat),I (jb:Nat),I (jc:Nat),I k]:=⟨h0.box _,Blk.top _ rfl rfl⟩;obtain⟨t0,_,_,_,_,gl,_,_⟩:=h0.facts;clear h h0;generalize hgx:w.heap.size=gx at O1;go_enter Tryz.func245,Tryz.ntmps245;go_upto_region 1 with fail;refine dH (fun W=>cB w0 W g a cells ins s gr/\Blk W gx 144 [I op,I (ja:Nat),I (jb:Nat),I (jc:Nat),I k]) O1 ?_;clear O1 hgx t0 gl;intro w4 O4;obtain⟨D4,X4⟩:=O4;obtain⟨t0,t1,t2,t3,t4,gl,rl,gr0⟩:=D4.facts;obtain⟨x0,x1,x2,x3,x4⟩:=blk5 X4;have xl:=X4.lt;have gxr:gx≠gr:=by
  have hr:=D4.h.r;rw[D4.hA] at hr;obtain⟨cs,hb⟩:=eI (g:=gr) hr rfl;exact X4.ne_ hb aU
 have H4:=aT D4;have X5:=aT X4;clear X4;go_upto_region 3 with fail;obtain⟨ra,fa⟩:=D4.reg ha;obtain⟨rb,fb⟩:=D4.reg hb;obtain⟨rc,fc⟩:=D4.reg hc;clear D4;generalize doK op (ba s.regs jb) (ba s.regs jc)=v at *;generalize ba s.regs jb=v1 at *;generalize ba s.regs jc=v2 at *;generalize ba s.regs ja=u at *;have s0:=(cN w4 (p:=⟨gr,ja,none⟩) (q:=⟨gx,0,none⟩) (I v) cy).trans x0;have s1:=(cN w4 (p:=⟨gr,ja,none⟩) (q:=⟨gx,1,none⟩) (I v) cy).trans x1;have s2:=(cN w4 (p:=⟨gr,ja,none⟩) (q:=⟨gx,2,none⟩) (I v) cy).trans x2;have s3:=(cN w4 (p:=⟨gr,ja,none⟩) (q:=⟨gx,3,none⟩) (I v) cy).trans x3;have s4:=(cN w4 (p:=⟨gr,ja,none⟩) (q:=⟨gr,jb,none⟩) (I v) cy).trans rb;have s5:=(cN w4 (p:=⟨gr,ja,none⟩) (q:=⟨gr,jc,none⟩) (I v) cy).trans rc;go_region_held3 (fun w'=>w'.cell? ⟨gx,1,none⟩=some (I (ja:Nat))/\w'.cell? ⟨gx,0,none⟩=some (I op)/\w'.cell? ⟨gx,2,none⟩=some (I (jb:Nat))/\w'.cell? ⟨gx,3,none⟩=some (I (jc:Nat))/\w'.cell? ⟨gr,jb,none⟩=some (I v1)/\w'.cell? ⟨gr,jc,none⟩=some (I v2)) (first | go_keep | (refine⟨?_,?_,?_,?_,?_,?_⟩ <;> assumption)) (first | (go_at_call 288;go_call (hdo _) as e w5 ⟨rfl,rfl⟩) | fail);go_wp2;go_ret;exact⟨rfl,H4.out.drew.h.setR H4.out.hA ja v _ rfl _ ed ed ed⟩
theorem does_30 (h:du w0 w g a cells ins s)(op:Int)(ho:op=30\/op=31)(ja:Nat)(b c k:Int)(ha:ja<a.nr)(hk:0<=k) :
 Ca 245 #[.pointer (some ⟨g,0,none⟩),.agg #[I op,I (ja:Nat),I b,I c,I k]] w fun e w'=>e=.returned (I (fI ⟨op,(ja:Nat),b,c,k⟩ s.regs:Nat))/\du w0 w' g a cells ins (dE cells ins ⟨op,(ja:Nat),b,c,k⟩ s):=by
 have hv:dE cells ins ⟨op,(ja:Nat),b,c,k⟩ s={ s with steps:=s.steps+1 }:=by rcases ho with rfl | rfl <;> rfl
 have hov:((fI ⟨op,(ja:Nat),b,c,k⟩ s.regs:Nat):Int)=if (op=30/\ba s.regs ja=0)\/(op=31/\ba s.regs ja≠0) then k else 0:=by
  unfold fI atK;simp only[av]
  split
  · omega
  · rfl
 rw[hv,hov];have hst:∀ {W:World},du w0 W g a cells ins s->du w0 W g a cells ins { s with steps:=s.steps+1 }:=fun h=>⟨h.bel,h.t,h.gl,h.r,h.n,h.o,h.c,h.i,h.rn,h.ro,h.no_⟩
 clear hv hov
 by_cases hz:ba s.regs ja=0
 · have HZ:=aT hz;have hzb:(ba s.regs ja == 0)=true:=by rw[hz];rfl
   rcases ho with rfl | rfl
   · rw[if_pos (.inl ⟨rfl,hz⟩)];clear hz;obtain⟨gr,h0⟩:=cB.start h ha;have O1:cB w0 (w.alloc (.cells #[I 30,I (ja:Nat),I b,I c,I k] 144)) g a cells ins s gr/\Blk (w.alloc (.cells #[I 30,I (ja:Nat),I b,I c,I k] 144)) w.heap.size 144 [I 30,I (ja:Nat),I b,I c,I k]:=⟨h0.box _,Blk.top _ rfl rfl⟩;obtain⟨t0,_,_,_,_,gl,_,_⟩:=h0.facts;clear h h0;generalize hgx:w.heap.size=gx at O1;go_enter Tryz.func245,Tryz.ntmps245;go_upto_region 1 with fail;refine dH (fun W=>cB w0 W g a cells ins s gr/\Blk W gx 144 [I 30,I (ja:Nat),I b,I c,I k]) O1 ?_;clear O1 hgx t0 gl;intro w4 O4;obtain⟨D4,X4⟩:=O4;obtain⟨t0,t1,t2,t3,t4,gl,rl,gr0⟩:=D4.facts;obtain⟨x0,x1,x2,x3,x4⟩:=blk5 X4;have xl:=X4.lt;have gxr:gx≠gr:=by
      have hr:=D4.h.r;rw[D4.hA] at hr;obtain⟨cs,hb⟩:=eI (g:=gr) hr rfl;exact X4.ne_ hb aU
     have H4:=aT D4;have X5:=aT X4;clear X4;go_upto_region 26 with fail;obtain⟨ra,fa⟩:=D4.reg ha;clear D4;generalize ba s.regs ja=v at *;go_region_held3 (fun w'=>w'.cell? ⟨gx,1,none⟩=some (I (ja:Nat))/\w'.cell? ⟨gx,0,none⟩=some (I 30)/\w'.cell? ⟨gr,ja,none⟩=some (I v)) (first | go_keep | (refine⟨?_,?_,?_⟩ <;> assumption)) (fail);go_wp2;go_ret;exact⟨rfl,hst H4.out.drew.h⟩
   · rw[if_neg aS];clear hz;obtain⟨gr,h0⟩:=cB.start h ha;have O1:cB w0 (w.alloc (.cells #[I 31,I (ja:Nat),I b,I c,I k] 144)) g a cells ins s gr/\Blk (w.alloc (.cells #[I 31,I (ja:Nat),I b,I c,I k] 144)) w.heap.size 144 [I 31,I (ja:Nat),I b,I c,I k]:=⟨h0.box _,Blk.top _ rfl rfl⟩;obtain⟨t0,_,_,_,_,gl,_,_⟩:=h0.facts;clear h h0;generalize hgx:w.heap.size=gx at O1;go_enter Tryz.func245,Tryz.ntmps245;go_upto_region 1 with fail;refine dH (fun W=>cB w0 W g a cells ins s gr/\Blk W gx 144 [I 31,I (ja:Nat),I b,I c,I k]) O1 ?_;clear O1 hgx t0 gl;intro w4 O4;obtain⟨D4,X4⟩:=O4;obtain⟨t0,t1,t2,t3,t4,gl,rl,gr0⟩:=D4.facts;obtain⟨x0,x1,x2,x3,x4⟩:=blk5 X4;have xl:=X4.lt;have gxr:gx≠gr:=by
      have hr:=D4.h.r;rw[D4.hA] at hr;obtain⟨cs,hb⟩:=eI (g:=gr) hr rfl;exact X4.ne_ hb aU
     have H4:=aT D4;have X5:=aT X4;clear X4;go_upto_region 26 with fail;obtain⟨ra,fa⟩:=D4.reg ha;clear D4;generalize ba s.regs ja=v at *;go_region_held3 (fun w'=>w'.cell? ⟨gx,1,none⟩=some (I (ja:Nat))/\w'.cell? ⟨gx,0,none⟩=some (I 31)/\w'.cell? ⟨gr,ja,none⟩=some (I v)) (first | go_keep | (refine⟨?_,?_,?_⟩ <;> assumption)) (fail);go_wp2;go_ret;exact⟨rfl,hst H4.out.drew.h⟩
 · have HZ:=aT hz;have hzb:(ba s.regs ja == 0)=false:=by rw[ae];exact hz
   rcases ho with rfl | rfl
   · rw[if_neg aS];clear hz;obtain⟨gr,h0⟩:=cB.start h ha;have O1:cB w0 (w.alloc (.cells #[I 30,I (ja:Nat),I b,I c,I k] 144)) g a cells ins s gr/\Blk (w.alloc (.cells #[I 30,I (ja:Nat),I b,I c,I k] 144)) w.heap.size 144 [I 30,I (ja:Nat),I b,I c,I k]:=⟨h0.box _,Blk.top _ rfl rfl⟩;obtain⟨t0,_,_,_,_,gl,_,_⟩:=h0.facts;clear h h0;generalize hgx:w.heap.size=gx at O1;go_enter Tryz.func245,Tryz.ntmps245;go_upto_region 1 with fail;refine dH (fun W=>cB w0 W g a cells ins s gr/\Blk W gx 144 [I 30,I (ja:Nat),I b,I c,I k]) O1 ?_;clear O1 hgx t0 gl;intro w4 O4;obtain⟨D4,X4⟩:=O4;obtain⟨t0,t1,t2,t3,t4,gl,rl,gr0⟩:=D4.facts;obtain⟨x0,x1,x2,x3,x4⟩:=blk5 X4;have xl:=X4.lt;have gxr:gx≠gr:=by
      have hr:=D4.h.r;rw[D4.hA] at hr;obtain⟨cs,hb⟩:=eI (g:=gr) hr rfl;exact X4.ne_ hb aU
     have H4:=aT D4;have X5:=aT X4;clear X4;go_upto_region 26 with fail;obtain⟨ra,fa⟩:=D4.reg ha;clear D4;generalize ba s.regs ja=v at *;go_region_held3 (fun w'=>w'.cell? ⟨gx,1,none⟩=some (I (ja:Nat))/\w'.cell? ⟨gx,0,none⟩=some (I 30)/\w'.cell? ⟨gr,ja,none⟩=some (I v)) (first | go_keep | (refine⟨?_,?_,?_⟩ <;> assumption)) (fail);go_wp2;go_ret;exact⟨rfl,hst H4.out.drew.h⟩
   · rw[if_pos (.inr ⟨rfl,hz⟩)];clear hz;obtain⟨gr,h0⟩:=cB.start h ha;have O1:cB w0 (w.alloc (.cells #[I 31,I (ja:Nat),I b,I c,I k] 144)) g a cells ins s gr/\Blk (w.alloc (.cells #[I 31,I (ja:Nat),I b,I c,I k] 144)) w.heap.size 144 [I 31,I (ja:Nat),I b,I c,I k]:=⟨h0.box _,Blk.top _ rfl rfl⟩;obtain⟨t0,_,_,_,_,gl,_,_⟩:=h0.facts;clear h h0;generalize hgx:w.heap.size=gx at O1;go_enter Tryz.func245,Tryz.ntmps245;go_upto_region 1 with fail;refine dH (fun W=>cB w0 W g a cells ins s gr/\Blk W gx 144 [I 31,I (ja:Nat),I b,I c,I k]) O1 ?_;clear O1 hgx t0 gl;intro w4 O4;obtain⟨D4,X4⟩:=O4;obtain⟨t0,t1,t2,t3,t4,gl,rl,gr0⟩:=D4.facts;obtain⟨x0,x1,x2,x3,x4⟩:=blk5 X4;have xl:=X4.lt;have gxr:gx≠gr:=by
      have hr:=D4.h.r;rw[D4.hA] at hr;obtain⟨cs,hb⟩:=eI (g:=gr) hr rfl;exact X4.ne_ hb aU
     have H4:=aT D4;have X5:=aT X4;clear X4;go_upto_region 26 with fail;obtain⟨ra,fa⟩:=D4.reg ha;clear D4;generalize ba s.regs ja=v at *;go_region_held3 (fun w'=>w'.cell? ⟨gx,1,none⟩=some (I (ja:Nat))/\w'.cell? ⟨gx,0,none⟩=some (I 31)/\w'.cell? ⟨gr,ja,none⟩=some (I v)) (first | go_keep | (refine⟨?_,?_,?_⟩ <;> assumption)) (fail);go_wp2;go_ret;exact⟨rfl,hst H4.out.drew.h⟩
theorem intAt_put {l:List Int}{j k:Nat}{v:Int}(h:j≠k):ba (putK l (j:Nat) v) k=ba l k:=by
 unfold ba putK;rw[av,ag,ag,List.getElem?_set,if_neg h]
theorem put_put {l:List Int}{j:Nat}{u v:Int}:putK (putK l (j:Nat) u) (j:Nat) v=putK l (j:Nat) v:=by
 unfold putK;rw[List.set_set]
theorem does_27 (h:du w0 w g a cells ins s)(ja jb jc jk:Nat)(ha:ja<a.nr)(hb:jb<a.nr)(hc:jc<a.nr)(hk:jk<a.nr)(hne:ja≠jb)(hnc:ja≠jc)(hnk:ja≠jk) :
 Ca 245 #[.pointer (some ⟨g,0,none⟩),.agg #[I 27,I (ja:Nat),I (jb:Nat),I (jc:Nat),I (jk:Nat)]] w fun e w'=>e=.returned (I 0)/\du w0 w' g a cells ins (dE cells ins ⟨27,(ja:Nat),(jb:Nat),(jc:Nat),(jk:Nat)⟩ s):=by
 have hv:Hid (dE cells ins ⟨27,(ja:Nat),(jb:Nat),(jc:Nat),(jk:Nat)⟩ s={ s with regs:=putK s.regs (ja:Nat) (if ba s.regs jb≠0 then ba s.regs jc else ba s.regs jk),steps:=s.steps+1 }):=rfl;obtain⟨gr,h0⟩:=cB.start h ha;have O1:cB w0 (w.alloc (.cells #[I 27,I (ja:Nat),I (jb:Nat),I (jc:Nat),I (jk:Nat)] 144)) g a cells ins s gr/\Blk (w.alloc (.cells #[I 27,I (ja:Nat),I (jb:Nat),I (jc:Nat),I (jk:Nat)] 144)) w.heap.size 144 [I 27,I (ja:Nat),I (jb:Nat),I (jc:Nat),I (jk:Nat)]:=⟨h0.box _,Blk.top _ rfl rfl⟩;obtain⟨t0,_,_,_,_,gl,_,_⟩:=h0.facts;clear h h0;generalize hgx:w.heap.size=gx at O1;go_enter Tryz.func245,Tryz.ntmps245;go_upto_region 1 with fail;refine dH (fun W=>cB w0 W g a cells ins s gr/\Blk W gx 144 [I 27,I (ja:Nat),I (jb:Nat),I (jc:Nat),I (jk:Nat)]) O1 ?_;clear O1 hgx t0 gl;intro w4 O4;obtain⟨D4,X4⟩:=O4;obtain⟨t0,t1,t2,t3,t4,gl,rl,gr0⟩:=D4.facts;obtain⟨x0,x1,x2,x3,x4⟩:=blk5 X4;have xl:=X4.lt;have gxr:gx≠gr:=by
  have hr:=D4.h.r;rw[D4.hA] at hr;obtain⟨cs,hb⟩:=eI (g:=gr) hr rfl;exact X4.ne_ hb aU
 have H4:=aT D4;have X5:=aT X4;clear X4;go_upto_region 13 with fail;obtain⟨ra,fa⟩:=D4.reg ha;obtain⟨rb,fb⟩:=D4.reg hk;clear D4;obtain⟨v,hvk⟩:∃ v,ba s.regs jk=v:=⟨_,rfl⟩;have HVK:=aT hvk;rw[hvk] at rb;clear hvk;generalize ba s.regs ja=u at *;have s1:=(cN w4 (p:=⟨gr,ja,none⟩) (q:=⟨gx,1,none⟩) (I v) cy).trans x1;have s2:=(cN w4 (p:=⟨gr,ja,none⟩) (q:=⟨gx,4,none⟩) (I v) cy).trans x4;have s3:=(cN w4 (p:=⟨gr,ja,none⟩) (q:=⟨gr,jk,none⟩) (I v) cy).trans rb;have O5:cB w0 (w4.setCell ⟨gr,ja,none⟩ (I v)).drew g a cells ins { s with regs:=putK s.regs (ja:Nat) v } gr/\Blk (w4.setCell ⟨gr,ja,none⟩ (I v)).drew gx 144 [I 27,I (ja:Nat),I (jb:Nat),I (jc:Nat),I (jk:Nat)] :=
  ⟨⟨(H4.out.h.setR H4.out.hA ja v _ rfl { s with regs:=putK s.regs (ja:Nat) v } rfl rfl rfl).drew,H4.out.hA⟩,(X5.out.far (p:=⟨gr,ja,none⟩) gxr _).drew⟩
 go_region_held3 (fun w'=>w'.cell? ⟨gx,1,none⟩=some (I (ja:Nat))/\w'.cell? ⟨gx,4,none⟩=some (I (jk:Nat))/\w'.cell? ⟨gr,jk,none⟩=some (I v)) (first | go_keep | (refine⟨?_,?_,?_⟩ <;> assumption)) (fail);go_upto_region 14 with fail;refine dH (fun W=>cB w0 W g a cells ins { s with regs:=putK s.regs (ja:Nat) v } gr/\Blk W gx 144 [I 27,I (ja:Nat),I (jb:Nat),I (jc:Nat),I (jk:Nat)]) O5 ?_;clear O5 H4 X5 ra fa rb fb s1 s2 s3 x0 x1 x2 x3 x4 t0 t1 t2 t3 t4 gl rl xl;intro w5 O5;obtain⟨D5,X5⟩:=O5;obtain⟨t0,t1,t2,t3,t4,gl,rl,_⟩:=D5.facts;obtain⟨x0,x1,x2,x3,x4⟩:=blk5 X5;have xl:=X5.lt;obtain⟨ra,fa⟩:=D5.reg ha;obtain⟨rb,fb⟩:=D5.reg hb;obtain⟨rc,fc⟩:=D5.reg hc;simp only[intAt_put hne,intAt_put hnc] at rb rc;have H5:=aT D5;clear D5 X5;generalize ba (putK s.regs (ja:Nat) v) ja=u5 at ra
 by_cases hz:ba s.regs jb=0
 · have hzb:(ba s.regs jb != 0)=false:=by rw[hz];rfl
   have hv2:Hid (dE cells ins ⟨27,(ja:Nat),(jb:Nat),(jc:Nat),(jk:Nat)⟩ s={ s with regs:=putK s.regs (ja:Nat) v,steps:=s.steps+1 }):=by
    show _=_
    rw[hv.out,if_neg aS,HVK.out]
   clear hz hv;generalize ba s.regs jb=vb at *;go_wp2_with fail;go_ret;rw[hv2.out];exact⟨rfl,H5.out.h.bel,H5.out.h.t,H5.out.h.gl,H5.out.h.r,H5.out.h.n,H5.out.h.o,H5.out.h.c,H5.out.h.i,H5.out.h.rn,H5.out.h.ro,H5.out.h.no_⟩
 · have hzb:(ba s.regs jb != 0)=true:=by rw[af];exact hz
   have hv2:Hid (dE cells ins ⟨27,(ja:Nat),(jb:Nat),(jc:Nat),(jk:Nat)⟩ s={ s with regs:=putK s.regs (ja:Nat) (ba s.regs jc),steps:=s.steps+1 }):=by
    show _=_
    rw[hv.out,if_pos hz]
   clear hz hv;generalize ba s.regs jb=vb at *;generalize ba s.regs jc=vc at *;have s1:=(cN w5 (p:=⟨gr,ja,none⟩) (q:=⟨gx,1,none⟩) (I vc) cy).trans x1;have s2:=(cN w5 (p:=⟨gr,ja,none⟩) (q:=⟨gx,3,none⟩) (I vc) cy).trans x3;have s3:=(cN w5 (p:=⟨gr,ja,none⟩) (q:=⟨gr,jc,none⟩) (I vc) cy).trans rc;go_upto_region 15 with fail;go_region_held3 (fun w'=>w'.cell? ⟨gx,1,none⟩=some (I (ja:Nat))/\w'.cell? ⟨gx,3,none⟩=some (I (jc:Nat))/\w'.cell? ⟨gr,jc,none⟩=some (I vc)) (first | go_keep | (refine⟨?_,?_,?_⟩ <;> assumption)) (fail);go_wp2_with fail;go_ret;exact⟨rfl,H5.out.drew.h.setR H5.out.hA ja vc _ rfl _ (by rw[hv2.out];exact put_put.symm) (by rw[hv2.out]) (by rw[hv2.out])⟩
theorem fq {z:Int}(h:0<=z):∃ j:Nat,z=(j:Nat):=⟨z.toNat,aS⟩
theorem does_any {p:PV}{i:Nat}{x:Ins}(hs:lq p i x)(h:du w0 w g a cells ins s)(hr:(a.nr:Int)=p.regs)(hc:a.nc=p.cells.length)(hn:a.nn=p.cells.length)(hi:a.ni=p.ins.length)(ho:a.no=p.outs.length)(h64:∀ z ∈ s.regs,In64 z) :
 Ca 245 #[.pointer (some ⟨g,0,none⟩),.agg #[I x.op,I x.a,I x.b,I x.c,I x.k]] w fun e w'=>e=.returned (I (fI x s.regs:Nat))/\du w0 w' g a cells ins (dE cells ins x s):=by
 obtain⟨op,xa,xb,xc,xk⟩:=x;obtain⟨a0,a1,hb,hcc,h27,h21,h28,h29,h30,hab,hac,hak,hop⟩:=hs;simp only at a0 a1 hb hcc h27 h21 h28 h29 h30 hab hac hak hop;obtain⟨ja,rfl⟩:=fq a0;have ha:ja<a.nr:=aS;have hov:¬ (op=30\/op=31)->fI ⟨op,(ja:Nat),xb,xc,xk⟩ s.regs=0:=fun q=>by
  show (if (op=30/\atK s.regs (ja:Nat)=0)\/(op=31/\atK s.regs (ja:Nat)≠0) then xk.toNat else 0)=0
  rw[if_neg (fun h=>q (h.elim (fun e=>.inl e.1) (fun e=>.inr e.1)))]
 rcases hop with q | q | q | q | q | q | q | q | q | q | q
 · rw[hov aS];exact does_1 h op (.inl q) ja xb xc xk ha
 · rw[hov aS];exact does_1 h op (.inr q) ja xb xc xk ha
 · rw[hov aS];obtain⟨b0,b1⟩:=hb (.inl q);have n1:=hab (.inl q);obtain⟨jb,rfl⟩:=fq b0;subst q;exact does_3 h ja jb xc xk ha aS aS
 · rw[hov aS];obtain⟨b0,b1⟩:=hb (.inr (.inl q));have n1:=hab (.inr (.inl q));obtain⟨jb,rfl⟩:=fq b0
   by_cases q7:7<=op
   · obtain⟨c0,c1⟩:=hcc (.inl ⟨q7,q.2⟩);have n2:=hac (.inl ⟨q7,q.2⟩);obtain⟨jc,rfl⟩:=fq c0;refine does_op h op ⟨q7,q.2⟩ ja jb jc xk ha aS aS aS aS ?_;have:=jA h64 (jb:Nat);unfold atK at this
     rwa [av] at this
   · exact does_5 h op aS ja jb xc xk ha aS aS
 · rw[hov aS];obtain⟨k0,k1⟩:=h21 (.inl q);obtain⟨jk,rfl⟩:=fq k0;subst q;exact does_21 h ja xb xc jk ha aS
 · rw[hov aS];obtain⟨b0,b1⟩:=hb (.inr (.inr q));obtain⟨c0,c1⟩:=hcc (.inr q);obtain⟨⟨k0,k1⟩,n1,n2⟩:=h27 q;have n3:=hak q;obtain⟨jb,rfl⟩:=fq b0;obtain⟨jc,rfl⟩:=fq c0;obtain⟨jk,rfl⟩:=fq k0;subst q;exact does_27 h ja jb jc jk ha aS aS aS aS aS aS
 · rw[hov aS];obtain⟨k0,k1⟩:=h28 q;obtain⟨jk,rfl⟩:=fq k0;subst q;exact does_28 h ja xb xc jk ha aS
 · rw[hov aS];obtain⟨k0,k1⟩:=h29 q;obtain⟨jk,rfl⟩:=fq k0;subst q;exact does_29 h ja xb xc jk ha aS
 · exact does_30 h op (.inl q) ja xb xc xk ha (h30 (.inl q)).1
 · exact does_30 h op (.inr q) ja xb xc xk ha (h30 (.inr q)).1
 · rw[hov aS];obtain⟨k0,k1⟩:=h21 (.inr q);obtain⟨jk,rfl⟩:=fq k0;subst q;exact does_32 h ja xb xc jk ha aS
end
theorem elemCellC:dO Tryz.prog 23 187 (.agg #[I 0,I 0]) 2 16:=dO.mk' Tryz.underlying23 bQ rfl aU
theorem elemInsC:dO Tryz.prog 24 144 (.agg #[I 0,I 0,I 0,I 0,I 0]) 5 40:=dO.mk' Tryz.underlying24 bQ rfl aU
theorem cellE_oneC (x:Int × Int):∀ u ∈ cellE x,u.oneCell'=true:=by
 intro u hu;simp only[cellE,List.mem_cons,List.not_mem_nil,or_false] at hu;rcases hu with rfl | rfl <;> rfl
theorem insE_oneC (x:Ins):∀ u ∈ insE x,u.oneCell'=true:=by
 intro u hu;simp only[insE,List.mem_cons,List.not_mem_nil,or_false] at hu;rcases hu with rfl | rfl | rfl | rfl | rfl <;> rfl
theorem OwS.empty {α:Type}(size:Nat)(enc:α->List Value)(w:World)(e:TypeId):OwS size enc (w.alloc (.cells #[] e)) w.heap.size e (some ⟨w.heap.size,0,none⟩) 0 0 []:=by
 refine⟨rfl,by simp,.inr ⟨w.heap.size,0,#[],rfl,Nat.le_refl _,heap_alloc_new w _,Nat.le_refl _,by unfold maxLen;omega,by simp,by simp⟩⟩
theorem jV (A:Option Addr)(n c:Nat)(l:List Int)(w:World)(hl:RI w A n l)(hn:n<=100000) :
 Ca 145 #[.slice A n c] w fun e w'=>∃ A' c',e=.returned (.slice A' n c')/\Ow iv w' w.heap.size 3 A' n c' l/\Below w.heap.size w w':=by
 cases A with
 | none=>
   have h0:n=0:=by
    by_cases q:0<n
    · obtain⟨b,o,e,_⟩:=hl.2 q;cases e
    · omega
   subst h0;have hl0:=List.eq_nil_of_length_eq_zero hl.1;subst hl0;have hnil:∀ W,(binOp .eql 22 (.slice none 0 c) (.slice none 0 0)).run Tryz.prog W=.ok (.bool true) W:=fun W=>Lib.run_eql_slice_nil_nil W 0 c Tryz.underlying22
   clear hl;go_enter Tryz.func145,Tryz.ntmps145;go_wp2;go_ret;exact⟨none,0,rfl,Ow.nil _ _ _ _,Below.refl _ _⟩
 | some ad=>
   have HL:=aT hl;have HE:=aT (show ([]:List Int) ++ l=l from rfl);have hnil:∀ W,(binOp .eql 22 (.slice (some ad) n c) (.slice none 0 0)).run Tryz.prog W=.ok (.bool false) W:=fun W=>Lib.run_eql_slice_some_nil W ad n c Tryz.underlying22
   clear hl;go_enter Tryz.func145,Tryz.ntmps145;go_wp2_with (first | (at_builtin;refine dF rfl rfl dV eS (s:=.tmp 5) (N:=n) (L:=l) rfl (Ow.new w 3 #[] [] rfl aU) rfl (k:=l) (HL.out.below (B:=w.heap.size) ((Below.refl _ _).alloc aV _) aV).rd aS HE.out bO aS aZ ?_;intro A2 c2 w2 hown2 hg2 hat2 hb2;have b2:Below w.heap.size w w2:=((Below.refl _ _).alloc aV _).trans hb2) | fail);go_ret;exact⟨A2,c2,rfl,hown2,b2⟩
theorem clone_cells (A:Option Addr)(n c:Nat)(l:List (Int × Int))(w:World)(hl:RdS 2 cellE w A n l)(hn:n<=100000) :
 Ca 197 #[.slice A n c] w fun e w'=>∃ A' c',e=.returned (.slice A' n c')/\OwS 2 cellE w' w.heap.size 187 A' n c' l/\Below w.heap.size w w':=by
 cases A with
 | none=>
   have h0:n=0:=by
    by_cases q:0<n
    · obtain⟨b,o,e,_⟩:=hl.2.2 aS;cases e
    · omega
   subst h0;have hl0:=List.eq_nil_of_length_eq_zero hl.1;subst hl0;have hnil:∀ W,(binOp .eql 23 (.slice none 0 c) (.slice none 0 0)).run Tryz.prog W=.ok (.bool true) W:=fun W=>Lib.run_eql_slice_nil_nil W 0 c Tryz.underlying23
   clear hl;go_enter Tryz.func197,Tryz.ntmps197;go_wp2;go_ret;exact⟨none,0,rfl,OwS.nil _ _ _ _ _,Below.refl _ _⟩
 | some ad=>
   have HL:=aT hl;have HE:=aT (show ([]:List (Int × Int)) ++ l=l from rfl);have hnil:∀ W,(binOp .eql 23 (.slice (some ad) n c) (.slice none 0 0)).run Tryz.prog W=.ok (.bool false) W:=fun W=>Lib.run_eql_slice_some_nil W ad n c Tryz.underlying23
   clear hl;go_enter Tryz.func197,Tryz.ntmps197;go_wp2_with (first | (at_builtin;refine oE rfl rfl elemCellC cellE_oneC (s:=.tmp 5) (N:=n) (L:=l) rfl (OwS.empty 2 cellE w 187) rfl (k:=l) (HL.out.below (b:=w.heap.size) ((Below.refl _ _).alloc aV _) aV) aS HE.out bO aS aZ ?_;intro A2 c2 w2 hown2 hg2 hat2 hb2;have b2:Below w.heap.size w w2:=((Below.refl _ _).alloc aV _).trans hb2) | fail);go_ret;exact⟨A2,c2,rfl,hown2,b2⟩
theorem clone_code (A:Option Addr)(n c:Nat)(l:List Ins)(w:World)(hl:RdS 5 insE w A n l)(hn:n<=100000) :
 Ca 196 #[.slice A n c] w fun e w'=>∃ A' c',e=.returned (.slice A' n c')/\OwS 5 insE w' w.heap.size 144 A' n c' l/\Below w.heap.size w w':=by
 cases A with
 | none=>
   have h0:n=0:=by
    by_cases q:0<n
    · obtain⟨b,o,e,_⟩:=hl.2.2 aS;cases e
    · omega
   subst h0;have hl0:=List.eq_nil_of_length_eq_zero hl.1;subst hl0;have hnil:∀ W,(binOp .eql 24 (.slice none 0 c) (.slice none 0 0)).run Tryz.prog W=.ok (.bool true) W:=fun W=>Lib.run_eql_slice_nil_nil W 0 c Tryz.underlying24
   clear hl;go_enter Tryz.func196,Tryz.ntmps196;go_wp2;go_ret;exact⟨none,0,rfl,OwS.nil _ _ _ _ _,Below.refl _ _⟩
 | some ad=>
   have HL:=aT hl;have HE:=aT (show ([]:List Ins) ++ l=l from rfl);have hnil:∀ W,(binOp .eql 24 (.slice (some ad) n c) (.slice none 0 0)).run Tryz.prog W=.ok (.bool false) W:=fun W=>Lib.run_eql_slice_some_nil W ad n c Tryz.underlying24
   clear hl;go_enter Tryz.func196,Tryz.ntmps196;go_wp2_with (first | (at_builtin;refine oE rfl rfl elemInsC insE_oneC (s:=.tmp 5) (N:=n) (L:=l) rfl (OwS.empty 5 insE w 144) rfl (k:=l) (HL.out.below (b:=w.heap.size) ((Below.refl _ _).alloc aV _) aV) aS HE.out bO aS aZ ?_;intro A2 c2 w2 hown2 hg2 hat2 hb2;have b2:Below w.heap.size w w2:=((Below.refl _ _).alloc aV _).trans hb2) | fail);go_ret;exact⟨A2,c2,rfl,hown2,b2⟩
def sgn3 (op:Int):Int × Int × Bool:=if fG op then (fE op,fF op,true) else (0,0,false)
theorem pC (op:Int):(op=5\/op=6\/op=7\/op=8\/op=9\/op=10\/op=11\/op=12\/op=13\/op=14\/op=15\/op=16\/op=17\/op=18\/op=19\/op=20)\/(op<5\/20<op):=aS
theorem sgn3_no {op:Int}(h:op<5\/20<op):sgn3 op=(0,0,false):=by
 unfold sgn3 fG;rw[ah aS];rfl
theorem iQ (op:Int)(w:World):Ca 271 #[I op] w fun e w'=>e=.returned (.tuple #[I (sgn3 op).1,I (sgn3 op).2.1,.bool (sgn3 op).2.2])/\w=w':=by
 rcases pC op with h | h
 · rcases h with rfl | rfl | rfl | rfl | rfl | rfl | rfl | rfl | rfl | rfl | rfl | rfl | rfl | rfl | rfl | rfl
   all_goals
    go_enter Tryz.func271,Tryz.ntmps271;go_wp2;go_ret3;exact⟨rfl,rfl⟩
 · rw[sgn3_no h];have b5:(op == 5)=false:=by rw[ae];omega
   have b6:(op == 6)=false:=by rw[ae];omega
   have b7:(op == 7)=false:=by rw[ae];omega
   have b8:(op == 8)=false:=by rw[ae];omega
   have b9:(op == 9)=false:=by rw[ae];omega
   have b10:(op == 10)=false:=by rw[ae];omega
   have b11:(op == 11)=false:=by rw[ae];omega
   have b12:(op == 12)=false:=by rw[ae];omega
   have b13:(op == 13)=false:=by rw[ae];omega
   have b14:(op == 14)=false:=by rw[ae];omega
   have b15:(op == 15)=false:=by rw[ae];omega
   have b16:(op == 16)=false:=by rw[ae];omega
   have b17:(op == 17)=false:=by rw[ae];omega
   have b18:(op == 18)=false:=by rw[ae];omega
   have b19:(op == 19)=false:=by rw[ae];omega
   have b20:(op == 20)=false:=by rw[ae];omega
   clear h;go_enter Tryz.func271,Tryz.ntmps271;go_wp2;go_ret3;exact⟨rfl,rfl⟩
theorem rsign_any (op:Int)(w:World):Ca 174 #[I op] w fun e w'=>e=.returned (.tuple #[I (sgn3 op).1,I (sgn3 op).2.1,.bool (sgn3 op).2.2])/\Below w.heap.size w w':=by
 rcases pC op with h | h
 · rcases h with rfl | rfl | rfl | rfl | rfl | rfl | rfl | rfl | rfl | rfl | rfl | rfl | rfl | rfl | rfl | rfl
   all_goals
    go_enter Tryz.func174,Tryz.ntmps174;go_upto_region 5 with fail;go_region;go_wp2;go_ret3;exact⟨rfl,be⟩
 · rw[sgn3_no h]
   by_cases h5:op<5
   · clear h;go_enter Tryz.func174,Tryz.ntmps174;go_wp2;go_ret3;exact⟨rfl,Below.refl _ _⟩
   · have h20:20<op:=aS;clear h;go_enter Tryz.func174,Tryz.ntmps174;go_wp2;go_ret3;exact⟨rfl,Below.refl _ _⟩
