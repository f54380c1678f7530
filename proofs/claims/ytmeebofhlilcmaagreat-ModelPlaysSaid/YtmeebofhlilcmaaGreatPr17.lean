/- Parts. -/
import Derived.Test.YtmeebofhlilcmaaGreatPr16
import Derived.Lib.BufferMore
set_option linter.unusedVariables false
set_option linter.unusedSimpArgs false
set_option maxRecDepth 100000
set_option maxHeartbeats 0
namespace Go.Proofs.YtmeebofhlilcmaaGreat
variable {j gr:Nat} {l:List Int}
open Go.RowKit
section
variable {w0 w w':World} {g:Nat} {a:TA} {cells ins:List Int} {s:VS}
structure es (w0 w:World)(g:Nat)(a:TA)(cells ins:List Int)(s:VS)(gr:Nat):Prop where
 h:dn w0 w g a cells ins s
 hA:a.Ar=some ⟨gr,0,none⟩
theorem es.start {w0 w:World}{g:Nat}{a:TA}{cells ins:List Int}{s:VS}(h:dn w0 w g a cells ins s)(hj:j<a.nr):∃ gr,es w0 w g a cells ins s gr:=by
 obtain⟨gr,e,_⟩:=h.r.addr aS;exact⟨gr,h,e⟩
theorem es.facts (h:es w0 w g a cells ins s gr):w.cell? ⟨g,0,none⟩=some (.slice (some ⟨gr,0,none⟩) a.nr a.cr)/\w.cell? ⟨g,1,none⟩=some (.slice a.Ac a.nc a.cc)/\w.cell? ⟨g,2,none⟩=some (.slice a.An a.nn a.cn)/\w.cell? ⟨g,3,none⟩=some (.slice a.Ai a.ni a.ci)/\w.cell? ⟨g,4,none⟩=some (.slice a.Ao a.no a.co)/\g<w.heap.size/\gr<w.heap.size/\g≠gr:=by
 have ht:=h.h.t;have hr:=h.h.r;rw[h.hA] at hr;obtain⟨cs,hb⟩:=ir (g:=gr) hr rfl;have e0:=ht.c0;rw[h.hA] at e0;exact⟨e0,ht.cell 1,ht.cell 2,ht.cell 3,ht.cell 4,ht.lt,(hr.lt gr rfl).2,ht.ne_ hb aU⟩
theorem es.reg (h:es w0 w g a cells ins s gr)(hj:j<a.nr):w.cell? ⟨gr,j,none⟩=some (I (bj s.regs j))/\w.frozen? ⟨gr,j,none⟩=false:=by
 have hr:=h.h.r;rw[h.hA] at hr;exact⟨om hr hj,hr.free j⟩
theorem es.box (h:es w0 w g a cells ins s gr)(o:Obj):es w0 (w.alloc o) g a cells ins s gr:=⟨h.h.below ((Below.refl _ _).alloc aW _),h.hA⟩
theorem es.drew (h:es w0 w g a cells ins s gr):es w0 w.drew g a cells ins s gr:=⟨h.h.drew,h.hA⟩
theorem iY {P:Program}{C:Code}{Q:Exit->Act->World->Prop}{e:Act}{gx:Nat}{v0 v1 v2 v3 v4:Value}(h0:es w0 w g a cells ins s gr)(hg:w.heap.size=gx)(h:∀ W,es w0 W g a cells ins s gr->(W.cell? ⟨g,0,none⟩=some (.slice (some ⟨gr,0,none⟩) a.nr a.cr)/\W.cell? ⟨g,1,none⟩=some (.slice a.Ac a.nc a.cc)/\W.cell? ⟨g,2,none⟩=some (.slice a.An a.nn a.cn)/\W.cell? ⟨g,3,none⟩=some (.slice a.Ai a.ni a.ci)/\W.cell? ⟨g,4,none⟩=some (.slice a.Ao a.no a.co)/\g<W.heap.size/\gr<W.heap.size/\g≠gr)->(W.cell? ⟨gx,0,none⟩=some v0/\W.cell? ⟨gx,1,none⟩=some v1/\W.cell? ⟨gx,2,none⟩=some v2/\W.cell? ⟨gx,3,none⟩=some v3/\W.cell? ⟨gx,4,none⟩=some v4)->gx<W.heap.size->gx≠gr->Hid (Blk W gx 144 [v0,v1,v2,v3,v4])->C.wp P Q e W) :
 C.wp P Q e (w.alloc (.cells #[v0,v1,v2,v3,v4] 144)):=by
 subst hg;have D:=h0.box (.cells #[v0,v1,v2,v3,v4] 144);have X:Blk (w.alloc (.cells #[v0,v1,v2,v3,v4] 144)) w.heap.size 144 [v0,v1,v2,v3,v4]:=Blk.top _ rfl rfl;have hr:=D.h.r;rw[D.hA] at hr;obtain⟨cs,hb⟩:=ir (g:=gr) hr rfl;exact h _ D D.facts (blk5 X) X.lt (X.ne_ hb aU) (aT X)
theorem dD (w:World){p q:Addr}(v:Value)(h:p≠q):(w.setCell p v).drew.cell? q=w.cell? q:=World.cell?_setCell_other w p q v h
theorem does_3 (h:dn w0 w g a cells ins s)(ja jb:Nat)(c k:Int)(ha:ja<a.nr)(hb:jb<a.nr)(hne:ja≠jb) :
 Ca 245 #[.pointer (some ⟨g,0,none⟩),.agg #[I 3,I (ja:Nat),I (jb:Nat),I c,I k]] w fun e w'=>e=.returned (I 0)/\dn w0 w' g a cells ins (dO cells ins ⟨3,(ja:Nat),(jb:Nat),c,k⟩ s):=by
 have hv:Hid (dO cells ins ⟨3,(ja:Nat),(jb:Nat),c,k⟩ s={ s with regs:=putK s.regs (ja:Nat) (bj s.regs jb),steps:=s.steps+1 }):=rfl;obtain⟨gr,h0⟩:=es.start h ha;obtain⟨t0,_,_,_,_,gl,_,_⟩:=h0.facts;have H0:=aT h0;clear h h0;obtain⟨gx,hgx⟩:∃ gx,w.heap.size=gx:=⟨_,rfl⟩;go_enter Tryz.func245,Tryz.ntmps245;go_upto_region 1 with fail;refine iY H0.out hgx ?_;clear H0 hgx t0 gl;rintro w4 D4 ⟨t0,t1,t2,t3,t4,gl,rl,gr0⟩ ⟨x0,x1,x2,x3,x4⟩ xl gxr X5;have H4:=aT D4;go_upto_region 8 with fail;obtain⟨ra,fa⟩:=D4.reg ha;obtain⟨rb,fb⟩:=D4.reg hb;clear D4;generalize bj s.regs jb=v at *;generalize bj s.regs ja=u at *;have s1:=(dD w4 (p:=⟨gr,ja,none⟩) (q:=⟨gx,1,none⟩) (I v) dv).trans x1;have s2:=(dD w4 (p:=⟨gr,ja,none⟩) (q:=⟨gx,2,none⟩) (I v) dv).trans x2;have s3:=(dD w4 (p:=⟨gr,ja,none⟩) (q:=⟨gr,jb,none⟩) (I v) dv).trans rb;go_region_held3 (fun w'=>w'.cell? ⟨gx,1,none⟩=some (I (ja:Nat))/\w'.cell? ⟨gx,2,none⟩=some (I (jb:Nat))/\w'.cell? ⟨gr,jb,none⟩=some (I v)) (first | go_keep | (refine⟨?_,?_,?_⟩ <;> assumption)) (fail);go_wp2;go_ret;exact⟨rfl,H4.out.drew.h.setR H4.out.hA ja v _ rfl _ eU eU eU⟩
theorem does_1 (h:dn w0 w g a cells ins s)(op:Int)(ho:op=1\/op=2)(ja:Nat)(b c k:Int)(ha:ja<a.nr) :
 Ca 245 #[.pointer (some ⟨g,0,none⟩),.agg #[I op,I (ja:Nat),I b,I c,I k]] w fun e w'=>e=.returned (I 0)/\dn w0 w' g a cells ins (dO cells ins ⟨op,(ja:Nat),b,c,k⟩ s):=by
 have hv:Hid (dO cells ins ⟨op,(ja:Nat),b,c,k⟩ s={ s with regs:=putK s.regs (ja:Nat) k,steps:=s.steps+1 }):=by rcases ho with rfl | rfl <;> rfl
 rcases ho with rfl | rfl
 all_goals (
  obtain⟨gr,h0⟩:=es.start h ha;obtain⟨t0,_,_,_,_,gl,_,_⟩:=h0.facts;have H0:=aT h0;clear h h0;obtain⟨gx,hgx⟩:∃ gx,w.heap.size=gx:=⟨_,rfl⟩;go_enter Tryz.func245,Tryz.ntmps245;go_upto_region 1 with fail;refine iY H0.out hgx ?_;clear H0 hgx t0 gl;rintro w4 D4 ⟨t0,t1,t2,t3,t4,gl,rl,gr0⟩ ⟨x0,x1,x2,x3,x4⟩ xl gxr X5;have H4:=aT D4;go_upto_region 6 with fail;obtain⟨ra,fa⟩:=D4.reg ha;clear D4;go_wp2;go_ret;exact⟨rfl,H4.out.h.setR H4.out.hA ja k _ rfl _ eU eU eU⟩)
theorem does_5 (h:dn w0 w g a cells ins s)(op:Int)(ho:op=5\/op=6)(ja jb:Nat)(c k:Int)(ha:ja<a.nr)(hb:jb<a.nr)(hne:ja≠jb) :
 Ca 245 #[.pointer (some ⟨g,0,none⟩),.agg #[I op,I (ja:Nat),I (jb:Nat),I c,I k]] w fun e w'=>e=.returned (I 0)/\dn w0 w' g a cells ins (dO cells ins ⟨op,(ja:Nat),(jb:Nat),c,k⟩ s):=by
 have hv:Hid (dO cells ins ⟨op,(ja:Nat),(jb:Nat),c,k⟩ s={ s with regs:=putK s.regs (ja:Nat) (oneK op (bj s.regs jb)),steps:=s.steps+1 }):=by rcases ho with rfl | rfl <;> rfl
 have hone:=fun w=>arone_any op (bj s.regs jb) w ho
 generalize oneK op (bj s.regs jb)=v at hv hone;rcases ho with rfl | rfl
 all_goals (
  obtain⟨gr,h0⟩:=es.start h ha;obtain⟨t0,_,_,_,_,gl,_,_⟩:=h0.facts;have H0:=aT h0;clear h h0;obtain⟨gx,hgx⟩:∃ gx,w.heap.size=gx:=⟨_,rfl⟩;go_enter Tryz.func245,Tryz.ntmps245;go_upto_region 1 with fail;refine iY H0.out hgx ?_;clear H0 hgx t0 gl;rintro w4 D4 ⟨t0,t1,t2,t3,t4,gl,rl,gr0⟩ ⟨x0,x1,x2,x3,x4⟩ xl gxr X5;have H4:=aT D4;go_upto_region 11 with fail;obtain⟨ra,fa⟩:=D4.reg ha;obtain⟨rb,fb⟩:=D4.reg hb;clear D4;generalize bj s.regs jb=v0 at *;generalize bj s.regs ja=u at *;have s0:=(dD w4 (p:=⟨gr,ja,none⟩) (q:=⟨gx,0,none⟩) (I v) dv).trans x0;have s1:=(dD w4 (p:=⟨gr,ja,none⟩) (q:=⟨gx,1,none⟩) (I v) dv).trans x1;have s2:=(dD w4 (p:=⟨gr,ja,none⟩) (q:=⟨gx,2,none⟩) (I v) dv).trans x2;have s3:=(dD w4 (p:=⟨gr,ja,none⟩) (q:=⟨gr,jb,none⟩) (I v) dv).trans rb
  first | (go_region_held3 (fun w'=>w'.cell? ⟨gx,1,none⟩=some (I (ja:Nat))/\w'.cell? ⟨gx,0,none⟩=some (I 5)/\w'.cell? ⟨gx,2,none⟩=some (I (jb:Nat))/\w'.cell? ⟨gr,jb,none⟩=some (I v0)) (first | go_keep | (refine⟨?_,?_,?_,?_⟩ <;> assumption)) (first | (go_at_call 287;go_call (hone _) as e w5 ⟨rfl,rfl⟩) | fail)) | (go_region_held3 (fun w'=>w'.cell? ⟨gx,1,none⟩=some (I (ja:Nat))/\w'.cell? ⟨gx,0,none⟩=some (I 6)/\w'.cell? ⟨gx,2,none⟩=some (I (jb:Nat))/\w'.cell? ⟨gr,jb,none⟩=some (I v0)) (first | go_keep | (refine⟨?_,?_,?_,?_⟩ <;> assumption)) (first | (go_at_call 287;go_call (hone _) as e w5 ⟨rfl,rfl⟩) | fail))
  go_wp2;go_ret;exact⟨rfl,H4.out.drew.h.setR H4.out.hA ja v _ rfl _ eU eU eU⟩)
theorem es.old {n:Nat}{A:Option Addr}(h:es w0 w g a cells ins s gr)(hl:RI w0 A n l)(hj:j<n):∃ b o,A=some ⟨b,o,none⟩/\w.cell? ⟨b,o+j,none⟩=some (I (bj l j))/\b<w0.heap.size/\b≠gr:=by
 obtain⟨b,o,e,hb,hc⟩:=hl.at_ hj;have hr:=h.h.r;rw[h.hA] at hr;exact⟨b,o,e,(h.h.bel.cell (p:=⟨b,o+j,none⟩) hb).trans hc,hb,by have:=(hr.lt gr rfl).1;omega⟩
theorem does_21 (h:dn w0 w g a cells ins s)(ja:Nat)(b c:Int)(jk:Nat)(ha:ja<a.nr)(hk:jk<a.nc) :
 Ca 245 #[.pointer (some ⟨g,0,none⟩),.agg #[I 21,I (ja:Nat),I b,I c,I (jk:Nat)]] w fun e w'=>e=.returned (I 0)/\dn w0 w' g a cells ins (dO cells ins ⟨21,(ja:Nat),b,c,(jk:Nat)⟩ s):=by
 have hv:Hid (dO cells ins ⟨21,(ja:Nat),b,c,(jk:Nat)⟩ s={ s with regs:=putK s.regs (ja:Nat) (bj cells jk),steps:=s.steps+1 }):=rfl;have hc:=h.c;obtain⟨gr,h0⟩:=es.start h ha;obtain⟨t0,_,_,_,_,gl,_,_⟩:=h0.facts;have H0:=aT h0;clear h h0;obtain⟨gx,hgx⟩:∃ gx,w.heap.size=gx:=⟨_,rfl⟩;go_enter Tryz.func245,Tryz.ntmps245;go_upto_region 1 with fail;refine iY H0.out hgx ?_;clear H0 hgx t0 gl;rintro w4 D4 ⟨t0,t1,t2,t3,t4,gl,rl,gr0⟩ ⟨x0,x1,x2,x3,x4⟩ xl gxr X5;have H4:=aT D4;go_upto_region 17 with fail;obtain⟨ra,fa⟩:=D4.reg ha;obtain⟨bb,oo,hAc,rc,hbb,hbr⟩:=D4.old hc hk;rw[hAc] at t1;clear D4 hc;generalize bj cells jk=v at *;generalize bj s.regs ja=u at *;have s0:=(dD w4 (p:=⟨gr,ja,none⟩) (q:=⟨g,1,none⟩) (I v) dv).trans t1;have s1:=(dD w4 (p:=⟨gr,ja,none⟩) (q:=⟨gx,1,none⟩) (I v) dv).trans x1;have s2:=(dD w4 (p:=⟨gr,ja,none⟩) (q:=⟨gx,4,none⟩) (I v) dv).trans x4;have s3:=(dD w4 (p:=⟨gr,ja,none⟩) (q:=⟨bb,oo+jk,none⟩) (I v) dv).trans rc;go_region_held3 (fun w'=>w'.cell? ⟨gx,1,none⟩=some (I (ja:Nat))/\w'.cell? ⟨g,1,none⟩=some (.slice (some ⟨bb,oo,none⟩) a.nc a.cc)/\w'.cell? ⟨gx,4,none⟩=some (I (jk:Nat))/\w'.cell? ⟨bb,oo+jk,none⟩=some (I v)) (first | go_keep | (refine⟨?_,?_,?_,?_⟩ <;> assumption)) (fail);go_wp2;go_ret;exact⟨rfl,H4.out.drew.h.setR H4.out.hA ja v _ rfl _ eU eU eU⟩
theorem does_28 (h:dn w0 w g a cells ins s)(ja:Nat)(b c:Int)(jk:Nat)(ha:ja<a.nr)(hk:jk<a.ni) :
 Ca 245 #[.pointer (some ⟨g,0,none⟩),.agg #[I 28,I (ja:Nat),I b,I c,I (jk:Nat)]] w fun e w'=>e=.returned (I 0)/\dn w0 w' g a cells ins (dO cells ins ⟨28,(ja:Nat),b,c,(jk:Nat)⟩ s):=by
 have hv:Hid (dO cells ins ⟨28,(ja:Nat),b,c,(jk:Nat)⟩ s={ s with regs:=putK s.regs (ja:Nat) (bj ins jk),steps:=s.steps+1 }):=rfl;have hc:=h.i;obtain⟨gr,h0⟩:=es.start h ha;obtain⟨t0,_,_,_,_,gl,_,_⟩:=h0.facts;have H0:=aT h0;clear h h0;obtain⟨gx,hgx⟩:∃ gx,w.heap.size=gx:=⟨_,rfl⟩;go_enter Tryz.func245,Tryz.ntmps245;go_upto_region 1 with fail;refine iY H0.out hgx ?_;clear H0 hgx t0 gl;rintro w4 D4 ⟨t0,t1,t2,t3,t4,gl,rl,gr0⟩ ⟨x0,x1,x2,x3,x4⟩ xl gxr X5;have H4:=aT D4;go_upto_region 19 with fail;obtain⟨ra,fa⟩:=D4.reg ha;obtain⟨bb,oo,hAc,rc,hbb,hbr⟩:=D4.old hc hk;rw[hAc] at t3;clear D4 hc;generalize bj ins jk=v at *;generalize bj s.regs ja=u at *;have s0:=(dD w4 (p:=⟨gr,ja,none⟩) (q:=⟨g,3,none⟩) (I v) dv).trans t3;have s1:=(dD w4 (p:=⟨gr,ja,none⟩) (q:=⟨gx,1,none⟩) (I v) dv).trans x1;have s2:=(dD w4 (p:=⟨gr,ja,none⟩) (q:=⟨gx,4,none⟩) (I v) dv).trans x4;have s3:=(dD w4 (p:=⟨gr,ja,none⟩) (q:=⟨bb,oo+jk,none⟩) (I v) dv).trans rc;go_region_held3 (fun w'=>w'.cell? ⟨gx,1,none⟩=some (I (ja:Nat))/\w'.cell? ⟨g,3,none⟩=some (.slice (some ⟨bb,oo,none⟩) a.ni a.ci)/\w'.cell? ⟨gx,4,none⟩=some (I (jk:Nat))/\w'.cell? ⟨bb,oo+jk,none⟩=some (I v)) (first | go_keep | (refine⟨?_,?_,?_,?_⟩ <;> assumption)) (fail);go_wp2;go_ret;exact⟨rfl,H4.out.drew.h.setR H4.out.hA ja v _ rfl _ eU eU eU⟩
theorem does_29 (h:dn w0 w g a cells ins s)(ja:Nat)(b c:Int)(jk:Nat)(ha:ja<a.nr)(hk:jk<a.no) :
 Ca 245 #[.pointer (some ⟨g,0,none⟩),.agg #[I 29,I (ja:Nat),I b,I c,I (jk:Nat)]] w fun e w'=>e=.returned (I 0)/\dn w0 w' g a cells ins (dO cells ins ⟨29,(ja:Nat),b,c,(jk:Nat)⟩ s):=by
 have hv:Hid (dO cells ins ⟨29,(ja:Nat),b,c,(jk:Nat)⟩ s={ s with out:=putK s.out (jk:Nat) (bj s.regs ja),steps:=s.steps+1 }):=rfl;obtain⟨gr,h0⟩:=es.start h ha;obtain⟨t0,_,_,_,_,gl,_,_⟩:=h0.facts;have H0:=aT h0;clear h h0;obtain⟨gx,hgx⟩:∃ gx,w.heap.size=gx:=⟨_,rfl⟩;go_enter Tryz.func245,Tryz.ntmps245;go_upto_region 1 with fail;refine iY H0.out hgx ?_;clear H0 hgx t0 gl;rintro w4 D4 ⟨t0,t1,t2,t3,t4,gl,rl,gr0⟩ ⟨x0,x1,x2,x3,x4⟩ xl gxr X5;have H4:=aT D4;go_upto_region 21 with fail;obtain⟨ra,fa⟩:=D4.reg ha;obtain⟨go,hAo,_⟩:=D4.h.o.addr aS;have ho:=D4.h.o;rw[hAo] at ho t4;have oc:=om ho hk;have fo:=ho.free jk;obtain⟨cso,hbo⟩:=ir (g:=go) ho rfl;have hgo:go≠gr:=fun e=>D4.h.ro gr (by rw[D4.hA];rfl) (by rw[hAo,e];rfl)
 have hg2:=D4.h.t.ne_ hbo aU;have hgx:=X5.out.ne_ hbo aU;clear D4 ho hbo;generalize bj s.regs ja=v at *;generalize bj s.out jk=u at *;have s0:=(dD w4 (p:=⟨go,jk,none⟩) (q:=⟨g,4,none⟩) (I v) dv).trans t4;have s4:=(dD w4 (p:=⟨go,jk,none⟩) (q:=⟨g,0,none⟩) (I v) dv).trans t0;have s1:=(dD w4 (p:=⟨go,jk,none⟩) (q:=⟨gx,1,none⟩) (I v) dv).trans x1;have s2:=(dD w4 (p:=⟨go,jk,none⟩) (q:=⟨gx,4,none⟩) (I v) dv).trans x4;have s3:=(dD w4 (p:=⟨go,jk,none⟩) (q:=⟨gr,ja,none⟩) (I v) dv).trans ra;go_region_held3 (fun w'=>w'.cell? ⟨gx,1,none⟩=some (I (ja:Nat))/\w'.cell? ⟨g,4,none⟩=some (.slice (some ⟨go,0,none⟩) a.no a.co)/\w'.cell? ⟨gx,4,none⟩=some (I (jk:Nat))/\w'.cell? ⟨gr,ja,none⟩=some (I v)) (first | go_keep | (refine⟨?_,?_,?_,?_⟩ <;> assumption)) (fail);go_wp2;go_ret;exact⟨rfl,H4.out.drew.h.setO hAo jk v _ rfl _ eU eU eU⟩
theorem does_32 (h:dn w0 w g a cells ins s)(ja:Nat)(b c:Int)(jk:Nat)(ha:ja<a.nr)(hk:jk<a.nn) :
 Ca 245 #[.pointer (some ⟨g,0,none⟩),.agg #[I 32,I (ja:Nat),I b,I c,I (jk:Nat)]] w fun e w'=>e=.returned (I 0)/\dn w0 w' g a cells ins (dO cells ins ⟨32,(ja:Nat),b,c,(jk:Nat)⟩ s):=by
 have hv:Hid (dO cells ins ⟨32,(ja:Nat),b,c,(jk:Nat)⟩ s={ s with next:=putK s.next (jk:Nat) (bj s.regs ja),steps:=s.steps+1 }):=rfl;obtain⟨gr,h0⟩:=es.start h ha;obtain⟨t0,_,_,_,_,gl,_,_⟩:=h0.facts;have H0:=aT h0;clear h h0;obtain⟨gx,hgx⟩:∃ gx,w.heap.size=gx:=⟨_,rfl⟩;go_enter Tryz.func245,Tryz.ntmps245;go_upto_region 1 with fail;refine iY H0.out hgx ?_;clear H0 hgx t0 gl;rintro w4 D4 ⟨t0,t1,t2,t3,t4,gl,rl,gr0⟩ ⟨x0,x1,x2,x3,x4⟩ xl gxr X5;have H4:=aT D4;go_upto_region 23 with fail;obtain⟨ra,fa⟩:=D4.reg ha;obtain⟨go,hAo,_⟩:=D4.h.n.addr aS;have ho:=D4.h.n;rw[hAo] at ho t2;have oc:=om ho hk;have fo:=ho.free jk;obtain⟨cso,hbo⟩:=ir (g:=go) ho rfl;have hgo:go≠gr:=fun e=>D4.h.rn gr (by rw[D4.hA];rfl) (by rw[hAo,e];rfl)
 have hg2:=D4.h.t.ne_ hbo aU;have hgx:=X5.out.ne_ hbo aU;clear D4 ho hbo;generalize bj s.regs ja=v at *;generalize bj s.next jk=u at *;have s0:=(dD w4 (p:=⟨go,jk,none⟩) (q:=⟨g,2,none⟩) (I v) dv).trans t2;have s4:=(dD w4 (p:=⟨go,jk,none⟩) (q:=⟨g,0,none⟩) (I v) dv).trans t0;have s1:=(dD w4 (p:=⟨go,jk,none⟩) (q:=⟨gx,1,none⟩) (I v) dv).trans x1;have s2:=(dD w4 (p:=⟨go,jk,none⟩) (q:=⟨gx,4,none⟩) (I v) dv).trans x4;have s3:=(dD w4 (p:=⟨go,jk,none⟩) (q:=⟨gr,ja,none⟩) (I v) dv).trans ra;go_region_held3 (fun w'=>w'.cell? ⟨gx,1,none⟩=some (I (ja:Nat))/\w'.cell? ⟨g,2,none⟩=some (.slice (some ⟨go,0,none⟩) a.nn a.cn)/\w'.cell? ⟨gx,4,none⟩=some (I (jk:Nat))/\w'.cell? ⟨gr,ja,none⟩=some (I v)) (first | go_keep | (refine⟨?_,?_,?_,?_⟩ <;> assumption)) (fail);go_wp2;go_ret;exact⟨rfl,H4.out.drew.h.setN hAo jk v _ rfl _ eU eU eU⟩
end
section
variable {w0 w w':World} {g:Nat} {a:TA} {cells ins:List Int} {s:VS}
theorem does_op (h:dn w0 w g a cells ins s)(op:Int)(ho:7<=op/\op<=20)(ja jb jc:Nat)(k:Int)(ha:ja<a.nr)(hb:jb<a.nr)(hc:jc<a.nr)(hne:ja≠jb)(hnc:ja≠jc)(h64:In64 (bj s.regs jb)) :
 Ca 245 #[.pointer (some ⟨g,0,none⟩),.agg #[I op,I (ja:Nat),I (jb:Nat),I (jc:Nat),I k]] w fun e w'=>e=.returned (I 0)/\dn w0 w' g a cells ins (dO cells ins ⟨op,(ja:Nat),(jb:Nat),(jc:Nat),k⟩ s):=by
 have hv:Hid (dO cells ins ⟨op,(ja:Nat),(jb:Nat),(jc:Nat),k⟩ s={ s with regs:=putK s.regs (ja:Nat) (doK op (bj s.regs jb) (bj s.regs jc)),steps:=s.steps+1 }):=by
  show _=_
  unfold dO giveK atK;simp only;rw[if_neg aS,if_neg aS,if_neg aS,if_neg aS,if_neg aS,if_neg aS,if_neg aS,if_neg aS,if_pos ho,ax,ax]
 have hdo:=fun w=>ardo_any op (bj s.regs jb) (bj s.regs jc) w ho h64
 have n1:(op == 1)=false:=by rw[af];omega
 have n2:(op == 2)=false:=by rw[af];omega
 have n3:(op == 3)=false:=by rw[af];omega
 have n5:(op == 5)=false:=by rw[af];omega
 have n6:(op == 6)=false:=by rw[af];omega
 have n27:(op == 27)=false:=by rw[af];omega
 have n21:(op == 21)=false:=by rw[af];omega
 have n28:(op == 28)=false:=by rw[af];omega
 have n29:(op == 29)=false:=by rw[af];omega
 have n32:(op == 32)=false:=by rw[af];omega
 have n30:(op == 30)=false:=by rw[af];omega
 have n31:(op == 31)=false:=by rw[af];omega
 clear ho h64;obtain⟨gr,h0⟩:=es.start h ha;obtain⟨t0,_,_,_,_,gl,_,_⟩:=h0.facts;have H0:=aT h0;clear h h0;obtain⟨gx,hgx⟩:∃ gx,w.heap.size=gx:=⟨_,rfl⟩;go_enter Tryz.func245,Tryz.ntmps245;go_upto_region 1 with fail;refine iY H0.out hgx ?_;clear H0 hgx t0 gl;rintro w4 D4 ⟨t0,t1,t2,t3,t4,gl,rl,gr0⟩ ⟨x0,x1,x2,x3,x4⟩ xl gxr X5;have H4:=aT D4;go_upto_region 3 with fail;obtain⟨ra,fa⟩:=D4.reg ha;obtain⟨rb,fb⟩:=D4.reg hb;obtain⟨rc,fc⟩:=D4.reg hc;clear D4;generalize doK op (bj s.regs jb) (bj s.regs jc)=v at *;generalize bj s.regs jb=v1 at *;generalize bj s.regs jc=v2 at *;generalize bj s.regs ja=u at *;have s0:=(dD w4 (p:=⟨gr,ja,none⟩) (q:=⟨gx,0,none⟩) (I v) dv).trans x0;have s1:=(dD w4 (p:=⟨gr,ja,none⟩) (q:=⟨gx,1,none⟩) (I v) dv).trans x1;have s2:=(dD w4 (p:=⟨gr,ja,none⟩) (q:=⟨gx,2,none⟩) (I v) dv).trans x2;have s3:=(dD w4 (p:=⟨gr,ja,none⟩) (q:=⟨gx,3,none⟩) (I v) dv).trans x3;have s4:=(dD w4 (p:=⟨gr,ja,none⟩) (q:=⟨gr,jb,none⟩) (I v) dv).trans rb;have s5:=(dD w4 (p:=⟨gr,ja,none⟩) (q:=⟨gr,jc,none⟩) (I v) dv).trans rc;go_region_held3 (fun w'=>w'.cell? ⟨gx,1,none⟩=some (I (ja:Nat))/\w'.cell? ⟨gx,0,none⟩=some (I op)/\w'.cell? ⟨gx,2,none⟩=some (I (jb:Nat))/\w'.cell? ⟨gx,3,none⟩=some (I (jc:Nat))/\w'.cell? ⟨gr,jb,none⟩=some (I v1)/\w'.cell? ⟨gr,jc,none⟩=some (I v2)) (first | go_keep | (refine⟨?_,?_,?_,?_,?_,?_⟩ <;> assumption)) (first | (go_at_call 288;go_call (hdo _) as e w5 ⟨rfl,rfl⟩) | fail);go_wp2;go_ret;exact⟨rfl,H4.out.drew.h.setR H4.out.hA ja v _ rfl _ eU eU eU⟩
theorem does_30 (h:dn w0 w g a cells ins s)(op:Int)(ho:op=30\/op=31)(ja:Nat)(b c k:Int)(ha:ja<a.nr)(hk:0<=k) :
 Ca 245 #[.pointer (some ⟨g,0,none⟩),.agg #[I op,I (ja:Nat),I b,I c,I k]] w fun e w'=>e=.returned (I (iU ⟨op,(ja:Nat),b,c,k⟩ s.regs:Nat))/\dn w0 w' g a cells ins (dO cells ins ⟨op,(ja:Nat),b,c,k⟩ s):=by
 have hv:dO cells ins ⟨op,(ja:Nat),b,c,k⟩ s={ s with steps:=s.steps+1 }:=by rcases ho with rfl | rfl <;> rfl
 have hov:((iU ⟨op,(ja:Nat),b,c,k⟩ s.regs:Nat):Int)=if (op=30/\bj s.regs ja=0)\/(op=31/\bj s.regs ja≠0) then k else 0:=by
  unfold iU atK;simp only[ax]
  split
  · omega
  · rfl
 rw[hv,hov];have hst:∀ {W:World},dn w0 W g a cells ins s->dn w0 W g a cells ins { s with steps:=s.steps+1 }:=fun h=>⟨h.bel,h.t,h.gl,h.r,h.n,h.o,h.c,h.i,h.rn,h.ro,h.no_⟩
 clear hv hov
 by_cases hz:bj s.regs ja=0 <;> rcases ho with rfl | rfl
 all_goals (first | rw[if_pos aS] | rw[if_neg aS])
 all_goals (
  have HZ:=aT hz
  first | (have hzb:(bj s.regs ja == 0)=true:=by rw[hz];rfl) | (have hzb:(bj s.regs ja == 0)=false:=by rw[af];exact hz)
  clear hz;obtain⟨gr,h0⟩:=es.start h ha;obtain⟨t0,_,_,_,_,gl,_,_⟩:=h0.facts;have H0:=aT h0;clear h h0;obtain⟨gx,hgx⟩:∃ gx,w.heap.size=gx:=⟨_,rfl⟩;go_enter Tryz.func245,Tryz.ntmps245;go_upto_region 1 with fail;refine iY H0.out hgx ?_;clear H0 hgx t0 gl;rintro w4 D4 ⟨t0,t1,t2,t3,t4,gl,rl,gr0⟩ ⟨x0,x1,x2,x3,x4⟩ xl gxr X5;have H4:=aT D4;go_upto_region 26 with fail;obtain⟨ra,fa⟩:=D4.reg ha;clear D4;generalize bj s.regs ja=v at *
  first | (go_region_held3 (fun w'=>w'.cell? ⟨gx,1,none⟩=some (I (ja:Nat))/\w'.cell? ⟨gx,0,none⟩=some (I 30)/\w'.cell? ⟨gr,ja,none⟩=some (I v)) (first | go_keep | (refine⟨?_,?_,?_⟩ <;> assumption)) (fail)) | (go_region_held3 (fun w'=>w'.cell? ⟨gx,1,none⟩=some (I (ja:Nat))/\w'.cell? ⟨gx,0,none⟩=some (I 31)/\w'.cell? ⟨gr,ja,none⟩=some (I v)) (first | go_keep | (refine⟨?_,?_,?_⟩ <;> assumption)) (fail))
  go_wp2;go_ret;exact⟨rfl,hst H4.out.drew.h⟩)
theorem intAt_put {k:Nat}{v:Int}(h:j≠k):bj (putK l (j:Nat) v) k=bj l k:=by
 unfold bj putK;rw[ax,ah,ah,List.getElem?_set,if_neg h]
theorem put_put {u v:Int}:putK (putK l (j:Nat) u) (j:Nat) v=putK l (j:Nat) v:=by
 unfold putK;rw[List.set_set]
theorem does_27 (h:dn w0 w g a cells ins s)(ja jb jc jk:Nat)(ha:ja<a.nr)(hb:jb<a.nr)(hc:jc<a.nr)(hk:jk<a.nr)(hne:ja≠jb)(hnc:ja≠jc)(hnk:ja≠jk) :
 Ca 245 #[.pointer (some ⟨g,0,none⟩),.agg #[I 27,I (ja:Nat),I (jb:Nat),I (jc:Nat),I (jk:Nat)]] w fun e w'=>e=.returned (I 0)/\dn w0 w' g a cells ins (dO cells ins ⟨27,(ja:Nat),(jb:Nat),(jc:Nat),(jk:Nat)⟩ s):=by
 have hv:Hid (dO cells ins ⟨27,(ja:Nat),(jb:Nat),(jc:Nat),(jk:Nat)⟩ s={ s with regs:=putK s.regs (ja:Nat) (if bj s.regs jb≠0 then bj s.regs jc else bj s.regs jk),steps:=s.steps+1 }):=rfl;obtain⟨gr,h0⟩:=es.start h ha;obtain⟨t0,_,_,_,_,gl,_,_⟩:=h0.facts;have H0:=aT h0;clear h h0;obtain⟨gx,hgx⟩:∃ gx,w.heap.size=gx:=⟨_,rfl⟩;go_enter Tryz.func245,Tryz.ntmps245;go_upto_region 1 with fail;refine iY H0.out hgx ?_;clear H0 hgx t0 gl;rintro w4 D4 ⟨t0,t1,t2,t3,t4,gl,rl,gr0⟩ ⟨x0,x1,x2,x3,x4⟩ xl gxr X5;have H4:=aT D4;go_upto_region 13 with fail;obtain⟨ra,fa⟩:=D4.reg ha;obtain⟨rb,fb⟩:=D4.reg hk;clear D4;obtain⟨v,hvk⟩:∃ v,bj s.regs jk=v:=⟨_,rfl⟩;have HVK:=aT hvk;rw[hvk] at rb;clear hvk;generalize bj s.regs ja=u at *;have s1:=(dD w4 (p:=⟨gr,ja,none⟩) (q:=⟨gx,1,none⟩) (I v) dv).trans x1;have s2:=(dD w4 (p:=⟨gr,ja,none⟩) (q:=⟨gx,4,none⟩) (I v) dv).trans x4;have s3:=(dD w4 (p:=⟨gr,ja,none⟩) (q:=⟨gr,jk,none⟩) (I v) dv).trans rb;have O5:es w0 (w4.setCell ⟨gr,ja,none⟩ (I v)).drew g a cells ins { s with regs:=putK s.regs (ja:Nat) v } gr/\Blk (w4.setCell ⟨gr,ja,none⟩ (I v)).drew gx 144 [I 27,I (ja:Nat),I (jb:Nat),I (jc:Nat),I (jk:Nat)] :=
  ⟨⟨(H4.out.h.setR H4.out.hA ja v _ rfl { s with regs:=putK s.regs (ja:Nat) v } rfl rfl rfl).drew,H4.out.hA⟩,(X5.out.far (p:=⟨gr,ja,none⟩) gxr _).drew⟩
 go_region_held3 (fun w'=>w'.cell? ⟨gx,1,none⟩=some (I (ja:Nat))/\w'.cell? ⟨gx,4,none⟩=some (I (jk:Nat))/\w'.cell? ⟨gr,jk,none⟩=some (I v)) (first | go_keep | (refine⟨?_,?_,?_⟩ <;> assumption)) (fail);go_upto_region 14 with fail;refine eG (fun W=>es w0 W g a cells ins { s with regs:=putK s.regs (ja:Nat) v } gr/\Blk W gx 144 [I 27,I (ja:Nat),I (jb:Nat),I (jc:Nat),I (jk:Nat)]) O5 ?_;clear O5 H4 X5 ra fa rb fb s1 s2 s3 x0 x1 x2 x3 x4 t0 t1 t2 t3 t4 gl rl xl;intro w5 O5;obtain⟨D5,X5⟩:=O5;obtain⟨t0,t1,t2,t3,t4,gl,rl,_⟩:=D5.facts;obtain⟨x0,x1,x2,x3,x4⟩:=blk5 X5;have xl:=X5.lt;obtain⟨ra,fa⟩:=D5.reg ha;obtain⟨rb,fb⟩:=D5.reg hb;obtain⟨rc,fc⟩:=D5.reg hc;simp only[intAt_put hne,intAt_put hnc] at rb rc;have H5:=aT D5;clear D5 X5;generalize bj (putK s.regs (ja:Nat) v) ja=u5 at ra
 by_cases hz:bj s.regs jb=0
 · have hzb:(bj s.regs jb != 0)=false:=by rw[hz];rfl
   have hv2:Hid (dO cells ins ⟨27,(ja:Nat),(jb:Nat),(jc:Nat),(jk:Nat)⟩ s={ s with regs:=putK s.regs (ja:Nat) v,steps:=s.steps+1 }):=by
    show _=_
    rw[hv.out,if_neg aS,HVK.out]
   clear hz hv;generalize bj s.regs jb=vb at *;go_wp2_with fail;go_ret;rw[hv2.out];exact⟨rfl,H5.out.h.bel,H5.out.h.t,H5.out.h.gl,H5.out.h.r,H5.out.h.n,H5.out.h.o,H5.out.h.c,H5.out.h.i,H5.out.h.rn,H5.out.h.ro,H5.out.h.no_⟩
 · have hzb:(bj s.regs jb != 0)=true:=by rw[ag];exact hz
   have hv2:Hid (dO cells ins ⟨27,(ja:Nat),(jb:Nat),(jc:Nat),(jk:Nat)⟩ s={ s with regs:=putK s.regs (ja:Nat) (bj s.regs jc),steps:=s.steps+1 }):=by
    show _=_
    rw[hv.out,if_pos hz]
   clear hz hv;generalize bj s.regs jb=vb at *;generalize bj s.regs jc=vc at *;have s1:=(dD w5 (p:=⟨gr,ja,none⟩) (q:=⟨gx,1,none⟩) (I vc) dv).trans x1;have s2:=(dD w5 (p:=⟨gr,ja,none⟩) (q:=⟨gx,3,none⟩) (I vc) dv).trans x3;have s3:=(dD w5 (p:=⟨gr,ja,none⟩) (q:=⟨gr,jc,none⟩) (I vc) dv).trans rc;go_upto_region 15 with fail;go_region_held3 (fun w'=>w'.cell? ⟨gx,1,none⟩=some (I (ja:Nat))/\w'.cell? ⟨gx,3,none⟩=some (I (jc:Nat))/\w'.cell? ⟨gr,jc,none⟩=some (I vc)) (first | go_keep | (refine⟨?_,?_,?_⟩ <;> assumption)) (fail);go_wp2_with fail;go_ret;exact⟨rfl,H5.out.drew.h.setR H5.out.hA ja vc _ rfl _ (by rw[hv2.out];exact put_put.symm) (by rw[hv2.out]) (by rw[hv2.out])⟩
theorem iL {z:Int}(h:0<=z):∃ j:Nat,z=(j:Nat):=⟨z.toNat,aS⟩
theorem does_any {p:PV}{i:Nat}{x:Ins}(hs:InsSafe p i x)(h:dn w0 w g a cells ins s)(hr:(a.nr:Int)=p.regs)(hc:a.nc=p.cells.length)(hn:a.nn=p.cells.length)(hi:a.ni=p.ins.length)(ho:a.no=p.outs.length)(h64:∀ z ∈ s.regs,In64 z) :
 Ca 245 #[.pointer (some ⟨g,0,none⟩),.agg #[I x.op,I x.a,I x.b,I x.c,I x.k]] w fun e w'=>e=.returned (I (iU x s.regs:Nat))/\dn w0 w' g a cells ins (dO cells ins x s):=by
 obtain⟨op,xa,xb,xc,xk⟩:=x;obtain⟨a0,a1,hb,hcc,h27,h21,h28,h29,h30,hab,hac,hak,hop⟩:=hs;simp only at a0 a1 hb hcc h27 h21 h28 h29 h30 hab hac hak hop;obtain⟨ja,rfl⟩:=iL a0;have ha:ja<a.nr:=aS;have hov:¬ (op=30\/op=31)->iU ⟨op,(ja:Nat),xb,xc,xk⟩ s.regs=0:=fun q=>by
  show (if (op=30/\atK s.regs (ja:Nat)=0)\/(op=31/\atK s.regs (ja:Nat)≠0) then xk.toNat else 0)=0
  rw[if_neg (fun h=>q (h.elim (fun e=>.inl e.1) (fun e=>.inr e.1)))]
 rcases hop with q | q | q | q | q | q | q | q | q | q | q
 · rw[hov aS];exact does_1 h op (.inl q) ja xb xc xk ha
 · rw[hov aS];exact does_1 h op (.inr q) ja xb xc xk ha
 · rw[hov aS];obtain⟨b0,b1⟩:=hb (.inl q);have n1:=hab (.inl q);obtain⟨jb,rfl⟩:=iL b0;subst q;exact does_3 h ja jb xc xk ha aS aS
 · rw[hov aS];obtain⟨b0,b1⟩:=hb (.inr (.inl q));have n1:=hab (.inr (.inl q));obtain⟨jb,rfl⟩:=iL b0
   by_cases q7:7<=op
   · obtain⟨c0,c1⟩:=hcc (.inl ⟨q7,q.2⟩);have n2:=hac (.inl ⟨q7,q.2⟩);obtain⟨jc,rfl⟩:=iL c0;refine does_op h op ⟨q7,q.2⟩ ja jb jc xk ha aS aS aS aS ?_;have:=ki h64 (jb:Nat);unfold atK at this
     rwa [ax] at this
   · exact does_5 h op aS ja jb xc xk ha aS aS
 · rw[hov aS];obtain⟨k0,k1⟩:=h21 (.inl q);obtain⟨jk,rfl⟩:=iL k0;subst q;exact does_21 h ja xb xc jk ha aS
 · rw[hov aS];obtain⟨b0,b1⟩:=hb (.inr (.inr q));obtain⟨c0,c1⟩:=hcc (.inr q);obtain⟨⟨k0,k1⟩,n1,n2⟩:=h27 q;have n3:=hak q;obtain⟨jb,rfl⟩:=iL b0;obtain⟨jc,rfl⟩:=iL c0;obtain⟨jk,rfl⟩:=iL k0;subst q;exact does_27 h ja jb jc jk ha aS aS aS aS aS aS
 · rw[hov aS];obtain⟨k0,k1⟩:=h28 q;obtain⟨jk,rfl⟩:=iL k0;subst q;exact does_28 h ja xb xc jk ha aS
 · rw[hov aS];obtain⟨k0,k1⟩:=h29 q;obtain⟨jk,rfl⟩:=iL k0;subst q;exact does_29 h ja xb xc jk ha aS
 · exact does_30 h op (.inl q) ja xb xc xk ha (h30 (.inl q)).1
 · exact does_30 h op (.inr q) ja xb xc xk ha (h30 (.inr q)).1
 · rw[hov aS];obtain⟨k0,k1⟩:=h21 (.inr q);obtain⟨jk,rfl⟩:=iL k0;subst q;exact does_32 h ja xb xc jk ha aS
end
theorem elemCellC:dQ Tryz.prog 23 187 (.agg #[I 0,I 0]) 2 16:=dQ.mk' Tryz.underlying23 bM rfl aU
theorem elemInsC:dQ Tryz.prog 24 144 (.agg #[I 0,I 0,I 0,I 0,I 0]) 5 40:=dQ.mk' Tryz.underlying24 bM rfl aU
theorem cellE_oneC (x:Int × Int):∀ u ∈ cellE x,u.oneCell'=true:=by
 intro u hu;simp only[cellE,List.mem_cons,List.not_mem_nil,or_false] at hu;rcases hu with rfl | rfl <;> rfl
theorem insE_oneC (x:Ins):∀ u ∈ insE x,u.oneCell'=true:=by
 intro u hu;simp only[insE,List.mem_cons,List.not_mem_nil,or_false] at hu;rcases hu with rfl | rfl | rfl | rfl | rfl <;> rfl
theorem OwS.empty {α:Type}(size:Nat)(enc:α->List Value)(w:World)(e:TypeId):OwS size enc (w.alloc (.cells #[] e)) w.heap.size e (some ⟨w.heap.size,0,none⟩) 0 0 []:=by
 refine⟨rfl,by simp,.inr ⟨w.heap.size,0,#[],rfl,Nat.le_refl _,heap_alloc_new w _,Nat.le_refl _,by unfold maxLen;omega,by simp,by simp⟩⟩
theorem iZ (A:Option Addr)(n c:Nat)(l:List Int)(w:World)(hl:RI w A n l)(hn:n<=100000) :
 Ca 145 #[.slice A n c] w fun e w'=>∃ A' c',e=.returned (.slice A' n c')/\Ow iv w' w.heap.size 3 A' n c' l/\Below w.heap.size w w':=by
 cases A with
 | none=>
   have h0:n=0:=by
    by_cases q:0<n
    · obtain⟨b,o,e,_⟩:=hl.2 q;cases e
    · omega
   subst h0;have hl0:=List.eq_nil_of_length_eq_zero hl.1;subst hl0;have hnil:∀ W,(binOp .eql 22 (.slice none 0 c) (.slice none 0 0)).run Tryz.prog W=.ok (.bool true) W:=fun W=>Lib.run_eql_slice_nil_nil W 0 c Tryz.underlying22
   clear hl;go_enter Tryz.func145,Tryz.ntmps145;go_wp2;go_ret;exact⟨none,0,rfl,Ow.nil _ _ _ _,Below.refl _ _⟩
 | some ad=>
   have HL:=aT hl;have HE:=aT (show ([]:List Int) ++ l=l from rfl);have hnil:∀ W,(binOp .eql 22 (.slice (some ad) n c) (.slice none 0 0)).run Tryz.prog W=.ok (.bool false) W:=fun W=>Lib.run_eql_slice_some_nil W ad n c Tryz.underlying22
   clear hl;go_enter Tryz.func145,Tryz.ntmps145;go_wp2_with (first | (at_builtin;refine dR rfl rfl fF gq (s:=.tmp 5) (N:=n) (L:=l) rfl (Ow.new w 3 #[] [] rfl aU) rfl (k:=l) (HL.out.below (B:=w.heap.size) ((Below.refl _ _).alloc aW _) aW).rd aS HE.out bQ aS br ?_;intro A2 c2 w2 hown2 hg2 hat2 hb2;have b2:Below w.heap.size w w2:=((Below.refl _ _).alloc aW _).trans hb2) | fail);go_ret;exact⟨A2,c2,rfl,hown2,b2⟩
theorem clone_cells (A:Option Addr)(n c:Nat)(l:List (Int × Int))(w:World)(hl:RdS 2 cellE w A n l)(hn:n<=100000) :
 Ca 197 #[.slice A n c] w fun e w'=>∃ A' c',e=.returned (.slice A' n c')/\OwS 2 cellE w' w.heap.size 187 A' n c' l/\Below w.heap.size w w':=by
 cases A with
 | none=>
   have h0:n=0:=by
    by_cases q:0<n
    · obtain⟨b,o,e,_⟩:=hl.2.2 aS;cases e
    · omega
   subst h0;have hl0:=List.eq_nil_of_length_eq_zero hl.1;subst hl0;have hnil:∀ W,(binOp .eql 23 (.slice none 0 c) (.slice none 0 0)).run Tryz.prog W=.ok (.bool true) W:=fun W=>Lib.run_eql_slice_nil_nil W 0 c Tryz.underlying23
   clear hl;go_enter Tryz.func197,Tryz.ntmps197;go_wp2;go_ret;exact⟨none,0,rfl,OwS.nil _ _ _ _ _,Below.refl _ _⟩
 | some ad=>
   have HL:=aT hl;have HE:=aT (show ([]:List (Int × Int)) ++ l=l from rfl);have hnil:∀ W,(binOp .eql 23 (.slice (some ad) n c) (.slice none 0 0)).run Tryz.prog W=.ok (.bool false) W:=fun W=>Lib.run_eql_slice_some_nil W ad n c Tryz.underlying23
   clear hl;go_enter Tryz.func197,Tryz.ntmps197;go_wp2_with (first | (at_builtin;refine oZ rfl rfl elemCellC cellE_oneC (s:=.tmp 5) (N:=n) (L:=l) rfl (OwS.empty 2 cellE w 187) rfl (k:=l) (HL.out.below (b:=w.heap.size) ((Below.refl _ _).alloc aW _) aW) aS HE.out bQ aS br ?_;intro A2 c2 w2 hown2 hg2 hat2 hb2;have b2:Below w.heap.size w w2:=((Below.refl _ _).alloc aW _).trans hb2) | fail);go_ret;exact⟨A2,c2,rfl,hown2,b2⟩
theorem clone_code (A:Option Addr)(n c:Nat)(l:List Ins)(w:World)(hl:RdS 5 insE w A n l)(hn:n<=100000) :
 Ca 196 #[.slice A n c] w fun e w'=>∃ A' c',e=.returned (.slice A' n c')/\OwS 5 insE w' w.heap.size 144 A' n c' l/\Below w.heap.size w w':=by
 cases A with
 | none=>
   have h0:n=0:=by
    by_cases q:0<n
    · obtain⟨b,o,e,_⟩:=hl.2.2 aS;cases e
    · omega
   subst h0;have hl0:=List.eq_nil_of_length_eq_zero hl.1;subst hl0;have hnil:∀ W,(binOp .eql 24 (.slice none 0 c) (.slice none 0 0)).run Tryz.prog W=.ok (.bool true) W:=fun W=>Lib.run_eql_slice_nil_nil W 0 c Tryz.underlying24
   clear hl;go_enter Tryz.func196,Tryz.ntmps196;go_wp2;go_ret;exact⟨none,0,rfl,OwS.nil _ _ _ _ _,Below.refl _ _⟩
 | some ad=>
   have HL:=aT hl;have HE:=aT (show ([]:List Ins) ++ l=l from rfl);have hnil:∀ W,(binOp .eql 24 (.slice (some ad) n c) (.slice none 0 0)).run Tryz.prog W=.ok (.bool false) W:=fun W=>Lib.run_eql_slice_some_nil W ad n c Tryz.underlying24
   clear hl;go_enter Tryz.func196,Tryz.ntmps196;go_wp2_with (first | (at_builtin;refine oZ rfl rfl elemInsC insE_oneC (s:=.tmp 5) (N:=n) (L:=l) rfl (OwS.empty 5 insE w 144) rfl (k:=l) (HL.out.below (b:=w.heap.size) ((Below.refl _ _).alloc aW _) aW) aS HE.out bQ aS br ?_;intro A2 c2 w2 hown2 hg2 hat2 hb2;have b2:Below w.heap.size w w2:=((Below.refl _ _).alloc aW _).trans hb2) | fail);go_ret;exact⟨A2,c2,rfl,hown2,b2⟩
def sgn3 (op:Int):Int × Int × Bool:=if fC op then (fA op,fB op,true) else (0,0,false)
theorem pR (op:Int):(op=5\/op=6\/op=7\/op=8\/op=9\/op=10\/op=11\/op=12\/op=13\/op=14\/op=15\/op=16\/op=17\/op=18\/op=19\/op=20)\/(op<5\/20<op):=aS
theorem sgn3_no {op:Int}(h:op<5\/20<op):sgn3 op=(0,0,false):=by
 unfold sgn3 fC;rw[aj aS];rfl
theorem i8 (op:Int)(w:World):Ca 271 #[I op] w fun e w'=>e=.returned (.tuple #[I (sgn3 op).1,I (sgn3 op).2.1,.bool (sgn3 op).2.2])/\w=w':=by
 rcases pR op with h | h
 · rcases h with rfl | rfl | rfl | rfl | rfl | rfl | rfl | rfl | rfl | rfl | rfl | rfl | rfl | rfl | rfl | rfl
   all_goals
    go_enter Tryz.func271,Tryz.ntmps271;go_wp2;go_ret3;exact⟨rfl,rfl⟩
 · rw[sgn3_no h];have b5:(op == 5)=false:=by rw[af];omega
   have b6:(op == 6)=false:=by rw[af];omega
   have b7:(op == 7)=false:=by rw[af];omega
   have b8:(op == 8)=false:=by rw[af];omega
   have b9:(op == 9)=false:=by rw[af];omega
   have b10:(op == 10)=false:=by rw[af];omega
   have b11:(op == 11)=false:=by rw[af];omega
   have b12:(op == 12)=false:=by rw[af];omega
   have b13:(op == 13)=false:=by rw[af];omega
   have b14:(op == 14)=false:=by rw[af];omega
   have b15:(op == 15)=false:=by rw[af];omega
   have b16:(op == 16)=false:=by rw[af];omega
   have b17:(op == 17)=false:=by rw[af];omega
   have b18:(op == 18)=false:=by rw[af];omega
   have b19:(op == 19)=false:=by rw[af];omega
   have b20:(op == 20)=false:=by rw[af];omega
   clear h;go_enter Tryz.func271,Tryz.ntmps271;go_wp2;go_ret3;exact⟨rfl,rfl⟩
theorem rsign_any (op:Int)(w:World):Ca 174 #[I op] w fun e w'=>e=.returned (.tuple #[I (sgn3 op).1,I (sgn3 op).2.1,.bool (sgn3 op).2.2])/\Below w.heap.size w w':=by
 rcases pR op with h | h
 · rcases h with rfl | rfl | rfl | rfl | rfl | rfl | rfl | rfl | rfl | rfl | rfl | rfl | rfl | rfl | rfl | rfl
   all_goals
    go_enter Tryz.func174,Tryz.ntmps174;go_upto_region 5 with fail;go_region;go_wp2;go_ret3;exact⟨rfl,bc⟩
 · rw[sgn3_no h]
   by_cases h5:op<5
   · clear h;go_enter Tryz.func174,Tryz.ntmps174;go_wp2;go_ret3;exact⟨rfl,Below.refl _ _⟩
   · have h20:20<op:=aS;clear h;go_enter Tryz.func174,Tryz.ntmps174;go_wp2;go_ret3;exact⟨rfl,Below.refl _ _⟩
