/- Parts: VmC, Clone, Sign. -/
import Derived.Test.YtmeebofhlilcmaaGreatPr02
import Derived.Test.YtmeebofhlilcmaaGreatPr28
import Derived.Test.YtmeebofhlilcmaaGreatPr04
import Derived.Lib.BufferMore
import Derived.Test.YtmeebofhlilcmaaGreatPr21
import Derived.WalkKit
import Derived.Deep.DeepCutAuto
import Derived.Deep.CutBlock
import Derived.WalkSpells
import Derived.WalkLawsBesides
set_option linter.unusedVariables false
set_option linter.unusedSimpArgs false
set_option maxRecDepth 100000
set_option maxHeartbeats 40000000
namespace Go.Proofs.YtmeebofhlilcmaaGreat
open Go.RowKit
section
variable {w0 w w':World} {g:Nat} {a:TA} {cells ins:List Int} {s:VS}
theorem does_op (h:qf8 w0 w g a cells ins s) (op:Int) (ho:7≤op∧op≤20) (ja jb jc:Nat) (k:Int) (ha:ja<a.nr) (hb:jb<a.nr) (hc:jc<a.nr) (hne:ja≠jb) (hnc:ja≠jc) (h64:In64 (qa6 s.regs jb)) :
    Calls Tryz.prog 245 #[.pointer (some ⟨g,0,none⟩),.agg #[.int .i64 op,.int .i64 (ja:Nat),.int .i64 (jb:Nat),.int .i64 (jc:Nat),.int .i64 k]] w fun e w' => e=.returned (.int .i64 0)∧qf8 w0 w' g a cells ins (qm7 cells ins ⟨op,(ja:Nat),(jb:Nat),(jc:Nat),k⟩ s):=by
  have hv:Hid (qm7 cells ins ⟨op,(ja:Nat),(jb:Nat),(jc:Nat),k⟩ s={ s with regs:=putK s.regs (ja:Nat) (doK op (qa6 s.regs jb) (qa6 s.regs jc)),steps:=s.steps+1 }):=by
    show _=_
    unfold qm7 giveK atK;simp only;rw [if_neg omg,if_neg omg,if_neg omg,if_neg omg,if_neg omg,if_neg omg,if_neg omg,if_neg omg,if_pos ho,Int.toNat_natCast,Int.toNat_natCast]
  have hdo:=fun w => ardo_any op (qa6 s.regs jb) (qa6 s.regs jc) w ho h64
  have n1:(op == 1)=false:=by rw [beq_eq_false_iff_ne];omega
  have n2:(op == 2)=false:=by rw [beq_eq_false_iff_ne];omega
  have n3:(op == 3)=false:=by rw [beq_eq_false_iff_ne];omega
  have n5:(op == 5)=false:=by rw [beq_eq_false_iff_ne];omega
  have n6:(op == 6)=false:=by rw [beq_eq_false_iff_ne];omega
  have n27:(op == 27)=false:=by rw [beq_eq_false_iff_ne];omega
  have n21:(op == 21)=false:=by rw [beq_eq_false_iff_ne];omega
  have n28:(op == 28)=false:=by rw [beq_eq_false_iff_ne];omega
  have n29:(op == 29)=false:=by rw [beq_eq_false_iff_ne];omega
  have n32:(op == 32)=false:=by rw [beq_eq_false_iff_ne];omega
  have n30:(op == 30)=false:=by rw [beq_eq_false_iff_ne];omega
  have n31:(op == 31)=false:=by rw [beq_eq_false_iff_ne];omega
  clear ho h64;obtain ⟨gr,h0⟩:=qd4.start h ha;have O1:qd4 w0 (w.alloc (.cells #[.int .i64 op,.int .i64 (ja:Nat),.int .i64 (jb:Nat),.int .i64 (jc:Nat),.int .i64 k] 144)) g a cells ins s gr∧Blk (w.alloc (.cells #[.int .i64 op,.int .i64 (ja:Nat),.int .i64 (jb:Nat),.int .i64 (jc:Nat),.int .i64 k] 144)) w.heap.size 144 [.int .i64 op,.int .i64 (ja:Nat),.int .i64 (jb:Nat),.int .i64 (jc:Nat),.int .i64 k]:=⟨h0.box _,Blk.top _ rfl rfl⟩;obtain ⟨t0,_,_,_,_,gl,_,_⟩:=h0.facts;clear h h0;generalize hgx:w.heap.size=gx at O1;go_enter Tryz.func245,Tryz.ntmps245;go_upto_region 1 with fail;refine qd5 (fun W => qd4 w0 W g a cells ins s gr∧Blk W gx 144 [.int .i64 op,.int .i64 (ja:Nat),.int .i64 (jb:Nat),.int .i64 (jc:Nat),.int .i64 k]) O1 ?_;clear O1 hgx t0 gl;intro w4 O4;obtain ⟨D4,X4⟩:=O4;obtain ⟨t0,t1,t2,t3,t4,gl,rl,gr0⟩:=D4.facts;obtain ⟨x0,x1,x2,x3,x4⟩:=blk5 X4;have xl:=X4.lt;have gxr:gx≠gr:=by
    have hr:=D4.h.r;rw [D4.hA] at hr;obtain ⟨cs,hb⟩:=qq8 (g:=gr) hr rfl;exact X4.ne_ hb dcd
  have H4:=hdd D4;have X5:=hdd X4;clear X4;go_upto_region 3 with fail;obtain ⟨ra,fa⟩:=D4.reg ha;obtain ⟨rb,fb⟩:=D4.reg hb;obtain ⟨rc,fc⟩:=D4.reg hc;clear D4;generalize doK op (qa6 s.regs jb) (qa6 s.regs jc)=v at *;generalize qa6 s.regs jb=v1 at *;generalize qa6 s.regs jc=v2 at *;generalize qa6 s.regs ja=u at *;have s0:=(qc6 w4 (p:=⟨gr,ja,none⟩) (q:=⟨gx,0,none⟩) (.int .i64 v) (by simp;try omega)).trans x0;have s1:=(qc6 w4 (p:=⟨gr,ja,none⟩) (q:=⟨gx,1,none⟩) (.int .i64 v) (by simp;try omega)).trans x1;have s2:=(qc6 w4 (p:=⟨gr,ja,none⟩) (q:=⟨gx,2,none⟩) (.int .i64 v) (by simp;try omega)).trans x2;have s3:=(qc6 w4 (p:=⟨gr,ja,none⟩) (q:=⟨gx,3,none⟩) (.int .i64 v) (by simp;try omega)).trans x3;have s4:=(qc6 w4 (p:=⟨gr,ja,none⟩) (q:=⟨gr,jb,none⟩) (.int .i64 v) (by simp;try omega)).trans rb;have s5:=(qc6 w4 (p:=⟨gr,ja,none⟩) (q:=⟨gr,jc,none⟩) (.int .i64 v) (by simp;try omega)).trans rc;go_region_held3 (fun w' => w'.cell? ⟨gx,1,none⟩=some (.int .i64 (ja:Nat))∧w'.cell? ⟨gx,0,none⟩=some (.int .i64 op)∧w'.cell? ⟨gx,2,none⟩=some (.int .i64 (jb:Nat))∧w'.cell? ⟨gx,3,none⟩=some (.int .i64 (jc:Nat))∧w'.cell? ⟨gr,jb,none⟩=some (.int .i64 v1)∧w'.cell? ⟨gr,jc,none⟩=some (.int .i64 v2)) (first | go_keep | (refine ⟨?_,?_,?_,?_,?_,?_⟩ <;> assumption)) (first | (go_at_call 288;(with_reducible refine (hdo _).mono ?_);rintro e w5 ⟨rfl,rfl⟩) | fail "no arm");go_wp2;go_ret;exact ⟨rfl,H4.out.drew.h.setR H4.out.hA ja v _ rfl _ (by rw [hv.out]) (by rw [hv.out]) (by rw [hv.out])⟩
theorem does_30 (h:qf8 w0 w g a cells ins s) (op:Int) (ho:op=30∨op=31) (ja:Nat) (b c k:Int) (ha:ja<a.nr) (hk:0≤k) :
    Calls Tryz.prog 245 #[.pointer (some ⟨g,0,none⟩),.agg #[.int .i64 op,.int .i64 (ja:Nat),.int .i64 b,.int .i64 c,.int .i64 k]] w fun e w' => e=.returned (.int .i64 (vm7 ⟨op,(ja:Nat),b,c,k⟩ s.regs:Nat))∧qf8 w0 w' g a cells ins (qm7 cells ins ⟨op,(ja:Nat),b,c,k⟩ s):=by
  have hv:qm7 cells ins ⟨op,(ja:Nat),b,c,k⟩ s={ s with steps:=s.steps+1 }:=by rcases ho with rfl | rfl <;> rfl
  have hov:((vm7 ⟨op,(ja:Nat),b,c,k⟩ s.regs:Nat):Int)=if (op=30∧qa6 s.regs ja=0)∨(op=31∧qa6 s.regs ja≠0) then k else 0:=by
    unfold vm7 atK;simp only [Int.toNat_natCast]
    split
    · omega
    · rfl
  rw [hv,hov];have hst:∀ {W:World},qf8 w0 W g a cells ins s→qf8 w0 W g a cells ins { s with steps:=s.steps+1 }:=fun h => ⟨h.bel,h.t,h.gl,h.r,h.n,h.o,h.c,h.i,h.rn,h.ro,h.no_⟩
  clear hv hov
  by_cases hz:qa6 s.regs ja=0
  · have HZ:=hdd hz;have hzb:(qa6 s.regs ja == 0)=true:=by rw [hz];rfl
    rcases ho with rfl | rfl
    · rw [if_pos (.inl ⟨rfl,hz⟩)];clear hz;obtain ⟨gr,h0⟩:=qd4.start h ha;have O1:qd4 w0 (w.alloc (.cells #[.int .i64 30,.int .i64 (ja:Nat),.int .i64 b,.int .i64 c,.int .i64 k] 144)) g a cells ins s gr∧Blk (w.alloc (.cells #[.int .i64 30,.int .i64 (ja:Nat),.int .i64 b,.int .i64 c,.int .i64 k] 144)) w.heap.size 144 [.int .i64 30,.int .i64 (ja:Nat),.int .i64 b,.int .i64 c,.int .i64 k]:=⟨h0.box _,Blk.top _ rfl rfl⟩;obtain ⟨t0,_,_,_,_,gl,_,_⟩:=h0.facts;clear h h0;generalize hgx:w.heap.size=gx at O1;go_enter Tryz.func245,Tryz.ntmps245;go_upto_region 1 with fail;refine qd5 (fun W => qd4 w0 W g a cells ins s gr∧Blk W gx 144 [.int .i64 30,.int .i64 (ja:Nat),.int .i64 b,.int .i64 c,.int .i64 k]) O1 ?_;clear O1 hgx t0 gl;intro w4 O4;obtain ⟨D4,X4⟩:=O4;obtain ⟨t0,t1,t2,t3,t4,gl,rl,gr0⟩:=D4.facts;obtain ⟨x0,x1,x2,x3,x4⟩:=blk5 X4;have xl:=X4.lt;have gxr:gx≠gr:=by
        have hr:=D4.h.r;rw [D4.hA] at hr;obtain ⟨cs,hb⟩:=qq8 (g:=gr) hr rfl;exact X4.ne_ hb dcd
      have H4:=hdd D4;have X5:=hdd X4;clear X4;go_upto_region 26 with fail;obtain ⟨ra,fa⟩:=D4.reg ha;clear D4;generalize qa6 s.regs ja=v at *;go_region_held3 (fun w' => w'.cell? ⟨gx,1,none⟩=some (.int .i64 (ja:Nat))∧w'.cell? ⟨gx,0,none⟩=some (.int .i64 30)∧w'.cell? ⟨gr,ja,none⟩=some (.int .i64 v)) (first | go_keep | (refine ⟨?_,?_,?_⟩ <;> assumption)) (fail);go_wp2;go_ret;exact ⟨rfl,hst H4.out.drew.h⟩
    · rw [if_neg omg];clear hz;obtain ⟨gr,h0⟩:=qd4.start h ha;have O1:qd4 w0 (w.alloc (.cells #[.int .i64 31,.int .i64 (ja:Nat),.int .i64 b,.int .i64 c,.int .i64 k] 144)) g a cells ins s gr∧Blk (w.alloc (.cells #[.int .i64 31,.int .i64 (ja:Nat),.int .i64 b,.int .i64 c,.int .i64 k] 144)) w.heap.size 144 [.int .i64 31,.int .i64 (ja:Nat),.int .i64 b,.int .i64 c,.int .i64 k]:=⟨h0.box _,Blk.top _ rfl rfl⟩;obtain ⟨t0,_,_,_,_,gl,_,_⟩:=h0.facts;clear h h0;generalize hgx:w.heap.size=gx at O1;go_enter Tryz.func245,Tryz.ntmps245;go_upto_region 1 with fail;refine qd5 (fun W => qd4 w0 W g a cells ins s gr∧Blk W gx 144 [.int .i64 31,.int .i64 (ja:Nat),.int .i64 b,.int .i64 c,.int .i64 k]) O1 ?_;clear O1 hgx t0 gl;intro w4 O4;obtain ⟨D4,X4⟩:=O4;obtain ⟨t0,t1,t2,t3,t4,gl,rl,gr0⟩:=D4.facts;obtain ⟨x0,x1,x2,x3,x4⟩:=blk5 X4;have xl:=X4.lt;have gxr:gx≠gr:=by
        have hr:=D4.h.r;rw [D4.hA] at hr;obtain ⟨cs,hb⟩:=qq8 (g:=gr) hr rfl;exact X4.ne_ hb dcd
      have H4:=hdd D4;have X5:=hdd X4;clear X4;go_upto_region 26 with fail;obtain ⟨ra,fa⟩:=D4.reg ha;clear D4;generalize qa6 s.regs ja=v at *;go_region_held3 (fun w' => w'.cell? ⟨gx,1,none⟩=some (.int .i64 (ja:Nat))∧w'.cell? ⟨gx,0,none⟩=some (.int .i64 31)∧w'.cell? ⟨gr,ja,none⟩=some (.int .i64 v)) (first | go_keep | (refine ⟨?_,?_,?_⟩ <;> assumption)) (fail);go_wp2;go_ret;exact ⟨rfl,hst H4.out.drew.h⟩
  · have HZ:=hdd hz;have hzb:(qa6 s.regs ja == 0)=false:=by rw [beq_eq_false_iff_ne];exact hz
    rcases ho with rfl | rfl
    · rw [if_neg omg];clear hz;obtain ⟨gr,h0⟩:=qd4.start h ha;have O1:qd4 w0 (w.alloc (.cells #[.int .i64 30,.int .i64 (ja:Nat),.int .i64 b,.int .i64 c,.int .i64 k] 144)) g a cells ins s gr∧Blk (w.alloc (.cells #[.int .i64 30,.int .i64 (ja:Nat),.int .i64 b,.int .i64 c,.int .i64 k] 144)) w.heap.size 144 [.int .i64 30,.int .i64 (ja:Nat),.int .i64 b,.int .i64 c,.int .i64 k]:=⟨h0.box _,Blk.top _ rfl rfl⟩;obtain ⟨t0,_,_,_,_,gl,_,_⟩:=h0.facts;clear h h0;generalize hgx:w.heap.size=gx at O1;go_enter Tryz.func245,Tryz.ntmps245;go_upto_region 1 with fail;refine qd5 (fun W => qd4 w0 W g a cells ins s gr∧Blk W gx 144 [.int .i64 30,.int .i64 (ja:Nat),.int .i64 b,.int .i64 c,.int .i64 k]) O1 ?_;clear O1 hgx t0 gl;intro w4 O4;obtain ⟨D4,X4⟩:=O4;obtain ⟨t0,t1,t2,t3,t4,gl,rl,gr0⟩:=D4.facts;obtain ⟨x0,x1,x2,x3,x4⟩:=blk5 X4;have xl:=X4.lt;have gxr:gx≠gr:=by
        have hr:=D4.h.r;rw [D4.hA] at hr;obtain ⟨cs,hb⟩:=qq8 (g:=gr) hr rfl;exact X4.ne_ hb dcd
      have H4:=hdd D4;have X5:=hdd X4;clear X4;go_upto_region 26 with fail;obtain ⟨ra,fa⟩:=D4.reg ha;clear D4;generalize qa6 s.regs ja=v at *;go_region_held3 (fun w' => w'.cell? ⟨gx,1,none⟩=some (.int .i64 (ja:Nat))∧w'.cell? ⟨gx,0,none⟩=some (.int .i64 30)∧w'.cell? ⟨gr,ja,none⟩=some (.int .i64 v)) (first | go_keep | (refine ⟨?_,?_,?_⟩ <;> assumption)) (fail);go_wp2;go_ret;exact ⟨rfl,hst H4.out.drew.h⟩
    · rw [if_pos (.inr ⟨rfl,hz⟩)];clear hz;obtain ⟨gr,h0⟩:=qd4.start h ha;have O1:qd4 w0 (w.alloc (.cells #[.int .i64 31,.int .i64 (ja:Nat),.int .i64 b,.int .i64 c,.int .i64 k] 144)) g a cells ins s gr∧Blk (w.alloc (.cells #[.int .i64 31,.int .i64 (ja:Nat),.int .i64 b,.int .i64 c,.int .i64 k] 144)) w.heap.size 144 [.int .i64 31,.int .i64 (ja:Nat),.int .i64 b,.int .i64 c,.int .i64 k]:=⟨h0.box _,Blk.top _ rfl rfl⟩;obtain ⟨t0,_,_,_,_,gl,_,_⟩:=h0.facts;clear h h0;generalize hgx:w.heap.size=gx at O1;go_enter Tryz.func245,Tryz.ntmps245;go_upto_region 1 with fail;refine qd5 (fun W => qd4 w0 W g a cells ins s gr∧Blk W gx 144 [.int .i64 31,.int .i64 (ja:Nat),.int .i64 b,.int .i64 c,.int .i64 k]) O1 ?_;clear O1 hgx t0 gl;intro w4 O4;obtain ⟨D4,X4⟩:=O4;obtain ⟨t0,t1,t2,t3,t4,gl,rl,gr0⟩:=D4.facts;obtain ⟨x0,x1,x2,x3,x4⟩:=blk5 X4;have xl:=X4.lt;have gxr:gx≠gr:=by
        have hr:=D4.h.r;rw [D4.hA] at hr;obtain ⟨cs,hb⟩:=qq8 (g:=gr) hr rfl;exact X4.ne_ hb dcd
      have H4:=hdd D4;have X5:=hdd X4;clear X4;go_upto_region 26 with fail;obtain ⟨ra,fa⟩:=D4.reg ha;clear D4;generalize qa6 s.regs ja=v at *;go_region_held3 (fun w' => w'.cell? ⟨gx,1,none⟩=some (.int .i64 (ja:Nat))∧w'.cell? ⟨gx,0,none⟩=some (.int .i64 31)∧w'.cell? ⟨gr,ja,none⟩=some (.int .i64 v)) (first | go_keep | (refine ⟨?_,?_,?_⟩ <;> assumption)) (fail);go_wp2;go_ret;exact ⟨rfl,hst H4.out.drew.h⟩
theorem intAt_put {l:List Int} {j k:Nat} {v:Int} (h:j≠k):qa6 (putK l (j:Nat) v) k=qa6 l k:=by
  unfold qa6 putK;rw [Int.toNat_natCast,List.getD_eq_getElem?_getD,List.getD_eq_getElem?_getD,List.getElem?_set,if_neg h]
theorem put_put {l:List Int} {j:Nat} {u v:Int}:putK (putK l (j:Nat) u) (j:Nat) v=putK l (j:Nat) v:=by
  unfold putK;rw [List.set_set]
theorem does_27 (h:qf8 w0 w g a cells ins s) (ja jb jc jk:Nat) (ha:ja<a.nr) (hb:jb<a.nr) (hc:jc<a.nr) (hk:jk<a.nr) (hne:ja≠jb) (hnc:ja≠jc) (hnk:ja≠jk) :
    Calls Tryz.prog 245 #[.pointer (some ⟨g,0,none⟩),.agg #[.int .i64 27,.int .i64 (ja:Nat),.int .i64 (jb:Nat),.int .i64 (jc:Nat),.int .i64 (jk:Nat)]] w fun e w' => e=.returned (.int .i64 0)∧qf8 w0 w' g a cells ins (qm7 cells ins ⟨27,(ja:Nat),(jb:Nat),(jc:Nat),(jk:Nat)⟩ s):=by
  have hv:Hid (qm7 cells ins ⟨27,(ja:Nat),(jb:Nat),(jc:Nat),(jk:Nat)⟩ s={ s with regs:=putK s.regs (ja:Nat) (if qa6 s.regs jb≠0 then qa6 s.regs jc else qa6 s.regs jk),steps:=s.steps+1 }):=rfl;obtain ⟨gr,h0⟩:=qd4.start h ha;have O1:qd4 w0 (w.alloc (.cells #[.int .i64 27,.int .i64 (ja:Nat),.int .i64 (jb:Nat),.int .i64 (jc:Nat),.int .i64 (jk:Nat)] 144)) g a cells ins s gr∧Blk (w.alloc (.cells #[.int .i64 27,.int .i64 (ja:Nat),.int .i64 (jb:Nat),.int .i64 (jc:Nat),.int .i64 (jk:Nat)] 144)) w.heap.size 144 [.int .i64 27,.int .i64 (ja:Nat),.int .i64 (jb:Nat),.int .i64 (jc:Nat),.int .i64 (jk:Nat)]:=⟨h0.box _,Blk.top _ rfl rfl⟩;obtain ⟨t0,_,_,_,_,gl,_,_⟩:=h0.facts;clear h h0;generalize hgx:w.heap.size=gx at O1;go_enter Tryz.func245,Tryz.ntmps245;go_upto_region 1 with fail;refine qd5 (fun W => qd4 w0 W g a cells ins s gr∧Blk W gx 144 [.int .i64 27,.int .i64 (ja:Nat),.int .i64 (jb:Nat),.int .i64 (jc:Nat),.int .i64 (jk:Nat)]) O1 ?_;clear O1 hgx t0 gl;intro w4 O4;obtain ⟨D4,X4⟩:=O4;obtain ⟨t0,t1,t2,t3,t4,gl,rl,gr0⟩:=D4.facts;obtain ⟨x0,x1,x2,x3,x4⟩:=blk5 X4;have xl:=X4.lt;have gxr:gx≠gr:=by
    have hr:=D4.h.r;rw [D4.hA] at hr;obtain ⟨cs,hb⟩:=qq8 (g:=gr) hr rfl;exact X4.ne_ hb dcd
  have H4:=hdd D4;have X5:=hdd X4;clear X4;go_upto_region 13 with fail;obtain ⟨ra,fa⟩:=D4.reg ha;obtain ⟨rb,fb⟩:=D4.reg hk;clear D4;obtain ⟨v,hvk⟩:∃ v,qa6 s.regs jk=v:=⟨_,rfl⟩;have HVK:=hdd hvk;rw [hvk] at rb;clear hvk;generalize qa6 s.regs ja=u at *;have s1:=(qc6 w4 (p:=⟨gr,ja,none⟩) (q:=⟨gx,1,none⟩) (.int .i64 v) (by simp;try omega)).trans x1;have s2:=(qc6 w4 (p:=⟨gr,ja,none⟩) (q:=⟨gx,4,none⟩) (.int .i64 v) (by simp;try omega)).trans x4;have s3:=(qc6 w4 (p:=⟨gr,ja,none⟩) (q:=⟨gr,jk,none⟩) (.int .i64 v) (by simp;try omega)).trans rb;have O5:qd4 w0 (w4.setCell ⟨gr,ja,none⟩ (.int .i64 v)).drew g a cells ins { s with regs:=putK s.regs (ja:Nat) v } gr∧Blk (w4.setCell ⟨gr,ja,none⟩ (.int .i64 v)).drew gx 144 [.int .i64 27,.int .i64 (ja:Nat),.int .i64 (jb:Nat),.int .i64 (jc:Nat),.int .i64 (jk:Nat)] :=
    ⟨⟨(H4.out.h.setR H4.out.hA ja v _ rfl { s with regs:=putK s.regs (ja:Nat) v } rfl rfl rfl).drew,H4.out.hA⟩,(X5.out.far (p:=⟨gr,ja,none⟩) gxr _).drew⟩
  go_region_held3 (fun w' => w'.cell? ⟨gx,1,none⟩=some (.int .i64 (ja:Nat))∧w'.cell? ⟨gx,4,none⟩=some (.int .i64 (jk:Nat))∧w'.cell? ⟨gr,jk,none⟩=some (.int .i64 v)) (first | go_keep | (refine ⟨?_,?_,?_⟩ <;> assumption)) (fail);go_upto_region 14 with fail;refine qd5 (fun W => qd4 w0 W g a cells ins { s with regs:=putK s.regs (ja:Nat) v } gr∧Blk W gx 144 [.int .i64 27,.int .i64 (ja:Nat),.int .i64 (jb:Nat),.int .i64 (jc:Nat),.int .i64 (jk:Nat)]) O5 ?_;clear O5 H4 X5 ra fa rb fb s1 s2 s3 x0 x1 x2 x3 x4 t0 t1 t2 t3 t4 gl rl xl;intro w5 O5;obtain ⟨D5,X5⟩:=O5;obtain ⟨t0,t1,t2,t3,t4,gl,rl,_⟩:=D5.facts;obtain ⟨x0,x1,x2,x3,x4⟩:=blk5 X5;have xl:=X5.lt;obtain ⟨ra,fa⟩:=D5.reg ha;obtain ⟨rb,fb⟩:=D5.reg hb;obtain ⟨rc,fc⟩:=D5.reg hc;simp only [intAt_put hne,intAt_put hnc] at rb rc;have H5:=hdd D5;clear D5 X5;generalize qa6 (putK s.regs (ja:Nat) v) ja=u5 at ra
  by_cases hz:qa6 s.regs jb=0
  · have hzb:(qa6 s.regs jb != 0)=false:=by rw [hz];rfl
    have hv2:Hid (qm7 cells ins ⟨27,(ja:Nat),(jb:Nat),(jc:Nat),(jk:Nat)⟩ s={ s with regs:=putK s.regs (ja:Nat) v,steps:=s.steps+1 }):=by
      show _=_
      rw [hv.out,if_neg omg,HVK.out]
    clear hz hv;generalize qa6 s.regs jb=vb at *;go_wp2_with fail;go_ret;rw [hv2.out];exact ⟨rfl,H5.out.h.bel,H5.out.h.t,H5.out.h.gl,H5.out.h.r,H5.out.h.n,H5.out.h.o,H5.out.h.c,H5.out.h.i,H5.out.h.rn,H5.out.h.ro,H5.out.h.no_⟩
  · have hzb:(qa6 s.regs jb != 0)=true:=by rw [bne_iff_ne];exact hz
    have hv2:Hid (qm7 cells ins ⟨27,(ja:Nat),(jb:Nat),(jc:Nat),(jk:Nat)⟩ s={ s with regs:=putK s.regs (ja:Nat) (qa6 s.regs jc),steps:=s.steps+1 }):=by
      show _=_
      rw [hv.out,if_pos hz]
    clear hz hv;generalize qa6 s.regs jb=vb at *;generalize qa6 s.regs jc=vc at *;have s1:=(qc6 w5 (p:=⟨gr,ja,none⟩) (q:=⟨gx,1,none⟩) (.int .i64 vc) (by simp;try omega)).trans x1;have s2:=(qc6 w5 (p:=⟨gr,ja,none⟩) (q:=⟨gx,3,none⟩) (.int .i64 vc) (by simp;try omega)).trans x3;have s3:=(qc6 w5 (p:=⟨gr,ja,none⟩) (q:=⟨gr,jc,none⟩) (.int .i64 vc) (by simp;try omega)).trans rc;go_upto_region 15 with fail;go_region_held3 (fun w' => w'.cell? ⟨gx,1,none⟩=some (.int .i64 (ja:Nat))∧w'.cell? ⟨gx,3,none⟩=some (.int .i64 (jc:Nat))∧w'.cell? ⟨gr,jc,none⟩=some (.int .i64 vc)) (first | go_keep | (refine ⟨?_,?_,?_⟩ <;> assumption)) (fail);go_wp2_with fail;go_ret;exact ⟨rfl,H5.out.drew.h.setR H5.out.hA ja vc _ rfl _ (by rw [hv2.out];exact put_put.symm) (by rw [hv2.out]) (by rw [hv2.out])⟩
theorem qz6 {z:Int} (h:0≤z):∃ j:Nat,z=(j:Nat):=⟨z.toNat,omg⟩
theorem does_any {p:PV} {i:Nat} {x:Ins} (hs:InsSafe p i x) (h:qf8 w0 w g a cells ins s) (hr:(a.nr:Int)=p.regs) (hc:a.nc=p.cells.length) (hn:a.nn=p.cells.length) (hi:a.ni=p.ins.length) (ho:a.no=p.outs.length) (h64:∀ z ∈ s.regs,In64 z) :
    Calls Tryz.prog 245 #[.pointer (some ⟨g,0,none⟩),.agg #[.int .i64 x.op,.int .i64 x.a,.int .i64 x.b,.int .i64 x.c,.int .i64 x.k]] w fun e w' => e=.returned (.int .i64 (vm7 x s.regs:Nat))∧qf8 w0 w' g a cells ins (qm7 cells ins x s):=by
  obtain ⟨op,xa,xb,xc,xk⟩:=x;obtain ⟨a0,a1,hb,hcc,h27,h21,h28,h29,h30,hab,hac,hak,hop⟩:=hs;simp only at a0 a1 hb hcc h27 h21 h28 h29 h30 hab hac hak hop;obtain ⟨ja,rfl⟩:=qz6 a0;have ha:ja<a.nr:=omg;have hov:¬ (op=30∨op=31)→vm7 ⟨op,(ja:Nat),xb,xc,xk⟩ s.regs=0:=fun q => by
    show (if (op=30∧atK s.regs (ja:Nat)=0)∨(op=31∧atK s.regs (ja:Nat)≠0) then xk.toNat else 0)=0
    rw [if_neg (fun h => q (h.elim (fun e => .inl e.1) (fun e => .inr e.1)))]
  rcases hop with q | q | q | q | q | q | q | q | q | q | q
  · rw [hov omg];exact does_1 h op (.inl q) ja xb xc xk ha
  · rw [hov omg];exact does_1 h op (.inr q) ja xb xc xk ha
  · rw [hov omg];obtain ⟨b0,b1⟩:=hb (.inl q);have n1:=hab (.inl q);obtain ⟨jb,rfl⟩:=qz6 b0;subst q;exact does_3 h ja jb xc xk ha omg omg
  · rw [hov omg];obtain ⟨b0,b1⟩:=hb (.inr (.inl q));have n1:=hab (.inr (.inl q));obtain ⟨jb,rfl⟩:=qz6 b0
    by_cases q7:7≤op
    · obtain ⟨c0,c1⟩:=hcc (.inl ⟨q7,q.2⟩);have n2:=hac (.inl ⟨q7,q.2⟩);obtain ⟨jc,rfl⟩:=qz6 c0;refine does_op h op ⟨q7,q.2⟩ ja jb jc xk ha omg omg omg omg ?_;have:=vm1 h64 (jb:Nat);unfold atK at this
      rwa [Int.toNat_natCast] at this
    · exact does_5 h op omg ja jb xc xk ha omg omg
  · rw [hov omg];obtain ⟨k0,k1⟩:=h21 (.inl q);obtain ⟨jk,rfl⟩:=qz6 k0;subst q;exact does_21 h ja xb xc jk ha omg
  · rw [hov omg];obtain ⟨b0,b1⟩:=hb (.inr (.inr q));obtain ⟨c0,c1⟩:=hcc (.inr q);obtain ⟨⟨k0,k1⟩,n1,n2⟩:=h27 q;have n3:=hak q;obtain ⟨jb,rfl⟩:=qz6 b0;obtain ⟨jc,rfl⟩:=qz6 c0;obtain ⟨jk,rfl⟩:=qz6 k0;subst q;exact does_27 h ja jb jc jk ha omg omg omg omg omg omg
  · rw [hov omg];obtain ⟨k0,k1⟩:=h28 q;obtain ⟨jk,rfl⟩:=qz6 k0;subst q;exact does_28 h ja xb xc jk ha omg
  · rw [hov omg];obtain ⟨k0,k1⟩:=h29 q;obtain ⟨jk,rfl⟩:=qz6 k0;subst q;exact does_29 h ja xb xc jk ha omg
  · exact does_30 h op (.inl q) ja xb xc xk ha (h30 (.inl q)).1
  · exact does_30 h op (.inr q) ja xb xc xk ha (h30 (.inr q)).1
  · rw [hov omg];obtain ⟨k0,k1⟩:=h21 (.inr q);obtain ⟨jk,rfl⟩:=qz6 k0;subst q;exact does_32 h ja xb xc jk ha omg
end
theorem elemCellC:qj3 Tryz.prog 23 187 (.agg #[.int .i64 0,.int .i64 0]) 2 16:=qj3.mk' Tryz.underlying23 (by kernel_rfl) rfl dcd
theorem elemInsC:qj3 Tryz.prog 24 144 (.agg #[.int .i64 0,.int .i64 0,.int .i64 0,.int .i64 0,.int .i64 0]) 5 40:=qj3.mk' Tryz.underlying24 (by kernel_rfl) rfl dcd
theorem cellE_oneC (x:Int × Int):∀ u ∈ cellE x,u.oneCell'=true:=by
  intro u hu;simp only [cellE,List.mem_cons,List.not_mem_nil,or_false] at hu;rcases hu with rfl | rfl <;> rfl
theorem insE_oneC (x:Ins):∀ u ∈ insE x,u.oneCell'=true:=by
  intro u hu;simp only [insE,List.mem_cons,List.not_mem_nil,or_false] at hu;rcases hu with rfl | rfl | rfl | rfl | rfl <;> rfl
theorem OwS.empty {α:Type} (size:Nat) (enc:α→List Value) (w:World) (e:TypeId):OwS size enc (w.alloc (.cells #[] e)) w.heap.size e (some ⟨w.heap.size,0,none⟩) 0 0 []:=by
  refine ⟨rfl,by simp,.inr ⟨w.heap.size,0,#[],rfl,Nat.le_refl _,heap_alloc_new w _,Nat.le_refl _,by unfold maxLen;omega,by simp,by simp⟩⟩
theorem qp9 (A:Option Addr) (n c:Nat) (l:List Int) (w:World) (hl:RI w A n l) (hn:n≤100000) :
    Calls Tryz.prog 145 #[.slice A n c] w fun e w' => ∃ A' c',e=.returned (.slice A' n c')∧Ow iv w' w.heap.size 3 A' n c' l∧Below w.heap.size w w':=by
  cases A with
  | none =>
    have h0:n=0:=by
      by_cases q:0<n
      · obtain ⟨b,o,e,_⟩:=hl.2 q;cases e
      · omega
    subst h0;have hl0:l=[]:=List.eq_nil_of_length_eq_zero hl.1;subst hl0;have hnil:∀ W,(binOp .eql 22 (.slice none 0 c) (.slice none 0 0)).run Tryz.prog W=.ok (.bool true) W:=fun W => Lib.run_eql_slice_nil_nil W 0 c Tryz.underlying22
    clear hl;go_enter Tryz.func145,Tryz.ntmps145;go_wp2;go_ret;exact ⟨none,0,rfl,Ow.nil _ _ _ _,Below.refl _ _⟩
  | some ad =>
    have HL:=hdd hl;have HE:=hdd (show ([]:List Int) ++ l=l from rfl);have hnil:∀ W,(binOp .eql 22 (.slice (some ad) n c) (.slice none 0 0)).run Tryz.prog W=.ok (.bool false) W:=fun W => Lib.run_eql_slice_some_nil W ad n c Tryz.underlying22
    clear hl;go_enter Tryz.func145,Tryz.ntmps145;go_wp2_with (first | (at_builtin;refine qc7 rfl rfl qk2 qt6 (s:=.tmp 5) (N:=n) (L:=l) rfl (Ow.new w 3 #[] [] rfl dcd) rfl (k:=l) (HL.out.below (B:=w.heap.size) ((Below.refl _ _).alloc nlr _) nlr).rd omg HE.out uml omg szz ?_;intro A2 c2 w2 hown2 hg2 hat2 hb2;have b2:Below w.heap.size w w2:=((Below.refl _ _).alloc nlr _).trans hb2) | fail "no arm");go_ret;exact ⟨A2,c2,rfl,hown2,b2⟩
theorem clone_cells (A:Option Addr) (n c:Nat) (l:List (Int × Int)) (w:World) (hl:RdS 2 cellE w A n l) (hn:n≤100000) :
    Calls Tryz.prog 197 #[.slice A n c] w fun e w' => ∃ A' c',e=.returned (.slice A' n c')∧OwS 2 cellE w' w.heap.size 187 A' n c' l∧Below w.heap.size w w':=by
  cases A with
  | none =>
    have h0:n=0:=by
      by_cases q:0<n
      · obtain ⟨b,o,e,_⟩:=hl.2.2 omg;cases e
      · omega
    subst h0;have hl0:l=[]:=List.eq_nil_of_length_eq_zero hl.1;subst hl0;have hnil:∀ W,(binOp .eql 23 (.slice none 0 c) (.slice none 0 0)).run Tryz.prog W=.ok (.bool true) W:=fun W => Lib.run_eql_slice_nil_nil W 0 c Tryz.underlying23
    clear hl;go_enter Tryz.func197,Tryz.ntmps197;go_wp2;go_ret;exact ⟨none,0,rfl,OwS.nil _ _ _ _ _,Below.refl _ _⟩
  | some ad =>
    have HL:=hdd hl;have HE:=hdd (show ([]:List (Int × Int)) ++ l=l from rfl);have hnil:∀ W,(binOp .eql 23 (.slice (some ad) n c) (.slice none 0 0)).run Tryz.prog W=.ok (.bool false) W:=fun W => Lib.run_eql_slice_some_nil W ad n c Tryz.underlying23
    clear hl;go_enter Tryz.func197,Tryz.ntmps197;go_wp2_with (first | (at_builtin;refine vj1 rfl rfl elemCellC cellE_oneC (s:=.tmp 5) (N:=n) (L:=l) rfl (OwS.empty 2 cellE w 187) rfl (k:=l) (HL.out.below (b:=w.heap.size) ((Below.refl _ _).alloc nlr _) nlr) omg HE.out uml omg szz ?_;intro A2 c2 w2 hown2 hg2 hat2 hb2;have b2:Below w.heap.size w w2:=((Below.refl _ _).alloc nlr _).trans hb2) | fail "no arm");go_ret;exact ⟨A2,c2,rfl,hown2,b2⟩
theorem clone_code (A:Option Addr) (n c:Nat) (l:List Ins) (w:World) (hl:RdS 5 insE w A n l) (hn:n≤100000) :
    Calls Tryz.prog 196 #[.slice A n c] w fun e w' => ∃ A' c',e=.returned (.slice A' n c')∧OwS 5 insE w' w.heap.size 144 A' n c' l∧Below w.heap.size w w':=by
  cases A with
  | none =>
    have h0:n=0:=by
      by_cases q:0<n
      · obtain ⟨b,o,e,_⟩:=hl.2.2 omg;cases e
      · omega
    subst h0;have hl0:l=[]:=List.eq_nil_of_length_eq_zero hl.1;subst hl0;have hnil:∀ W,(binOp .eql 24 (.slice none 0 c) (.slice none 0 0)).run Tryz.prog W=.ok (.bool true) W:=fun W => Lib.run_eql_slice_nil_nil W 0 c Tryz.underlying24
    clear hl;go_enter Tryz.func196,Tryz.ntmps196;go_wp2;go_ret;exact ⟨none,0,rfl,OwS.nil _ _ _ _ _,Below.refl _ _⟩
  | some ad =>
    have HL:=hdd hl;have HE:=hdd (show ([]:List Ins) ++ l=l from rfl);have hnil:∀ W,(binOp .eql 24 (.slice (some ad) n c) (.slice none 0 0)).run Tryz.prog W=.ok (.bool false) W:=fun W => Lib.run_eql_slice_some_nil W ad n c Tryz.underlying24
    clear hl;go_enter Tryz.func196,Tryz.ntmps196;go_wp2_with (first | (at_builtin;refine vj1 rfl rfl elemInsC insE_oneC (s:=.tmp 5) (N:=n) (L:=l) rfl (OwS.empty 5 insE w 144) rfl (k:=l) (HL.out.below (b:=w.heap.size) ((Below.refl _ _).alloc nlr _) nlr) omg HE.out uml omg szz ?_;intro A2 c2 w2 hown2 hg2 hat2 hb2;have b2:Below w.heap.size w w2:=((Below.refl _ _).alloc nlr _).trans hb2) | fail "no arm");go_ret;exact ⟨A2,c2,rfl,hown2,b2⟩
def sgn3 (op:Int):Int × Int × Bool:=if qy9 op then (qu3 op,qn6 op,true) else (0,0,false)
theorem sign_cases (op:Int):(op=5∨op=6∨op=7∨op=8∨op=9∨op=10∨op=11∨op=12∨op=13∨op=14∨op=15∨op=16∨op=17∨op=18∨op=19∨op=20)∨(op<5∨20<op):=omg
theorem sgn3_no {op:Int} (h:op<5∨20<op):sgn3 op=(0,0,false):=by
  unfold sgn3 qy9;rw [decide_eq_false omg];rfl
theorem qq2 (op:Int) (w:World):Calls Tryz.prog 271 #[.int .i64 op] w fun e w' => e=.returned (.tuple #[.int .i64 (sgn3 op).1,.int .i64 (sgn3 op).2.1,.bool (sgn3 op).2.2])∧w=w':=by
  rcases sign_cases op with h | h
  · rcases h with rfl | rfl | rfl | rfl | rfl | rfl | rfl | rfl | rfl | rfl | rfl | rfl | rfl | rfl | rfl | rfl
    all_goals
      go_enter Tryz.func271,Tryz.ntmps271;go_wp2;go_ret3;exact ⟨rfl,rfl⟩
  · rw [sgn3_no h];have b5:(op == 5)=false:=by rw [beq_eq_false_iff_ne];omega
    have b6:(op == 6)=false:=by rw [beq_eq_false_iff_ne];omega
    have b7:(op == 7)=false:=by rw [beq_eq_false_iff_ne];omega
    have b8:(op == 8)=false:=by rw [beq_eq_false_iff_ne];omega
    have b9:(op == 9)=false:=by rw [beq_eq_false_iff_ne];omega
    have b10:(op == 10)=false:=by rw [beq_eq_false_iff_ne];omega
    have b11:(op == 11)=false:=by rw [beq_eq_false_iff_ne];omega
    have b12:(op == 12)=false:=by rw [beq_eq_false_iff_ne];omega
    have b13:(op == 13)=false:=by rw [beq_eq_false_iff_ne];omega
    have b14:(op == 14)=false:=by rw [beq_eq_false_iff_ne];omega
    have b15:(op == 15)=false:=by rw [beq_eq_false_iff_ne];omega
    have b16:(op == 16)=false:=by rw [beq_eq_false_iff_ne];omega
    have b17:(op == 17)=false:=by rw [beq_eq_false_iff_ne];omega
    have b18:(op == 18)=false:=by rw [beq_eq_false_iff_ne];omega
    have b19:(op == 19)=false:=by rw [beq_eq_false_iff_ne];omega
    have b20:(op == 20)=false:=by rw [beq_eq_false_iff_ne];omega
    clear h;go_enter Tryz.func271,Tryz.ntmps271;go_wp2;go_ret3;exact ⟨rfl,rfl⟩
end Go.Proofs.YtmeebofhlilcmaaGreat
