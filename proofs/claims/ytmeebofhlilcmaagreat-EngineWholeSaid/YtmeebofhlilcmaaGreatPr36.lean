/- Parts. -/
import Derived.Test.YtmeebofhlilcmaaGreatPr35
import Derived.Test.YtmeebofhlilcmaaGreatPr21
set_option linter.unusedVariables false
set_option linter.unusedSimpArgs false
set_option maxRecDepth 100000
set_option maxHeartbeats 0
namespace Go.Proofs.YtmeebofhlilcmaaGreat
open Go.RowKit
theorem op_7_20 {op:Int}(h:7<=op/\op<=20):op=7\/op=8\/op=9\/op=10\/op=11\/op=12\/op=13\/op=14\/op=15\/op=16\/op=17\/op=18\/op=19\/op=20:=aS
theorem doK_8 (a b:Int):wrap64 (a+wrap64 (-b))=wrap64 (a - b):=by unfold wrap64;omega
theorem refdo03_any (op a b:Int)(w:World)(ho:7<=op/\op<=20)(ha:In64 a)(hb':In64 b):Ca 266 #[I op,I a,I b] w fun e w'=>e=.returned (.tuple #[I (doK op a b),.bool true])/\Below w.heap.size w w':=by
 have c7:=fun w=>jW a b w ha hb'
 have c8:=fun w=>mh b w hb'
 have c8':=fun w=>jW a (wrap64 (-b)) w ha (iU _)
 rw[doK_8] at c8';have c9:=fun w=>qb a b w ha hb'
 have c10:=fun w=>qE a b w ha hb'
 have c11:=fun w=>refmod03_any a b w ha hb'
 have hf:=qF;rcases op_7_20 ho with rfl | rfl | rfl | rfl | rfl | rfl | rfl | rfl | rfl | rfl | rfl | rfl | rfl | rfl
 · rw[show doK 7 a b=wrap64 (a+b) from rfl];generalize wrap64 (a+b)=R at *;go_enter Tryz.func266,Tryz.ntmps266;go_wp2_with (first | (go_at_call 299;go_call (c7 _) as e w1 ⟨rfl,hb1⟩) | fail);go_ret2;exact⟨rfl,hb1⟩
 · rw[show doK 8 a b=wrap64 (a - b) from rfl];generalize wrap64 (a - b)=R at *;generalize wrap64 (-b)=b2 at *;go_enter Tryz.func266,Tryz.ntmps266;go_wp2_with (first | ((go_at_call 297;go_call (c8 _) as e w1 ⟨rfl,hb1⟩);have s1:=hb1.size) | (go_at_call 299;go_call (c8' _) as e w2 ⟨rfl,hb2⟩) | fail);go_ret2;exact⟨rfl,hb1.trans (hb2.mono s1)⟩
 · rw[show doK 9 a b=wrap64 (a * b) from rfl];generalize wrap64 (a * b)=R at *;go_enter Tryz.func266,Tryz.ntmps266;go_wp2_with (first | (go_at_call 300;go_call (c9 _) as e w1 ⟨rfl,hb1⟩) | fail);go_ret2;exact⟨rfl,hb1⟩
 · rw[show doK 10 a b=divK a b from rfl];generalize divK a b=R at *;go_enter Tryz.func266,Tryz.ntmps266;go_wp2_with (first | (go_at_call 301;go_call (c10 _) as e w1 ⟨rfl,hb1⟩) | fail);go_ret2;exact⟨rfl,hb1⟩
 · rw[show doK 11 a b=modK a b from rfl];generalize modK a b=R at *;go_enter Tryz.func266,Tryz.ntmps266;go_wp2_with (first | (go_at_call 302;go_call (c11 _) as e w1 ⟨rfl,hb1⟩) | fail);go_ret2;exact⟨rfl,hb1⟩
 all_goals
  clear c7 c8 c8' c9 c10 c11
 · rw[show doK 12 a b=dh (a == b) from rfl];go_enter Tryz.func266,Tryz.ntmps266;go_wp2_with (first | (go_at_call 298;go_call (hf _ _) as e w1 ⟨rfl,rfl⟩) | fail);go_ret2;exact⟨rfl,Below.refl _ _⟩
 · rw[show doK 13 a b=dh (a != b) from rfl];go_enter Tryz.func266,Tryz.ntmps266;go_wp2_with (first | (go_at_call 298;go_call (hf _ _) as e w1 ⟨rfl,rfl⟩) | fail);go_ret2;exact⟨rfl,Below.refl _ _⟩
 · rw[show doK 14 a b=dh (decide (a<b)) from rfl];go_enter Tryz.func266,Tryz.ntmps266;go_wp2_with (first | (go_at_call 298;go_call (hf _ _) as e w1 ⟨rfl,rfl⟩) | fail);go_ret2;exact⟨rfl,Below.refl _ _⟩
 · rw[show doK 15 a b=dh (!decide (b<a)) from by rw[show doK 15 a b=dh (decide (a<=b)) from rfl,<- decide_not];congr 1;exact decide_eq_decide.2 Int.not_lt.symm];go_enter Tryz.func266,Tryz.ntmps266;go_wp2_with (first | (go_at_call 298;go_call (hf _ _) as e w1 ⟨rfl,rfl⟩) | fail);go_ret2;exact⟨rfl,Below.refl _ _⟩
 · rw[show doK 16 a b=dh (decide (b<a)) from rfl];go_enter Tryz.func266,Tryz.ntmps266;go_wp2_with (first | (go_at_call 298;go_call (hf _ _) as e w1 ⟨rfl,rfl⟩) | fail);go_ret2;exact⟨rfl,Below.refl _ _⟩
 · rw[show doK 17 a b=dh (!decide (a<b)) from by rw[show doK 17 a b=dh (decide (b<=a)) from rfl,<- decide_not];congr 1;exact decide_eq_decide.2 Int.not_lt.symm];go_enter Tryz.func266,Tryz.ntmps266;go_wp2_with (first | (go_at_call 298;go_call (hf _ _) as e w1 ⟨rfl,rfl⟩) | fail);go_ret2;exact⟨rfl,Below.refl _ _⟩
 · rw[show doK 18 a b=dh ((a != 0) && (b != 0)) from rfl];have ft:dh true=1:=rfl;have ff:dh false=0:=rfl
   cases hx:(a != 0) <;> cases hy:(b != 0) <;>
   (go_enter Tryz.func266,Tryz.ntmps266
    go_wp2_with (first | (go_at_call 298;go_call (hf _ _) as e w1 ⟨rfl,rfl⟩) | fail);go_ret2;exact⟨rfl,Below.refl _ _⟩)
 · rw[show doK 19 a b=dh ((a != 0) || (b != 0)) from rfl];have ft:dh true=1:=rfl;have ff:dh false=0:=rfl
   cases hx:(a != 0) <;> cases hy:(b != 0) <;>
   (go_enter Tryz.func266,Tryz.ntmps266
    go_wp2_with (first | (go_at_call 298;go_call (hf _ _) as e w1 ⟨rfl,rfl⟩) | fail);go_ret2;exact⟨rfl,Below.refl _ _⟩)
 · rw[show doK 20 a b=dh ((a != 0) != (b != 0)) from rfl];have ft:dh true=1:=rfl;have ff:dh false=0:=rfl
   cases hx:(a != 0) <;> cases hy:(b != 0) <;>
   (go_enter Tryz.func266,Tryz.ntmps266
    go_wp2_with (first | (go_at_call 298;go_call (hf _ _) as e w1 ⟨rfl,rfl⟩) | fail);go_ret2;exact⟨rfl,Below.refl _ _⟩)
section
variable {w w':World} {x:PA} {p:PV}
def progL (x:PA)(p:PV):List Value:=[.slice x.A1 x.n1 x.c1,.slice x.A2 x.n2 x.c2,I p.regs,.slice x.A3 x.n3 x.c3,.slice x.A4 x.n4 x.c4]
structure ig (w W:World)(gB:Nat)(x:PA)(p:PV):Prop where
 bel:Below w.heap.size w W
 b:Blk W gB 26 (progL x p)
 rd:ca W x p
theorem ig.of (h:ca w x p):ig w (w.alloc (.cells #[.slice x.A1 x.n1 x.c1,.slice x.A2 x.n2 x.c2,I p.regs,.slice x.A3 x.n3 x.c3,.slice x.A4 x.n4 x.c4] 26)) w.heap.size x p:=by
 have hb:Below w.heap.size w (w.alloc (.cells #[.slice x.A1 x.n1 x.c1,.slice x.A2 x.n2 x.c2,I p.regs,.slice x.A3 x.n3 x.c3,.slice x.A4 x.n4 x.c4] 26)):=(Below.refl _ _).alloc aW _;exact⟨hb,Blk.top _ rfl rfl,h.below (b:=w.heap.size) hb aW⟩
theorem reffirst_any (h:ca w x p)(hn3:p.cells.length<=100000):Ca 128 #[.agg #[.slice x.A1 x.n1 x.c1,.slice x.A2 x.n2 x.c2,I p.regs,.slice x.A3 x.n3 x.c3,.slice x.A4 x.n4 x.c4]] w fun e w'=>∃ A c,e=.returned (.slice A x.n3 c)/\Ow iv w' w.heap.size 3 A x.n3 c (es p)/\Below w.heap.size w w':=by
 have O:=ig.of h;have hlen:=h.r3.1;have M3:x.n3<=1000000000000:=aS;clear h hn3;go_enter Tryz.func128,Tryz.ntmps128;go_upto_region 1 with fail;refine eG (fun W=>ig w W w.heap.size x p) O ?_;clear O;intro W O;have HB:=aT O;have hs:=O.bel.size;have HX:=aT O.b;have r3:=O.rd.r3;have lB:=O.b.lt;clear O;go_wp2_with fail;go_loopw [3,4] (fun v i wr=>∃ (k:Nat) (A:Option Addr) (c:Nat),k<=x.n3/\i=I (k:Nat)/\v=.slice A k c/\Ow iv wr W.heap.size 3 A k c ((es p).take k)/\Below W.heap.size W wr) (fun _ i _=>x.n3 - (intOf i).toNat)
 case atStart=>exact⟨0,none,0,aS,rfl,rfl,Ow.nil _ _ _ _,Below.refl _ _⟩
 case round=>
  obtain⟨k,A,c,hk,rfl,rfl,hown,hb⟩:=hrel;have hbs:=hb.size;have e3:=(HX.out.below hb lB).c3
  by_cases hlt:k<x.n3
  · obtain⟨b,o,y,hA,hbl,hx,hc⟩:=(r3.below hb aW).at_ im aS hlt;have e0:wr.cell? ⟨b,o+k * 2,none⟩=some (I y.1):=hc 0 aS;have e1:wr.cell? ⟨b,o+k * 2+1,none⟩=some (I y.2):=hc 1 aS;have hL:=aT (qm (p:=p) hx);clear hc hx r3;rw[hA] at e3;clear hA;obtain⟨t,f⟩:=y;simp only at e0 e1 hL;go_wp2_with (first | (at_builtin;refine dw rfl rfl (dS) (eS) (s:=.tmp 12) (N:=k+1) (L:=(es p).take (k+1)) rfl (hown.below (b:=wr.heap.size) bc be) rfl (k:=[f]) (Rd.of_block (l:=[f]) (dr _ _ ba) rfl) rfl (hL.out) bM aS be ?_;intro A5 c5 w5 hown5 hg5 hat5 hb5) | fail);replace hb5:=bH (a:=W) (B:=W.heap.size) bc hb5 be;go_roundw
    case rel=>first
     | exact⟨k+1,A5,c5,aS,by go_num,rfl,hown5,hb5⟩
     | ((repeat apply Exists.intro);exact⟨⟨k+1,A5,c5,aS,by go_num,rfl,hown5,hb5⟩,rfl⟩)
    case measure=>simp[intOf];omega
  · have hkn:k=x.n3:=aS;subst hkn;have hge:((es p).take x.n3)=es p:=au (by unfold es;rw[ay];omega);rw[hge] at hown;have HO:=aT hown;clear hown hge;go_wp2;go_ret;exact⟨A,c,rfl,HO.out.rebase hs,HB.out.bel.trans (hb.mono hs)⟩
theorem value_ok {p:PV}(hm:mayB p=true){i:Nat}(hi:i<p.cells.length)(v:Int):fu (cK p.cells i).1 v=okAt (cK p.cells i).1 v:=by
 have h:=(dN.1 hm).2.2.2.2.2.2.1 i hi;generalize (cK p.cells i).1=t at *;generalize (cK p.cells i).2=f at *;unfold fu at h ⊢;unfold okAt
 by_cases q1:t=1
 · subst q1;simp
 · by_cases q2:t=2
   · subst q2;simp
   · have e1:(t == 1)=false:=by rw[ae];exact q1
     have e2:(t == 2)=false:=by rw[ae];exact q2
     rw[e1,e2] at h;simp at h
theorem reffits29_any (h:ca w x p)(hm:mayB p=true)(B:Option Addr)(n d:Nat)(l:List Int)(hl:RI w B n l)(hn:n<=maxLen):Ca 212 #[.agg #[.slice x.A1 x.n1 x.c1,.slice x.A2 x.n2 x.c2,I p.regs,.slice x.A3 x.n3 x.c3,.slice x.A4 x.n4 x.c4],.slice B n d] w fun e w'=>e=.returned (.bool (gO p l))/\Below w.heap.size w w':=by
 have O:=ig.of h;have hI:=@iC p l;generalize gO p l=z at *;have r3:=h.r3;have k3:=h.k3;rw[r3.1,hl.1] at hI;have HI:=aT hI;have HV:=aT (show ∀ i,i<x.n3->∀ v,fu (cK p.cells i).1 v=okAt (cK p.cells i).1 v from fun i hi v=>value_ok hm (by have:=r3.1;omega) v);have M3:x.n3<=9223372036854775807:=by unfold maxLen at k3;omega
 have hmm:n<=9223372036854775807:=by unfold maxLen at hn;omega
 clear k3 h hI hn hm r3;go_enter Tryz.func212,Tryz.ntmps212;go_upto_region 1 with fail;refine eG (fun W=>ig w W w.heap.size x p) O ?_;clear O;intro W O;have HB:=aT O;have hs:=O.bel.size;have HX:=aT O.b;have r3:=O.rd.r3;have lB:=O.b.lt;replace hl:=hl.below O.bel aW;have y3:=O.b.c3;clear O
 by_cases he:n=x.n3
 · subst he;have f3:(((x.n3:Nat):Int) != (x.n3:Int))=false:=by simp
   have HZ:Hid (z=true ↔ ∀ i,i<x.n3->okAt (cK p.cells i).1 (aZ l i)=true):=by
    show _ ↔ _
    constructor
    · intro h;exact (HI.out.1 h).2
    · intro h;exact HI.out.2 ⟨rfl,h⟩
   clear HI;go_wp2_with fail;go_loopw [5] (fun i wr=>∃ k:Nat,k<=x.n3/\i=I (k:Nat)/\Hid (∀ i,i<k->okAt (cK p.cells i).1 (aZ l i)=true)/\Below W.heap.size W wr) (fun i _=>x.n3 - (intOf i).toNat)
   case atStart=>exact⟨0,aS,rfl,fun i hi=>absurd hi aS,Below.refl _ _⟩
   case round=>
    obtain⟨k,hk,rfl,hall,hbel⟩:=hrel;have hbs:=hbel.size;have e3:=(HX.out.below hbel lB).c3
    by_cases hlt:k<x.n3
    · have hne:¬ (x.n3:Int)<=(k:Int):=aS;obtain⟨b,o,y,hA,hb,hx,hc⟩:=(r3.below hbel aW).at_ im aS hlt;have e0:wr.cell? ⟨b,o+k * 2,none⟩=some (I y.1):=hc 0 aS;obtain⟨b2,o2,rfl,hb2,hc2⟩:=(hl.below hbel aW).at_ hlt;have hxk:=aT (jp hx);have hval:=fun w=>pF y.1 (aZ l k) w
      have hvo:=HV.out k hlt (aZ l k);rw[hxk.out] at hvo;rw[hvo] at hval;clear hc hx r3 hl hvo y3;rw[hA] at e3;clear hA;obtain⟨t,f⟩:=y;simp only at e0 hval
      cases hvb:okAt t (aZ l k) with
      | true=>
        have hall':Hid (∀ i,i<k+1->okAt (cK p.cells i).1 (aZ l i)=true):=fun i hi=>by
         rcases aw i k with h | h
         · exact hall.out i h
         · rw[show i=k from by omega,hxk.out];exact hvb
        rw[hvb] at hval;clear hvb hall;generalize aZ l k=v at *;go_upto_region 6 with fail;go_region_held3 (fun w'=>w'.cell? ⟨w.heap.size,3,none⟩=some (.slice (some ⟨b,o,none⟩) x.n3 x.c3)/\w'.cell? ⟨b,o+k * 2,none⟩=some (I t)/\w'.cell? ⟨b2,o2+k,none⟩=some (I v)) (first | go_keep | (refine⟨?_,?_,?_⟩ <;> assumption)) (first | (go_at_call 172;go_call (hval _) as e w5 ⟨rfl,rfl⟩) | fail);go_wp2_with fail;go_roundw
        case rel=>first
         | exact⟨k+1,aS,by go_num,hall',(Below.drew hbel)⟩
         | ((repeat apply Exists.intro);exact⟨⟨k+1,aS,by go_num,hall',(Below.drew hbel)⟩,rfl⟩)
        case measure=>simp[intOf];omega
      | false=>
        have hz:Hid (z=false):=by
         show z=false
         rw[Bool.eq_false_iff];intro hc;have h9:=HZ.out.1 hc k hlt;rw[hxk.out,hvb] at h9
         cases h9
        rw[hvb] at hval;clear hvb hall;generalize aZ l k=v at *;go_upto_region 6 with fail;go_region_held3 (fun w'=>w'.cell? ⟨w.heap.size,3,none⟩=some (.slice (some ⟨b,o,none⟩) x.n3 x.c3)/\w'.cell? ⟨b,o+k * 2,none⟩=some (I t)/\w'.cell? ⟨b2,o2+k,none⟩=some (I v)) (first | go_keep | (refine⟨?_,?_,?_⟩ <;> assumption)) (first | (go_at_call 172;go_call (hval _) as e w5 ⟨rfl,rfl⟩) | fail);go_wp2_with fail;go_ret;exact⟨cO hz.out.symm,HB.out.bel.trans ((show Below W.heap.size W _ from bc).mono hs)⟩
    · have hkn:k=x.n3:=aS;subst hkn;have hge:((x.n3:Nat):Int)<=(x.n3:Int):=aS;have hz:Hid (z=true):=HZ.out.2 hall.out;clear HZ hall;go_wp2;go_ret;exact⟨cO hz.out.symm,HB.out.bel.trans (hbel.mono hs)⟩
 · have f3:(((n:Nat):Int) != (x.n3:Int))=true:=by rw[af];omega
   have hz:Hid (z=false):=by
    show z=false
    rw[Bool.eq_false_iff];intro hc;exact he (HI.out.1 hc).1
   clear he HI;go_wp2_with fail;go_ret;exact⟨cO hz.out.symm,HB.out.bel⟩
end
theorem gz {B:Nat}{w w':World}(hb:Below B w w'){b o:Nat}(hlt:b<B):w'.cell? ⟨b,o,none⟩=w.cell? ⟨b,o,none⟩:=by
 have:=hb.block b hlt;simp only[World.cell?,this]
section
variable {w:World} {B:Option Addr} {n d:Nat} {r:List Int}
theorem lz {P:Program}{C:Code}{Q:Exit->Act->World->Prop}{e:Act}{v0 v1 v2 v3 v4:Value}(hr:RI w B n r)(h:∀ W,(W.cell? ⟨w.heap.size,0,none⟩=some v0/\W.cell? ⟨w.heap.size,1,none⟩=some v1/\W.cell? ⟨w.heap.size,2,none⟩=some v2/\W.cell? ⟨w.heap.size,3,none⟩=some v3/\W.cell? ⟨w.heap.size,4,none⟩=some v4)->w.heap.size<W.heap.size->Hid (Below w.heap.size w W)->Hid (RI W B n r)->w.heap.size<=W.heap.size->C.wp P Q e W) :
 C.wp P Q e (w.alloc (.cells #[v0,v1,v2,v3,v4] 144)):=by
 have hb:Below w.heap.size w (w.alloc (.cells #[v0,v1,v2,v3,v4] 144)):=(Below.refl _ _).alloc aW _;have X:Blk (w.alloc (.cells #[v0,v1,v2,v3,v4] 144)) w.heap.size 144 [v0,v1,v2,v3,v4]:=Blk.top _ rfl rfl;exact h _ (blk5 X) X.lt (aT hb) (aT (hr.below (B:=w.heap.size) hb aW)) hb.size
theorem rk_k (hr:RI w B n r)(op a b c k:Int)(ho:op=1\/op=2) :
 Ca 213 #[.agg #[I op,I a,I b,I c,I k],.slice B n d] w fun e w'=>e=.returned (I k)/\Below w.heap.size w w':=by
 rcases ho with rfl | rfl
 all_goals (
  have HR0:=aT hr;clear hr;go_enter Tryz.func213,Tryz.ntmps213;go_upto_region 1 with fail;refine lz HR0.out ?_;clear HR0;rintro w4 ⟨x0,x1,x2,x3,x4⟩ lx B4 R4 sz4;go_wp2_with fail;go_ret;exact⟨rfl,B4.out⟩)
theorem rk_3 (hr:RI w B n r)(jb:Nat)(a c k:Int)(hb:jb<n) :
 Ca 213 #[.agg #[I 3,I a,I (jb:Nat),I c,I k],.slice B n d] w fun e w'=>e=.returned (I (aZ r jb))/\Below w.heap.size w w':=by
 have HR0:=aT hr;clear hr;go_enter Tryz.func213,Tryz.ntmps213;go_upto_region 1 with fail;refine lz HR0.out ?_;clear HR0;rintro w4 ⟨x0,x1,x2,x3,x4⟩ lx B4 R4 sz4;obtain⟨b1,o1,rfl,hb1,hc1⟩:=R4.out.at_ hb;go_wp2_with fail;go_ret;exact⟨rfl,B4.out⟩
theorem rk_5 (hr:RI w B n r)(op:Int)(ho:op=5\/op=6)(jb:Nat)(a c k:Int)(hb:jb<n)(h64:In64 (aZ r jb)) :
 Ca 213 #[.agg #[I op,I a,I (jb:Nat),I c,I k],.slice B n d] w fun e w'=>e=.returned (I (oneK op (aZ r jb)))/\Below w.heap.size w w':=by
 have hone:=fun w=>refone03_any op (aZ r jb) w ho h64
 clear h64;have n3:(op == 3)=false:=by rw[ae];omega
 rcases (show (op == 5)=true\/((op == 5)=false/\(op == 6)=true) from by rcases ho with rfl | rfl <;> simp) with n5 | ⟨n5,n6⟩
 all_goals (
  clear ho;have HR0:=aT hr;clear hr;go_enter Tryz.func213,Tryz.ntmps213;go_upto_region 1 with fail;refine lz HR0.out ?_;clear HR0;rintro w4 ⟨x0,x1,x2,x3,x4⟩ lx B4 R4 sz4;obtain⟨b1,o1,rfl,hb1,hc1⟩:=R4.out.at_ hb;go_upto_region 4 with fail;go_region_held3 (fun w'=>w'.cell? ⟨w.heap.size,0,none⟩=some (I op)/\w'.cell? ⟨w.heap.size,2,none⟩=some (I (jb:Nat))/\w'.cell? ⟨b1,o1+jb,none⟩=some (I (aZ r jb))) (first | go_keep | (refine⟨?_,?_,?_⟩ <;> assumption)) (first | ((go_at_call 265;go_call (hone _) as e w5 ⟨rfl,hb5⟩);have b45:Below w4.heap.size w4 w5:=bH (a:=w4) (B:=w4.heap.size) bc hb5 be;have B5:=aT (B4.out.trans (b45.mono sz4));have q0:=(gz b45 lx).trans x0;have q2:=(gz b45 lx).trans x2;have q1:=(gz b45 hb1).trans hc1) | fail);go_wp2_with fail;go_ret;exact⟨rfl,B5.out⟩)
theorem rk_27 (hr:RI w B n r)(jb jc jk:Nat)(a:Int)(hb:jb<n)(hc:jc<n)(hk:jk<n) :
 Ca 213 #[.agg #[I 27,I a,I (jb:Nat),I (jc:Nat),I (jk:Nat)],.slice B n d] w fun e w'=>e=.returned (I (if aZ r jb≠0 then aZ r jc else aZ r jk))/\Below w.heap.size w w':=by
 by_cases q:aZ r jb≠0
 · rw[if_pos q];have b0:(aZ r jb != 0)=true:=by rw[af];exact q
   have HR0:=aT hr;clear hr;go_enter Tryz.func213,Tryz.ntmps213;go_upto_region 1 with fail;refine lz HR0.out ?_;clear HR0;rintro w4 ⟨x0,x1,x2,x3,x4⟩ lx B4 R4 sz4;obtain⟨b1,o1,e1,hb1,hc1⟩:=R4.out.at_ hb;obtain⟨b2,o2,e2,hb2,hc2⟩:=R4.out.at_ hc;subst e1;injection e2 with e2;injection e2 with e3 e4 _;subst e3 e4;clear q;go_wp2_with fail;go_ret;exact⟨rfl,B4.out⟩
 · rw[if_neg q];have b0:(aZ r jb != 0)=false:=by rw[bne_eq_false_iff_eq];exact Decidable.not_not.1 q
   have HR0:=aT hr;clear hr;go_enter Tryz.func213,Tryz.ntmps213;go_upto_region 1 with fail;refine lz HR0.out ?_;clear HR0;rintro w4 ⟨x0,x1,x2,x3,x4⟩ lx B4 R4 sz4;obtain⟨b1,o1,e1,hb1,hc1⟩:=R4.out.at_ hb;obtain⟨b2,o2,e2,hb2,hc2⟩:=R4.out.at_ hk;subst e1;injection e2 with e2;injection e2 with e3 e4 _;subst e3 e4;clear q;go_wp2_with fail;go_ret;exact⟨rfl,B4.out⟩
theorem rk_op (hr:RI w B n r)(op:Int)(ho:7<=op/\op<=20)(jb jc:Nat)(a k:Int)(hb:jb<n)(hc:jc<n)(h64:In64 (aZ r jb))(h64c:In64 (aZ r jc)) :
 Ca 213 #[.agg #[I op,I a,I (jb:Nat),I (jc:Nat),I k],.slice B n d] w fun e w'=>e=.returned (I (doK op (aZ r jb) (aZ r jc)))/\Below w.heap.size w w':=by
 have hdo:=fun w=>refdo03_any op (aZ r jb) (aZ r jc) w ho h64 h64c
 have n3:(op == 3)=false:=by rw[ae];omega
 have n5:(op == 5)=false:=by rw[ae];omega
 have n6:(op == 6)=false:=by rw[ae];omega
 have n27:(op == 27)=false:=by rw[ae];omega
 have d7:decide (op ≥ 7)=true:=am ho.1;have d20:=am ho.2;clear ho h64 h64c;have HR0:=aT hr;clear hr;go_enter Tryz.func213,Tryz.ntmps213;go_upto_region 1 with fail;refine lz HR0.out ?_;clear HR0;rintro w4 ⟨x0,x1,x2,x3,x4⟩ lx B4 R4 sz4;obtain⟨b1,o1,e1,hb1,hc1⟩:=R4.out.at_ hb;obtain⟨b2,o2,e2,hb2,hc2⟩:=R4.out.at_ hc;subst e1;injection e2 with e2;injection e2 with e3 e4 _;subst e3 e4;go_upto_region 11 with fail;go_region_held3 (fun w'=>w'.cell? ⟨w.heap.size,0,none⟩=some (I op)/\w'.cell? ⟨w.heap.size,2,none⟩=some (I (jb:Nat))/\w'.cell? ⟨w.heap.size,3,none⟩=some (I (jc:Nat))/\w'.cell? ⟨b1,o1+jb,none⟩=some (I (aZ r jb))/\w'.cell? ⟨b1,o1+jc,none⟩=some (I (aZ r jc))) (first | go_keep | (refine⟨?_,?_,?_,?_,?_⟩ <;> assumption)) (first | ((go_at_call 266;go_call (hdo _) as e w5 ⟨rfl,hb5⟩);have b45:Below w4.heap.size w4 w5:=bH (a:=w4) (B:=w4.heap.size) bc hb5 be;have B5:=aT (B4.out.trans (b45.mono sz4));have q0:=(gz b45 lx).trans x0;have q2:=(gz b45 lx).trans x2;have q3:=(gz b45 lx).trans x3;have q1:=(gz b45 hb1).trans hc1;have q4:=(gz b45 hb1).trans hc2) | fail);go_wp2_with fail;go_ret;exact⟨rfl,B5.out⟩
theorem rreckon_any {p:PV}{i:Nat}{y:Ins}(hs:ma p i y)(hr:RI w B n r)(hn:(n:Int)=p.regs)(h64:∀ z ∈ r,In64 z)(cells ins:List Int)(q21:y.op≠21)(q28:y.op≠28)(q29:y.op≠29)(q30:y.op≠30)(q31:y.op≠31)(q32:y.op≠32) :
 Ca 213 #[.agg #[I y.op,I y.a,I y.b,I y.c,I y.k],.slice B n d] w fun e w'=>e=.returned (I (iV cells ins y r))/\Below w.heap.size w w':=by
 obtain⟨op,xa,xb,xc,xk⟩:=y;obtain⟨a0,a1,hb,hcc,h27,h21,h28,h29,h30,hab,hac,hak,hop⟩:=hs;simp only at a0 a1 hb hcc h27 h21 h28 h29 h30 hab hac hak hop q21 q28 q29 q30 q31 q32;have hin:∀ j:Nat,In64 (aZ r j):=fun j=>by
  have:=jX h64 (j:Nat);unfold atK at this
  rwa [ax] at this
 rcases hop with q | q | q | q | q | q | q | q | q | q | q
 · subst q;exact rk_k hr 1 xa xb xc xk (.inl rfl)
 · subst q;exact rk_k hr 2 xa xb xc xk (.inr rfl)
 · obtain⟨b0,b1⟩:=hb (.inl q);obtain⟨jb,rfl⟩:=fq b0;subst q;exact rk_3 hr jb xa xc xk aS
 · obtain⟨b0,b1⟩:=hb (.inr (.inl q));obtain⟨jb,rfl⟩:=fq b0
   by_cases q7:7<=op
   · obtain⟨c0,c1⟩:=hcc (.inl ⟨q7,q.2⟩);obtain⟨jc,rfl⟩:=fq c0;have hg:iV cells ins ⟨op,xa,(jb:Nat),(jc:Nat),xk⟩ r=doK op (aZ r jb) (aZ r jc):=by
      unfold iV atK;simp only;rw[if_neg aS,if_neg aS,if_neg aS,if_neg aS,if_neg aS,if_pos ⟨q7,q.2⟩,ax,ax]
     rw[hg];exact rk_op hr op ⟨q7,q.2⟩ jb jc xa xk aS aS (hin jb) (hin jc)
   · have ho:op=5\/op=6:=aS;have hg:iV cells ins ⟨op,xa,(jb:Nat),xc,xk⟩ r=oneK op (aZ r jb):=by rcases ho with rfl | rfl <;> rfl
     rw[hg];exact rk_5 hr op ho jb xa xc xk aS (hin jb)
 · exact absurd q q21
 · obtain⟨b0,b1⟩:=hb (.inr (.inr q));obtain⟨c0,c1⟩:=hcc (.inr q);obtain⟨⟨k0,k1⟩,n1,n2⟩:=h27 q;obtain⟨jb,rfl⟩:=fq b0;obtain⟨jc,rfl⟩:=fq c0;obtain⟨jk,rfl⟩:=fq k0;subst q;exact rk_27 hr jb jc jk xa aS aS aS
 · exact absurd q q28
 · exact absurd q q29
 · exact absurd q q30
 · exact absurd q q31
 · exact absurd q q32
end
structure RTk (w0 w:World)(gr nr:Nat)(An:Option Addr)(nn cn go no:Nat)(s:VS):Prop where
 bel:Below w0.heap.size w0 w
 r:Ow iv w w0.heap.size 3 (some ⟨gr,0,none⟩) nr nr s.regs
 n:Ow iv w w0.heap.size 3 An nn cn s.next
 o:Ow iv w w0.heap.size 3 (some ⟨go,0,none⟩) no no s.out
 rn:∀ b,An.map (·.block)=some b->gr≠b
 ro:gr≠go
 no_:∀ b,An.map (·.block)=some b->go≠b
section
variable {w0 w w':World} {gr nr nn cn go no:Nat} {An:Option Addr} {s:VS}
theorem RTk.below (h:RTk w0 w gr nr An nn cn go no s)(hb:Below w.heap.size w w'):RTk w0 w' gr nr An nn cn go no s :=
 ⟨h.bel.trans (hb.mono h.bel.size),h.r.below hb aW,h.n.below hb aW,h.o.below hb aW,h.rn,h.ro,h.no_⟩
theorem RTk.drew (h:RTk w0 w gr nr An nn cn go no s):RTk w0 w.drew gr nr An nn cn go no s:=h.below (Below.drew (Below.refl _ _))
theorem RTk.setR (h:RTk w0 w gr nr An nn cn go no s)(j:Nat)(v:Int)(u:Value)(hu:u=I v)(s':VS)(h1:s'.regs=putK s.regs (j:Nat) v)(h2:s'.next=s.next)(h3:s'.out=s.out):RTk w0 (w.setCell ⟨gr,j,none⟩ u) gr nr An nn cn go no s':=by
 subst hu;have k:Keep (·=gr) w (w.setCell ⟨gr,j,none⟩ (I v)):=Keep.one (dU _);have hg:=h.r.lt gr rfl;refine⟨h.bel.trans (k.below (fun b e=>by rw[e];exact hg.1) h.bel.size),?_,by rw[h2];exact h.n.kp k (fun b e q=>h.rn b e q.symm),by rw[h3];exact h.o.kp k (fun b e q=>h.ro ms),h.rn,h.ro,h.no_⟩;rw[h1];have:=h.r.set j v (I v) rfl;simpa [putK] using this
theorem RTk.setO (h:RTk w0 w gr nr An nn cn go no s)(j:Nat)(v:Int)(u:Value)(hu:u=I v)(s':VS)(h1:s'.out=putK s.out (j:Nat) v)(h2:s'.regs=s.regs)(h3:s'.next=s.next):RTk w0 (w.setCell ⟨go,j,none⟩ u) gr nr An nn cn go no s':=by
 subst hu;have k:Keep (·=go) w (w.setCell ⟨go,j,none⟩ (I v)):=Keep.one (dU _);have hg:=h.o.lt go rfl;refine⟨h.bel.trans (k.below (fun b e=>by rw[e];exact hg.1) h.bel.size),by rw[h2];exact h.r.kp k (fun b e q=>h.ro ms),by rw[h3];exact h.n.kp k (fun b e q=>h.no_ b e q.symm),?_,h.rn,h.ro,h.no_⟩;rw[h1];have:=h.o.set j v (I v) rfl;simpa [putK] using this
theorem RTk.setN {gn:Nat}(h:RTk w0 w gr nr (some ⟨gn,0,none⟩) nn cn go no s)(j:Nat)(v:Int)(u:Value)(hu:u=I v)(s':VS)(h1:s'.next=putK s.next (j:Nat) v)(h2:s'.regs=s.regs)(h3:s'.out=s.out):RTk w0 (w.setCell ⟨gn,j,none⟩ u) gr nr (some ⟨gn,0,none⟩) nn cn go no s':=by
 subst hu;have k:Keep (·=gn) w (w.setCell ⟨gn,j,none⟩ (I v)):=Keep.one (dU _);have hg:=h.n.lt gn rfl;refine⟨h.bel.trans (k.below (fun b e=>by rw[e];exact hg.1) h.bel.size),by rw[h2];exact h.r.kp k (fun b e q=>h.rn gn rfl ms),?_,by rw[h3];exact h.o.kp k (fun b e q=>h.no_ gn rfl ms),h.rn,h.ro,h.no_⟩;rw[h1];have:=h.n.set j v (I v) rfl;simpa [putK] using this
theorem RTk.to (h:RTk w0 w gr nr An nn cn go no s)(s':VS)(h1:s'.regs=s.regs)(h2:s'.next=s.next)(h3:s'.out=s.out):RTk w0 w gr nr An nn cn go no s':=⟨h.bel,by rw[h1];exact h.r,by rw[h2];exact h.n,by rw[h3];exact h.o,h.rn,h.ro,h.no_⟩
theorem RTk.reg (h:RTk w0 w gr nr An nn cn go no s){j:Nat}(hj:j<nr):w.cell? ⟨gr,j,none⟩=some (I (aZ s.regs j))/\w.frozen? ⟨gr,j,none⟩=false:=⟨lm h.r hj,h.r.free j⟩
end
theorem mi (w:World){p q:Addr}(v:Value)(h:p≠q):(w.setCell p v).cell? q=w.cell? q:=World.cell?_setCell_other w p q v h
section
variable {w:World} {x:PA} {p:PV}
theorem rtick_yes (h:ca w x p)(hv:dJ p=true)(hw:eI p)(Ac:Option Addr)(n c:Nat)(cells:List Int)(hc:RI w Ac n cells)(hn:n<=100000)(Ai:Option Addr)(k d:Nat)(l:List Int)(hl:RI w Ai k l)(hk:k<=maxLen)(h64:∀ z ∈ cells,In64 z)(hi64:∀ z ∈ l,In64 z)(hz1:gO p cells=true)(hz2:cB p.ins l=true) :
 Ca 129 #[.agg #[.slice x.A1 x.n1 x.c1,.slice x.A2 x.n2 x.c2,I p.regs,.slice x.A3 x.n3 x.c3,.slice x.A4 x.n4 x.c4],.slice Ac n c,.slice Ai k d] w fun e w'=>∃ A1 c1 A2 c2,e=.returned (.tuple #[.slice A1 n c1,.slice A2 x.n2 c2,I ((goV p cells l 0 (dZ p cells)).steps:Nat),I 0])/\Ow iv w' w.heap.size 3 A1 n c1 (goV p cells l 0 (dZ p cells)).next/\Ow iv w' w.heap.size 3 A2 x.n2 c2 (goV p cells l 0 (dZ p cells)).out/\Below w.heap.size w w':=by
 have O:=ig.of h;generalize hF:goV p cells l 0 (dZ p cells)=FIN;have HF:=aT hF;clear hF;have hm0:=(jy hv).1;have hfi:=fun {W:World} (hb:Below w.heap.size w W)=>reffits29_any (h.below (b:=w.heap.size) hb aW) hm0 Ac n c cells (hc.below (B:=w.heap.size) hb aW) bM
 rw[hz1] at hfi;have hrf:=fun {W:World} (hb:Below w.heap.size w W)=>pG x.A1 Ai x.n1 k x.c1 d p.ins l W (h.r1.below (B:=w.heap.size) hb aW) (hl.below (B:=w.heap.size) hb aW) (ag h.k1.1 h.k1.2) hk
 rw[hz2] at hrf;obtain⟨m1,m2,m3,m4,m5,m6,_,_⟩:=dN.1 hm0;have l2:=(fJ.1 m2).2.2;have e2:=h.r2.1;have e4:=h.r4.1;have e1:=h.r1.1;have hk4:=h.k4;have ecl:=(iC.1 hz1).1;have eil:=(jP.1 hz2).2.1;have ecn:=hc.1;have ein:=hl.1;obtain⟨r,hr⟩:∃ r:Nat,p.regs=(r:Nat):=⟨p.regs.toNat,aS⟩;have r1600:r<=1600:=aS;have n2le:x.n2<=100:=aS;have n4le:x.n4<=2048:=aS;have hmk1:∀ W:World,(Instr.makeSlice 22 (I (r:Int)) (I (r:Int))).run Tryz.prog W=.ok (.slice (some ⟨W.heap.size,0,none⟩) r r) (W.alloc (.cells ((List.replicate r (0:Int)).map iv).toArray 3)):=fun W=>by
  have:=jN dS r aS aS W;rw[show madeCells (I 0).cells r=((List.replicate r (0:Int)).map iv).toArray from by
   apply Array.ext';rw[show (I 0).cells=#[I 0] from rfl,toList_madeCells_one];simp[iv]] at this
  exact this
 have hmk2:∀ W:World,(Instr.makeSlice 22 (I (x.n2:Int)) (I (x.n2:Int))).run Tryz.prog W=.ok (.slice (some ⟨W.heap.size,0,none⟩) x.n2 x.n2) (W.alloc (.cells ((List.replicate x.n2 (0:Int)).map iv).toArray 3)):=fun W=>by
  have:=jN dS x.n2 aS aS W;rw[show madeCells (I 0).cells x.n2=((List.replicate x.n2 (0:Int)).map iv).toArray from by
   apply Array.ext';rw[show (I 0).cells=#[I 0] from rfl,toList_madeCells_one];simp[iv]] at this
  exact this
 have hst:dZ p cells=⟨List.replicate r 0,cells,List.replicate x.n2 0,0⟩:=by
  unfold dZ;rw[hr,ax,<- e2]
 have HST:=aT hst;have HLR:=aT (show (List.replicate r (0:Int)).length=r from List.length_replicate);have HLO:=aT (show (List.replicate x.n2 (0:Int)).length=x.n2 from List.length_replicate);have HC:=aT hc;have HI:=aT hl;have HR:=aT hr;have HOK:=aT (show VOk p (dZ p cells) from VOk.start m3 ecl h64);have HS:=aT (show ∀ i,i<x.n4->ma p i (aY p.code i) from fun i hi=>safe_of hv aS);have HIN:=aT (show ∀ i,i<x.n4->In64 (aY p.code i).k from fun i hi=>by
  have hi':i<p.code.length:=aS;have e:=ap hi';have:=hw.code _ (List.getElem_mem hi');rw[gS e];exact⟨this.2.2.2.1,this.2.2.2.2⟩)
 have H64:=aT h64;have HI64:=aT hi64;have EE:=aT (show n=p.cells.length/\k=p.ins.length/\x.n2=p.outs.length/\x.n4=p.code.length from ⟨aS,aS,by omega,aS⟩);clear h hc hl hst h64 hi64 e1 e2 e4 ecl eil ecn ein m1 m2 m3 m4 m5 m6 hz1 hz2 hm0 l2 hk4 hv hw hr;go_enter Tryz.func129,Tryz.ntmps129;go_upto_region 1 with fail;refine eG (fun W=>ig w W w.heap.size x p) O ?_;clear O;intro W O;have HB:=aT O.bel;have HX:=aT O.b;have HP:=aT O.rd;obtain⟨y0,y1,y2,y3,y4⟩:=blk5 O.b;clear O;go_upto_region 3 with (first | ((go_at_call 212;go_call (hfi HB.out) as e w2 ⟨rfl,hb2⟩);have B2:=aT (HB.out.trans (hb2.mono HB.out.size));have X2:=aT (HX.out.below hb2 HX.out.lt);have P2:=aT (HP.out.below (b:=W.heap.size) hb2 aW);have k2:=X2.out.c0;have lb2:=X2.out.lt;clear hb2) | ((go_at_call 30;go_call (hrf B2.out) as e w3 ⟨rfl,rfl⟩)) | fail);have k2r:w2.cell? ⟨w.heap.size,2,none⟩=some (I (r:Int)):=by rw[<- HR.out];exact X2.out.cell 2
 have k21:=X2.out.c1;clear y0 y1 y2 y3 y4 k2 hfi hrf;generalize List.replicate r (0:Int)=zr at *;generalize List.replicate x.n2 (0:Int)=zo at *;have CI2:=aT (HC.out.below B2.out aW);have II2:=aT (HI.out.below B2.out aW);go_upto_region 4 with fail;refine eG (fun W=>Below w2.heap.size w2 W/\Ow iv W w2.heap.size 3 (some ⟨w2.heap.size,0,none⟩) r r zr) ⟨(Below.refl _ _).alloc aW _,gq (Blk.top _ rfl rfl) aW HLR.out bM⟩ ?_;intro W3 ⟨hb3,Hr3⟩;have hs3:=hb3.size;have hcn:=HC.out.1;generalize hgr:w2.heap.size=gr at Hr3;go_upto_region 5 with (first | (at_builtin;refine dw rfl rfl dS eS (s:=.tmp 31) (N:=n) (L:=cells) rfl (Ow.new _ _ #[] [] rfl aV) rfl (k:=cells) (CI2.out.below (hb3.alloc hs3 _) aW).rd ba ba bM aS be ?_;intro A5 c5 w5 hown5 hg5 hat5 hb5) | fail);have bb5:Below W3.heap.size W3 w5:=bH (a:=W3) (B:=W3.heap.size) bc hb5 be;have B25:=aT (hb3.trans (bb5.mono hs3));have X5:=aT (X2.out.below B25.out lb2);have Hn5:=hown5.rebase (base':=gr) aS;have Hr5:=Hr3.below bb5 aW;have drn:∀ b,A5.map (·.block)=some b->gr≠b:=fun b q1 q2=>by
  have h1:=(hown5.lt b q1).1;have h2:=(Hr3.lt gr rfl).2;omega
 have k51:=X5.out.c1;have s5:=bb5.size;clear k2r k21 hb3 Hr3 hown5 hg5 hat5 hb5 bb5;go_upto_region 6 with fail;refine eG (fun W=>Below w2.heap.size w2 W/\∃ gout,gr≠gout/\(∀ b,A5.map (·.block)=some b->gout≠b)/\w5.heap.size=gout/\RTk w2 W gr r A5 n c5 gout x.n2 ⟨zr,cells,zo,0⟩) ?_ ?_
 · have bz:Below w5.heap.size w5 (w5.alloc (.cells (zo.map iv).toArray 3)):=(Below.refl _ _).alloc aW _;have h25:=B25.out.size;have hro:=(Hr5.lt gr rfl).2;exact⟨B25.out.trans (bz.mono h25),w5.heap.size,aS,fun b q1=>by have:=(Hn5.lt b q1).2;omega,rfl,⟨B25.out.trans (bz.mono h25),by rw[hgr];exact Hr5.below bz aW,by rw[hgr];exact Hn5.below bz aW,by rw[hgr];exact (gq (Blk.top _ rfl rfl) aW HLO.out bM).rebase aS,drn,aS,fun b q1=>by have:=(Hn5.lt b q1).2;omega⟩⟩
 intro W6 ⟨_,gout,_,_,hgo,K6⟩;have HK6:=aT K6;have OK0:=aT HOK.out;rw[HST.out] at OK0;rw[hgo];clear hgo k51 Hn5 Hr5 drn hs3 s5 X5;have HFIN:=aT (show goV p cells l (0+0) ⟨zr,cells,zo,0⟩=FIN from by rw[<- HST.out];exact HF.out);have hgr2:=aT hgr;have lgr:w.heap.size<=gr:=by have:=B2.out.size;omega
 rw[hgr] at lb2;clear hgr;go_wp2_with fail;go_loopw [13,14,15] (fun st ov i wr=>∃ (k9 o9:Nat) (s:VS),k9<=x.n4/\i=I (k9:Nat)/\ov=I (o9:Nat)/\st=I (s.steps:Nat)/\s.steps<=k9/\o9<=9223372036854775807/\Hid (goV p cells l (k9+o9) s=FIN)/\Hid (VOk p s)/\Hid (RTk w2 wr gr r A5 n c5 gout x.n2 s)) (fun _ _ i _=>x.n4 - (intOf i).toNat)
 case atStart=>exact⟨0,0,_,aS,rfl,rfl,rfl,Nat.le_refl _,aS,HFIN.out,OK0.out,HK6.out⟩
 case round=>
  clear HFIN OK0 HK6;obtain⟨k9,o9,s,hk9,rfl,rfl,rfl,hsk,ho9,hfin,hok,hK⟩:=hrel;obtain⟨hbel,hbw⟩:Hid (Below w2.heap.size w2 wr)/\w2.heap.size<=wr.heap.size:=⟨hK.out.bel,hK.out.bel.size⟩;have y4:=(X2.out.below hbel.out X2.out.lt).c4;have lx4:w.heap.size<wr.heap.size:=by have:=X2.out.lt;omega
  by_cases hlt:k9<x.n4
  · obtain⟨b,o,y,hA,hb,hy,hc⟩:=((P2.out.below (b:=w2.heap.size) hbel.out aW).r4).at_ gY aS hlt;have hI:=aT (gS hy);have hsafe:=aT (HS.out k9 hlt);have hkin:=aT (HIN.out k9 hlt);obtain⟨op,ya,yb,yc,yk⟩:=y;have h0:wr.cell? ⟨b,o+k9 * 5,none⟩=some (I op):=hc 0 aS;have h1:wr.cell? ⟨b,o+k9 * 5+1,none⟩=some (I ya):=hc 1 aS;have h2:wr.cell? ⟨b,o+k9 * 5+2,none⟩=some (I yb):=hc 2 aS;have h3:wr.cell? ⟨b,o+k9 * 5+3,none⟩=some (I yc):=hc 3 aS;have h4:wr.cell? ⟨b,o+k9 * 5+4,none⟩=some (I yk):=hc 4 aS;rw[hA] at y4;clear hA hc hy;go_upto_region 12 with fail;have lgr2:=(hK.out.r.lt gr rfl).2;have lgo2:=(hK.out.o.lt gout rfl).2;have lgr1:=(hK.out.r.lt gr rfl).1;have lgo1:=(hK.out.o.lt gout rfl).1;have HLN:∀ gn,A5.map (·.block)=some gn->gn<wr.heap.size:=fun gn e=>(hK.out.n.lt gn e).2
    refine eG (fun W=>RTk w2 W gr r A5 n c5 gout x.n2 s/\Blk W wr.heap.size 144 [I op,I ya,I yb,I yc,I yk]) ⟨hK.out.below ((Below.refl _ _).alloc aW _),Blk.top _ rfl rfl⟩ ?_;intro w4 ⟨K4',X4'⟩;have K4:=aT K4';have X4:=aT X4';obtain⟨x0,x1,x2,x3,x4⟩:=blk5 X4';have xl:=X4'.lt;have B4:=aT K4'.bel;clear K4' X4' hK hbel y4 h0 h1 h2 h3 h4
    cases o9 with
    | succ o9=>
      go_wp2_with fail;go_roundw
      case rel=>first
       | exact⟨k9+1,o9,s,aS,by go_num,by go_num,rfl,aS,by omega,py,hok.out,K4.out⟩
       | ((repeat apply Exists.intro);exact⟨⟨k9+1,o9,s,aS,by go_num,by go_num,rfl,aS,by omega,py,hok.out,K4.out⟩,rfl⟩)
      case measure=>simp[intOf];omega
    | zero=>
      have hkl:k9<p.code.length:=by have:=EE.out.2.2.2;omega
      have hst:=goV_step (p:=p) (cells:=cells) (ins:=l) (s:=s) hkl;rw[hI.out] at hst;have hf0:=hfin.out;rw[Nat.add_zero] at hf0;have HF2:=aT (hst.symm.trans hf0);have hok2:=hok.out.exec (x:=aY p.code k9) H64.out HI64.out hkin.out;rw[hI.out] at hok2;have HOK2:=aT hok2;have HH:=aT hok.out;have hsf:=hsafe.out;rw[hI.out] at hsf;have HSF:=aT hsf;have HK64:yk<=9223372036854775807:=by have:=hkin.out;rw[hI.out] at this;exact this.2
      clear hst hf0 hfin hok2 hok hsafe;obtain⟨a0,a1,hb',hcc,h27,h21,h28,h29,h30,hab,hac,hak,hop⟩:=hsf;simp only at a0 a1 hb' hcc h27 h21 h28 h29 h30 hab hac hak hop;have hrr:=HR.out;obtain⟨ja,rfl⟩:=fq a0;have ha:ja<r:=aS;clear hb' hcc h27 hab hac hak hkin hI
      by_cases q21:op=21
      · obtain⟨k0,k1⟩:=h21 (.inl q21);obtain⟨jk,rfl⟩:=fq k0;subst q21;have hjk:jk<n:=by have:=EE.out.1;omega
        have hv:dy cells l ⟨21,(ja:Nat),yb,yc,(jk:Nat)⟩ s={ s with regs:=putK s.regs (ja:Nat) (aZ cells jk),steps:=s.steps+1 }:=rfl;have ho:fH ⟨21,(ja:Nat),yb,yc,(jk:Nat)⟩ s.regs=0:=rfl;rw[hv,ho] at HF2;rw[hv] at HOK2;obtain⟨b1,o1,rfl,hb1,hc1⟩:=CI2.out.at_ hjk;replace hc1:=(gz B4.out hb1).trans hc1;obtain⟨ra,fa⟩:=K4.out.reg ha;clear hv ho h21 h28 h29 h30 hop a0 a1 hrr k0 k1 HSF;go_upto_region 16 with fail;have s1:=(cW w4 (p:=⟨gr,ja,none⟩) (q:=⟨wr.heap.size,1,none⟩) (I (aZ cells jk)) cE).trans x1;have s2:=(cW w4 (p:=⟨gr,ja,none⟩) (q:=⟨wr.heap.size,4,none⟩) (I (aZ cells jk)) cE).trans x4;have s3:=(cW w4 (p:=⟨gr,ja,none⟩) (q:=⟨b1,o1+jk,none⟩) (I (aZ cells jk)) cE).trans hc1;go_region_held3 (fun w'=>w'.cell? ⟨wr.heap.size,1,none⟩=some (I (ja:Nat))/\w'.cell? ⟨wr.heap.size,4,none⟩=some (I (jk:Nat))/\w'.cell? ⟨b1,o1+jk,none⟩=some (I (aZ cells jk))) (first | go_keep | (refine⟨?_,?_,?_⟩ <;> assumption)) (fail);go_wp2_with fail;go_roundw
        case rel=>first
         | exact⟨k9+1,0,{ s with regs:=putK s.regs (ja:Nat) (aZ cells jk),steps:=s.steps+1 },aS,dE,fQ,dE,fR,aS,HF2.out,HOK2.out,(K4.out.drew.setR ja _ _ rfl _ rfl rfl rfl)⟩
         | ((repeat apply Exists.intro);exact⟨⟨k9+1,0,{ s with regs:=putK s.regs (ja:Nat) (aZ cells jk),steps:=s.steps+1 },aS,dE,fQ,dE,fR,aS,HF2.out,HOK2.out,(K4.out.drew.setR ja _ _ rfl _ rfl rfl rfl)⟩,rfl⟩)
        case measure=>simp[intOf];omega
      by_cases q28:op=28
      · obtain⟨k0,k1⟩:=h28 q28;obtain⟨jk,rfl⟩:=fq k0;subst q28;have hjk:jk<k:=by have:=EE.out.2.1;omega
        have hv:dy cells l ⟨28,(ja:Nat),yb,yc,(jk:Nat)⟩ s={ s with regs:=putK s.regs (ja:Nat) (aZ l jk),steps:=s.steps+1 }:=rfl;have ho:fH ⟨28,(ja:Nat),yb,yc,(jk:Nat)⟩ s.regs=0:=rfl;rw[hv,ho] at HF2;rw[hv] at HOK2;obtain⟨b1,o1,rfl,hb1,hc1⟩:=II2.out.at_ hjk;replace hc1:=(gz B4.out hb1).trans hc1;obtain⟨ra,fa⟩:=K4.out.reg ha;clear hv ho h21 h28 h29 h30 hop a0 a1 hrr k0 k1 HSF q21;go_upto_region 18 with fail;have s1:=(cW w4 (p:=⟨gr,ja,none⟩) (q:=⟨wr.heap.size,1,none⟩) (I (aZ l jk)) cE).trans x1;have s2:=(cW w4 (p:=⟨gr,ja,none⟩) (q:=⟨wr.heap.size,4,none⟩) (I (aZ l jk)) cE).trans x4;have s3:=(cW w4 (p:=⟨gr,ja,none⟩) (q:=⟨b1,o1+jk,none⟩) (I (aZ l jk)) cE).trans hc1;go_region_held3 (fun w'=>w'.cell? ⟨wr.heap.size,1,none⟩=some (I (ja:Nat))/\w'.cell? ⟨wr.heap.size,4,none⟩=some (I (jk:Nat))/\w'.cell? ⟨b1,o1+jk,none⟩=some (I (aZ l jk))) (first | go_keep | (refine⟨?_,?_,?_⟩ <;> assumption)) (fail);go_wp2_with fail;go_roundw
        case rel=>first
         | exact⟨k9+1,0,{ s with regs:=putK s.regs (ja:Nat) (aZ l jk),steps:=s.steps+1 },aS,dE,fQ,dE,fR,aS,HF2.out,HOK2.out,(K4.out.drew.setR ja _ _ rfl _ rfl rfl rfl)⟩
         | ((repeat apply Exists.intro);exact⟨⟨k9+1,0,{ s with regs:=putK s.regs (ja:Nat) (aZ l jk),steps:=s.steps+1 },aS,dE,fQ,dE,fR,aS,HF2.out,HOK2.out,(K4.out.drew.setR ja _ _ rfl _ rfl rfl rfl)⟩,rfl⟩)
        case measure=>simp[intOf];omega
      by_cases q29:op=29
      · obtain⟨k0,k1⟩:=h29 q29;obtain⟨jk,rfl⟩:=fq k0;subst q29;have hjk:jk<x.n2:=by have:=EE.out.2.2.1;omega
        have hv:dy cells l ⟨29,(ja:Nat),yb,yc,(jk:Nat)⟩ s={ s with out:=putK s.out (jk:Nat) (aZ s.regs ja),steps:=s.steps+1 }:=rfl;have ho:fH ⟨29,(ja:Nat),yb,yc,(jk:Nat)⟩ s.regs=0:=rfl;rw[hv,ho] at HF2;rw[hv] at HOK2;obtain⟨ra,fa⟩:=K4.out.reg ha;have rj:=lm K4.out.o hjk;have fj:=K4.out.o.free jk;have hgo:=K4.out.ro;clear hv ho h21 h28 h29 h30 hop a0 a1 hrr k0 k1 HSF q21 q28;go_upto_region 20 with fail;have s1:=(cW w4 (p:=⟨gout,jk,none⟩) (q:=⟨wr.heap.size,1,none⟩) (I (aZ s.regs ja)) cE).trans x1;have s2:=(cW w4 (p:=⟨gout,jk,none⟩) (q:=⟨wr.heap.size,4,none⟩) (I (aZ s.regs ja)) cE).trans x4;have s3:=(cW w4 (p:=⟨gout,jk,none⟩) (q:=⟨gr,ja,none⟩) (I (aZ s.regs ja)) cE).trans ra;go_region_held3 (fun w'=>w'.cell? ⟨wr.heap.size,1,none⟩=some (I (ja:Nat))/\w'.cell? ⟨wr.heap.size,4,none⟩=some (I (jk:Nat))/\w'.cell? ⟨gr,ja,none⟩=some (I (aZ s.regs ja))) (first | go_keep | (refine⟨?_,?_,?_⟩ <;> assumption)) (fail);go_wp2_with fail;go_roundw
        case rel=>first
         | exact⟨k9+1,0,{ s with out:=putK s.out (jk:Nat) (aZ s.regs ja),steps:=s.steps+1 },aS,dE,fQ,dE,fR,aS,HF2.out,HOK2.out,(K4.out.drew.setO jk _ _ rfl _ rfl rfl rfl)⟩
         | ((repeat apply Exists.intro);exact⟨⟨k9+1,0,{ s with out:=putK s.out (jk:Nat) (aZ s.regs ja),steps:=s.steps+1 },aS,dE,fQ,dE,fR,aS,HF2.out,HOK2.out,(K4.out.drew.setO jk _ _ rfl _ rfl rfl rfl)⟩,rfl⟩)
        case measure=>simp[intOf];omega
      by_cases q32:op=32
      · obtain⟨k0,k1⟩:=h21 (.inr q32);obtain⟨jk,rfl⟩:=fq k0;subst q32;have hjk:jk<n:=by have:=EE.out.1;omega
        have hv:dy cells l ⟨32,(ja:Nat),yb,yc,(jk:Nat)⟩ s={ s with next:=putK s.next (jk:Nat) (aZ s.regs ja),steps:=s.steps+1 }:=rfl;have ho:fH ⟨32,(ja:Nat),yb,yc,(jk:Nat)⟩ s.regs=0:=rfl;rw[hv,ho] at HF2;rw[hv] at HOK2;obtain⟨ra,fa⟩:=K4.out.reg ha;obtain⟨gn,rfl,_⟩:=K4.out.n.addr aS;have lgn:=K4.out.n.lt gn rfl;have lgn2:=HLN gn rfl;have rj:=lm K4.out.n hjk;have fj:=K4.out.n.free jk;have hgo:=K4.out.rn gn rfl;clear hv ho h21 h28 h29 h30 hop a0 a1 hrr k0 k1 HSF q21 q28 q29;go_upto_region 22 with fail;have s1:=(cW w4 (p:=⟨gn,jk,none⟩) (q:=⟨wr.heap.size,1,none⟩) (I (aZ s.regs ja)) cE).trans x1;have s2:=(cW w4 (p:=⟨gn,jk,none⟩) (q:=⟨wr.heap.size,4,none⟩) (I (aZ s.regs ja)) cE).trans x4;have s3:=(cW w4 (p:=⟨gn,jk,none⟩) (q:=⟨gr,ja,none⟩) (I (aZ s.regs ja)) cE).trans ra;go_region_held3 (fun w'=>w'.cell? ⟨wr.heap.size,1,none⟩=some (I (ja:Nat))/\w'.cell? ⟨wr.heap.size,4,none⟩=some (I (jk:Nat))/\w'.cell? ⟨gr,ja,none⟩=some (I (aZ s.regs ja))) (first | go_keep | (refine⟨?_,?_,?_⟩ <;> assumption)) (fail);go_wp2_with fail;go_roundw
        case rel=>first
         | exact⟨k9+1,0,{ s with next:=putK s.next (jk:Nat) (aZ s.regs ja),steps:=s.steps+1 },aS,dE,fQ,dE,fR,aS,HF2.out,HOK2.out,(K4.out.drew.setN jk _ _ rfl _ rfl rfl rfl)⟩
         | ((repeat apply Exists.intro);exact⟨⟨k9+1,0,{ s with next:=putK s.next (jk:Nat) (aZ s.regs ja),steps:=s.steps+1 },aS,dE,fQ,dE,fR,aS,HF2.out,HOK2.out,(K4.out.drew.setN jk _ _ rfl _ rfl rfl rfl)⟩,rfl⟩)
        case measure=>simp[intOf];omega
      by_cases q30:op=30
      · obtain⟨k0,k1⟩:=h30 (.inl q30);subst q30;have hv:dy cells l ⟨30,(ja:Nat),yb,yc,yk⟩ s={ s with steps:=s.steps+1 }:=rfl;have ho:fH ⟨30,(ja:Nat),yb,yc,yk⟩ s.regs=if aZ s.regs ja=0 then yk.toNat else 0:=by
         unfold fH atK
         by_cases e:aZ s.regs ja=0
         · simp[e]
         · simp[e]
        have hk64:=HK64;rw[hv,ho] at HF2;rw[hv] at HOK2;obtain⟨ra,fa⟩:=K4.out.reg ha;clear hv ho h21 h28 h29 h30 hop a0 a1 hrr k1 HSF q21 q28 q29 q32
        by_cases e:aZ s.regs ja=0
        · rw[if_pos e] at HF2;rw[e] at ra;clear e;have hyk:=Int.toNat_of_nonneg k0;generalize yk.toNat=jk at *;subst hyk;go_wp2_with fail;go_roundw
          case rel=>first
           | exact⟨k9+1,jk,{ s with steps:=s.steps+1 },aS,dE,fQ,dE,fR,aS,HF2.out,HOK2.out,(K4.out.to _ rfl rfl rfl)⟩
           | ((repeat apply Exists.intro);exact⟨⟨k9+1,jk,{ s with steps:=s.steps+1 },aS,dE,fQ,dE,fR,aS,HF2.out,HOK2.out,(K4.out.to _ rfl rfl rfl)⟩,rfl⟩)
          case measure=>simp[intOf];omega
        · rw[if_neg e] at HF2;have e0:(aZ s.regs ja == 0)=false:=by rw[ae];exact e
          clear e;generalize aZ s.regs ja=u at *;go_wp2_with fail;go_roundw
          case rel=>first
           | exact⟨k9+1,0,{ s with steps:=s.steps+1 },aS,dE,fQ,dE,fR,aS,HF2.out,HOK2.out,(K4.out.to _ rfl rfl rfl)⟩
           | ((repeat apply Exists.intro);exact⟨⟨k9+1,0,{ s with steps:=s.steps+1 },aS,dE,fQ,dE,fR,aS,HF2.out,HOK2.out,(K4.out.to _ rfl rfl rfl)⟩,rfl⟩)
          case measure=>simp[intOf];omega
      by_cases q31:op=31
      · obtain⟨k0,k1⟩:=h30 (.inr q31);subst q31;have hv:dy cells l ⟨31,(ja:Nat),yb,yc,yk⟩ s={ s with steps:=s.steps+1 }:=rfl;have ho:fH ⟨31,(ja:Nat),yb,yc,yk⟩ s.regs=if aZ s.regs ja≠0 then yk.toNat else 0:=by
         unfold fH atK
         by_cases e:aZ s.regs ja=0
         · simp[e]
         · simp[e]
        have hk64:=HK64;rw[hv,ho] at HF2;rw[hv] at HOK2;obtain⟨ra,fa⟩:=K4.out.reg ha;clear hv ho h21 h28 h29 h30 hop a0 a1 hrr k1 HSF q21 q28 q29 q32 q30
        by_cases e:aZ s.regs ja≠0
        · rw[if_pos e] at HF2;have e0:(aZ s.regs ja != 0)=true:=by rw[af];exact e
          clear e;generalize aZ s.regs ja=u at *;have hyk:=Int.toNat_of_nonneg k0;generalize yk.toNat=jk at *;subst hyk;go_wp2_with fail;go_roundw
          case rel=>first
           | exact⟨k9+1,jk,{ s with steps:=s.steps+1 },aS,dE,fQ,dE,fR,aS,HF2.out,HOK2.out,(K4.out.to _ rfl rfl rfl)⟩
           | ((repeat apply Exists.intro);exact⟨⟨k9+1,jk,{ s with steps:=s.steps+1 },aS,dE,fQ,dE,fR,aS,HF2.out,HOK2.out,(K4.out.to _ rfl rfl rfl)⟩,rfl⟩)
          case measure=>simp[intOf];omega
        · rw[if_neg e] at HF2;have e0:=Decidable.not_not.1 e;rw[e0] at ra;clear e e0;go_wp2_with fail;go_roundw
          case rel=>first
           | exact⟨k9+1,0,{ s with steps:=s.steps+1 },aS,dE,fQ,dE,fR,aS,HF2.out,HOK2.out,(K4.out.to _ rfl rfl rfl)⟩
           | ((repeat apply Exists.intro);exact⟨⟨k9+1,0,{ s with steps:=s.steps+1 },aS,dE,fQ,dE,fR,aS,HF2.out,HOK2.out,(K4.out.to _ rfl rfl rfl)⟩,rfl⟩)
          case measure=>simp[intOf];omega
      have hv:dy cells l ⟨op,(ja:Nat),yb,yc,yk⟩ s={ s with regs:=putK s.regs (ja:Nat) (iV cells l ⟨op,(ja:Nat),yb,yc,yk⟩ s.regs),steps:=s.steps+1 }:=by
       unfold dy;simp only;rw[if_neg q29,if_neg q32,if_neg aS]
      have ho:fH ⟨op,(ja:Nat),yb,yc,yk⟩ s.regs=0:=by
       unfold fH;rw[if_neg (by rintro (⟨h,_⟩ | ⟨h,_⟩);exact q30 h;exact q31 h)]
      rw[hv,ho] at HF2;rw[hv] at HOK2;have hrk:=fun {W:World} (h:RI W (some ⟨gr,0,none⟩) r s.regs)=>rreckon_any (d:=r) HSF.out h aS HH.out.rr cells l q21 q28 q29 q30 q31 q32
      simp only at hrk;have n21:(op == 21)=false:=by rw[ae];exact q21
      have n28:(op == 28)=false:=by rw[ae];exact q28
      have n29:(op == 29)=false:=by rw[ae];exact q29
      have n32:(op == 32)=false:=by rw[ae];exact q32
      have n30:(op == 30)=false:=by rw[ae];exact q30
      have n31:(op == 31)=false:=by rw[ae];exact q31
      obtain⟨ra,fa⟩:=K4.out.reg ha;generalize iV cells l ⟨op,(ja:Nat),yb,yc,yk⟩ s.regs=v at *;generalize aZ s.regs ja=u at *;clear hv ho h21 h28 h29 h30 hop a0 a1 hrr HSF q21 q28 q29 q32 q30 q31;go_upto_region 29 with fail;go_region_held3 (fun w'=>w'.cell? ⟨wr.heap.size,0,none⟩=some (I op)/\w'.cell? ⟨wr.heap.size,1,none⟩=some (I (ja:Nat))/\w'.cell? ⟨wr.heap.size,2,none⟩=some (I yb)/\w'.cell? ⟨wr.heap.size,3,none⟩=some (I yc)/\w'.cell? ⟨wr.heap.size,4,none⟩=some (I yk)) (first | go_keep | (refine⟨?_,?_,?_,?_,?_⟩ <;> assumption)) (first | ((go_at_call 213;go_call (hrk (K4.out.drew.r.rd.ri)) as e w5 ⟨rfl,hb5⟩);have b45:Below w4.heap.size w4 w5:=bH (a:=w4) (B:=w4.heap.size) bc hb5 be;have K5:=aT (K4.out.below b45);obtain⟨z0,z1,z2,z3,z4⟩:=blk5 (X4.out.below b45 xl);obtain⟨ra5,fa5⟩:=K5.out.reg ha;have s0:=(mi w5 (p:=⟨gr,ja,none⟩) (q:=⟨wr.heap.size,0,none⟩) (I v) cE).trans z0;have s1:=(mi w5 (p:=⟨gr,ja,none⟩) (q:=⟨wr.heap.size,1,none⟩) (I v) cE).trans z1;have s2:=(mi w5 (p:=⟨gr,ja,none⟩) (q:=⟨wr.heap.size,2,none⟩) (I v) cE).trans z2;have s3:=(mi w5 (p:=⟨gr,ja,none⟩) (q:=⟨wr.heap.size,3,none⟩) (I v) cE).trans z3;have s4:=(mi w5 (p:=⟨gr,ja,none⟩) (q:=⟨wr.heap.size,4,none⟩) (I v) cE).trans z4) | fail);go_wp2_with fail;go_roundw
      case rel=>first
       | exact⟨k9+1,0,{ s with regs:=putK s.regs (ja:Nat) v,steps:=s.steps+1 },aS,dE,fQ,dE,fR,aS,HF2.out,HOK2.out,(K5.out.setR ja _ _ rfl _ rfl rfl rfl)⟩
       | ((repeat apply Exists.intro);exact⟨⟨k9+1,0,{ s with regs:=putK s.regs (ja:Nat) v,steps:=s.steps+1 },aS,dE,fQ,dE,fR,aS,HF2.out,HOK2.out,(K5.out.setR ja _ _ rfl _ rfl rfl rfl)⟩,rfl⟩)
      case measure=>simp[intOf];omega
  · have hk:k9=x.n4:=aS;subst hk;have HS9:=aT (show s=FIN from by rw[<- hfin.out];exact (goV_end (by have:=EE.out.2.2.2;omega)).symm);have hgw:=B2.out.size;go_wp2_with fail;go_returns;have hh:=HS9.out;subst hh;exact⟨A5,c5,some ⟨gout,0,none⟩,x.n2,rfl,hK.out.n.rebase hgw,hK.out.o.rebase hgw,B2.out.trans (hbel.out.mono hgw)⟩
end
