/- Parts. -/
import Derived.Test.YtmeebofhlilcmaaGreatPr48
set_option linter.unusedVariables false
set_option linter.unusedSimpArgs false
set_option maxRecDepth 100000
set_option maxHeartbeats 0
namespace Go.Proofs.YtmeebofhlilcmaaGreat
open Go.RowKit
section
variable {w w':World} {x:PA} {p:PV}
def progL (x:PA)(p:PV):List Value:=[.slice x.A1 x.n1 x.c1,.slice x.A2 x.n2 x.c2,I p.regs,.slice x.A3 x.n3 x.c3,.slice x.A4 x.n4 x.c4]
structure gN (w W:World)(gB:Nat)(x:PA)(p:PV):Prop where
 bel:Below w.heap.size w W
 b:Blk W gB 26 (progL x p)
 rd:bZ W x p
theorem gN.of (h:bZ w x p):gN w (w.alloc (.cells #[.slice x.A1 x.n1 x.c1,.slice x.A2 x.n2 x.c2,I p.regs,.slice x.A3 x.n3 x.c3,.slice x.A4 x.n4 x.c4] 26)) w.heap.size x p:=by
 have hb:Below w.heap.size w (w.alloc (.cells #[.slice x.A1 x.n1 x.c1,.slice x.A2 x.n2 x.c2,I p.regs,.slice x.A3 x.n3 x.c3,.slice x.A4 x.n4 x.c4] 26)):=(Below.refl _ _).alloc aV _;exact⟨hb,Blk.top _ rfl rfl,h.below (b:=w.heap.size) hb aV⟩
theorem reffirst_any (h:bZ w x p)(hn3:p.cells.length<=100000):Ca 128 #[.agg #[.slice x.A1 x.n1 x.c1,.slice x.A2 x.n2 x.c2,I p.regs,.slice x.A3 x.n3 x.c3,.slice x.A4 x.n4 x.c4]] w fun e w'=>∃ A c,e=.returned (.slice A x.n3 c)/\Ow iv w' w.heap.size 3 A x.n3 c (es p)/\Below w.heap.size w w':=by
 have O:=gN.of h;have hlen:=h.r3.1;have M3:x.n3<=1000000000000:=aS;clear h hn3;go_enter Tryz.func128,Tryz.ntmps128;go_upto_region 1 with fail;refine dH (fun W=>gN w W w.heap.size x p) O ?_;clear O;intro W O;have HB:=aT O;have hs:=O.bel.size;have HX:=aT O.b;have r3:=O.rd.r3;have lB:=O.b.lt;clear O;go_wp2_with fail;go_loopw [3,4] (fun v i wr=>∃ (k:Nat) (A:Option Addr) (c:Nat),k<=x.n3/\i=I (k:Nat)/\v=.slice A k c/\Ow iv wr W.heap.size 3 A k c ((es p).take k)/\Below W.heap.size W wr) (fun _ i _=>x.n3 - (intOf i).toNat)
 case atStart=>exact⟨0,none,0,aS,rfl,rfl,Ow.nil _ _ _ _,Below.refl _ _⟩
 case round=>
  obtain⟨k,A,c,hk,rfl,rfl,hown,hb⟩:=hrel;have hbs:=hb.size;have e3:=(HX.out.below hb lB).c3
  by_cases hlt:k<x.n3
  · obtain⟨b,o,y,hA,hbl,hx,hc⟩:=(r3.below hb aV).at_ gR aS hlt;have e0:wr.cell? ⟨b,o+k * 2,none⟩=some (I y.1):=hc 0 aS;have e1:wr.cell? ⟨b,o+k * 2+1,none⟩=some (I y.2):=hc 1 aS;have hL:=aT (pD (p:=p) hx);clear hc hx r3;rw[hA] at e3;clear hA;obtain⟨t,f⟩:=y;simp only at e0 e1 hL;go_wp2_with (first | (at_builtin;refine dF rfl rfl (dV) (eS) (s:=.tmp 12) (N:=k+1) (L:=(es p).take (k+1)) rfl (hown.below (b:=wr.heap.size) be aZ) rfl (k:=[f]) (Rd.of_block (l:=[f]) (dy _ _ bj) rfl) rfl (hL.out) bO aS aZ ?_;intro A5 c5 w5 hown5 hg5 hat5 hb5) | fail);replace hb5:=bB (a:=W) (B:=W.heap.size) be hb5 aZ;go_roundw
    case rel=>first
     | exact⟨k+1,A5,c5,aS,by go_num,rfl,hown5,hb5⟩
     | ((repeat apply Exists.intro);exact⟨⟨k+1,A5,c5,aS,by go_num,rfl,hown5,hb5⟩,rfl⟩)
    case measure=>simp[intOf];omega
  · have hkn:k=x.n3:=aS;subst hkn;have hge:((es p).take x.n3)=es p:=au (by unfold es;rw[ay];omega);rw[hge] at hown;have HO:=aT hown;clear hown hge;go_wp2;go_ret;exact⟨A,c,rfl,HO.out.rebase hs,HB.out.bel.trans (hb.mono hs)⟩
theorem value_ok {p:PV}(hm:mayB p=true){i:Nat}(hi:i<p.cells.length)(v:Int):fu (cJ p.cells i).1 v=okAt (cJ p.cells i).1 v:=by
 have h:=(dP.1 hm).2.2.2.2.2.2.1 i hi;generalize (cJ p.cells i).1=t at *;generalize (cJ p.cells i).2=f at *;unfold fu at h ⊢;unfold okAt
 by_cases q1:t=1
 · subst q1;simp
 · by_cases q2:t=2
   · subst q2;simp
   · have e1:(t == 1)=false:=by rw[ae];exact q1
     have e2:(t == 2)=false:=by rw[ae];exact q2
     rw[e1,e2] at h;simp at h
theorem reffits29_any (h:bZ w x p)(hm:mayB p=true)(B:Option Addr)(n d:Nat)(l:List Int)(hl:RI w B n l)(hn:n<=maxLen):Ca 212 #[.agg #[.slice x.A1 x.n1 x.c1,.slice x.A2 x.n2 x.c2,I p.regs,.slice x.A3 x.n3 x.c3,.slice x.A4 x.n4 x.c4],.slice B n d] w fun e w'=>e=.returned (.bool (gu p l))/\Below w.heap.size w w':=by
 have O:=gN.of h;have hI:=@ia p l;generalize gu p l=z at *;have r3:=h.r3;have k3:=h.k3;rw[r3.1,hl.1] at hI;have HI:=aT hI;have HV:=aT (show ∀ i,i<x.n3->∀ v,fu (cJ p.cells i).1 v=okAt (cJ p.cells i).1 v from fun i hi v=>value_ok hm (by have:=r3.1;omega) v);have M3:x.n3<=9223372036854775807:=by unfold maxLen at k3;omega
 have hmm:n<=9223372036854775807:=by unfold maxLen at hn;omega
 clear k3 h hI hn hm r3;go_enter Tryz.func212,Tryz.ntmps212;go_upto_region 1 with fail;refine dH (fun W=>gN w W w.heap.size x p) O ?_;clear O;intro W O;have HB:=aT O;have hs:=O.bel.size;have HX:=aT O.b;have r3:=O.rd.r3;have lB:=O.b.lt;replace hl:=hl.below O.bel aV;have y3:=O.b.c3;clear O
 by_cases he:n=x.n3
 · subst he;have f3:(((x.n3:Nat):Int) != (x.n3:Int))=false:=by simp
   have HZ:Hid (z=true ↔ ∀ i,i<x.n3->okAt (cJ p.cells i).1 (ba l i)=true):=by
    show _ ↔ _
    constructor
    · intro h;exact (HI.out.1 h).2
    · intro h;exact HI.out.2 ⟨rfl,h⟩
   clear HI;go_wp2_with fail;go_loopw [5] (fun i wr=>∃ k:Nat,k<=x.n3/\i=I (k:Nat)/\Hid (∀ i,i<k->okAt (cJ p.cells i).1 (ba l i)=true)/\Below W.heap.size W wr) (fun i _=>x.n3 - (intOf i).toNat)
   case atStart=>exact⟨0,aS,rfl,fun i hi=>absurd hi aS,Below.refl _ _⟩
   case round=>
    obtain⟨k,hk,rfl,hall,hbel⟩:=hrel;have hbs:=hbel.size;have e3:=(HX.out.below hbel lB).c3
    by_cases hlt:k<x.n3
    · have hne:¬ (x.n3:Int)<=(k:Int):=aS;obtain⟨b,o,y,hA,hb,hx,hc⟩:=(r3.below hbel aV).at_ gR aS hlt;have e0:wr.cell? ⟨b,o+k * 2,none⟩=some (I y.1):=hc 0 aS;obtain⟨b2,o2,rfl,hb2,hc2⟩:=(hl.below hbel aV).at_ hlt;have hxk:=aT (iT hx);have hval:=fun w=>oQ y.1 (ba l k) w
      have hvo:=HV.out k hlt (ba l k);rw[hxk.out] at hvo;rw[hvo] at hval;clear hc hx r3 hl hvo y3;rw[hA] at e3;clear hA;obtain⟨t,f⟩:=y;simp only at e0 hval
      cases hvb:okAt t (ba l k) with
      | true=>
        have hall':Hid (∀ i,i<k+1->okAt (cJ p.cells i).1 (ba l i)=true):=fun i hi=>by
         rcases aw i k with h | h
         · exact hall.out i h
         · rw[show i=k from by omega,hxk.out];exact hvb
        rw[hvb] at hval;clear hvb hall;generalize ba l k=v at *;go_upto_region 6 with fail;go_region_held3 (fun w'=>w'.cell? ⟨w.heap.size,3,none⟩=some (.slice (some ⟨b,o,none⟩) x.n3 x.c3)/\w'.cell? ⟨b,o+k * 2,none⟩=some (I t)/\w'.cell? ⟨b2,o2+k,none⟩=some (I v)) (first | go_keep | (refine⟨?_,?_,?_⟩ <;> assumption)) (first | (go_at_call 172;go_call (hval _) as e w5 ⟨rfl,rfl⟩) | fail);go_wp2_with fail;go_roundw
        case rel=>first
         | exact⟨k+1,aS,by go_num,hall',(Below.drew hbel)⟩
         | ((repeat apply Exists.intro);exact⟨⟨k+1,aS,by go_num,hall',(Below.drew hbel)⟩,rfl⟩)
        case measure=>simp[intOf];omega
      | false=>
        have hz:Hid (z=false):=by
         show z=false
         rw[Bool.eq_false_iff];intro hc;have h9:=HZ.out.1 hc k hlt;rw[hxk.out,hvb] at h9
         cases h9
        rw[hvb] at hval;clear hvb hall;generalize ba l k=v at *;go_upto_region 6 with fail;go_region_held3 (fun w'=>w'.cell? ⟨w.heap.size,3,none⟩=some (.slice (some ⟨b,o,none⟩) x.n3 x.c3)/\w'.cell? ⟨b,o+k * 2,none⟩=some (I t)/\w'.cell? ⟨b2,o2+k,none⟩=some (I v)) (first | go_keep | (refine⟨?_,?_,?_⟩ <;> assumption)) (first | (go_at_call 172;go_call (hval _) as e w5 ⟨rfl,rfl⟩) | fail);go_wp2_with fail;go_ret;exact⟨cV hz.out.symm,HB.out.bel.trans ((show Below W.heap.size W _ from be).mono hs)⟩
    · have hkn:k=x.n3:=aS;subst hkn;have hge:((x.n3:Nat):Int)<=(x.n3:Int):=aS;have hz:Hid (z=true):=HZ.out.2 hall.out;clear HZ hall;go_wp2;go_ret;exact⟨cV hz.out.symm,HB.out.bel.trans (hbel.mono hs)⟩
 · have f3:(((n:Nat):Int) != (x.n3:Int))=true:=by rw[af];omega
   have hz:Hid (z=false):=by
    show z=false
    rw[Bool.eq_false_iff];intro hc;exact he (HI.out.1 hc).1
   clear he HI;go_wp2_with fail;go_ret;exact⟨cV hz.out.symm,HB.out.bel⟩
end
theorem fK {B:Nat}{w w':World}(hb:Below B w w'){b o:Nat}(hlt:b<B):w'.cell? ⟨b,o,none⟩=w.cell? ⟨b,o,none⟩:=by
 have:=hb.block b hlt;simp only[World.cell?,this]
section
variable {w:World} {B:Option Addr} {n d:Nat} {r:List Int}
structure RkIn (w W:World)(gx:Nat)(op a b c k:Int)(B:Option Addr)(n:Nat)(r:List Int):Prop where
 bel:Below w.heap.size w W
 b:Blk W gx 144 [I op,I a,I b,I c,I k]
 r:RI W B n r
theorem RkIn.of {op a b c k:Int}(hr:RI w B n r):RkIn w (w.alloc (.cells #[I op,I a,I b,I c,I k] 144)) w.heap.size op a b c k B n r:=by
 have hb:Below w.heap.size w (w.alloc (.cells #[I op,I a,I b,I c,I k] 144)):=(Below.refl _ _).alloc aV _;exact⟨hb,Blk.top _ rfl rfl,hr.below (B:=w.heap.size) hb aV⟩
theorem rk_k (hr:RI w B n r)(op a b c k:Int)(ho:op=1\/op=2) :
 Ca 213 #[.agg #[I op,I a,I b,I c,I k],.slice B n d] w fun e w'=>e=.returned (I k)/\Below w.heap.size w w':=by
 rcases ho with rfl | rfl
 · skip
   have O1:RkIn w (w.alloc (.cells #[I 1,I a,I b,I c,I k] 144)) w.heap.size 1 a b c k B n r:=RkIn.of hr;clear hr;go_enter Tryz.func213,Tryz.ntmps213;go_upto_region 1 with fail;refine dH (fun W=>RkIn w W w.heap.size 1 a b c k B n r) O1 ?_;clear O1;intro w4 O4;obtain⟨x0,x1,x2,x3,x4⟩:=blk5 O4.b;have lx:=O4.b.lt;have B4:=aT O4.bel;have R4:=aT O4.r;have sz4:=O4.bel.size;clear O4;go_wp2_with fail;go_ret;exact⟨rfl,B4.out⟩
 · skip
   have O1:RkIn w (w.alloc (.cells #[I 2,I a,I b,I c,I k] 144)) w.heap.size 2 a b c k B n r:=RkIn.of hr;clear hr;go_enter Tryz.func213,Tryz.ntmps213;go_upto_region 1 with fail;refine dH (fun W=>RkIn w W w.heap.size 2 a b c k B n r) O1 ?_;clear O1;intro w4 O4;obtain⟨x0,x1,x2,x3,x4⟩:=blk5 O4.b;have lx:=O4.b.lt;have B4:=aT O4.bel;have R4:=aT O4.r;have sz4:=O4.bel.size;clear O4;go_wp2_with fail;go_ret;exact⟨rfl,B4.out⟩
theorem rk_3 (hr:RI w B n r)(jb:Nat)(a c k:Int)(hb:jb<n) :
 Ca 213 #[.agg #[I 3,I a,I (jb:Nat),I c,I k],.slice B n d] w fun e w'=>e=.returned (I (ba r jb))/\Below w.heap.size w w':=by
 have O1:RkIn w (w.alloc (.cells #[I 3,I a,I (jb:Nat),I c,I k] 144)) w.heap.size 3 a (jb:Nat) c k B n r:=RkIn.of hr;clear hr;go_enter Tryz.func213,Tryz.ntmps213;go_upto_region 1 with fail;refine dH (fun W=>RkIn w W w.heap.size 3 a (jb:Nat) c k B n r) O1 ?_;clear O1;intro w4 O4;obtain⟨x0,x1,x2,x3,x4⟩:=blk5 O4.b;have lx:=O4.b.lt;have B4:=aT O4.bel;have R4:=aT O4.r;have sz4:=O4.bel.size;clear O4;obtain⟨b1,o1,rfl,hb1,hc1⟩:=R4.out.at_ hb;go_wp2_with fail;go_ret;exact⟨rfl,B4.out⟩
theorem rk_5 (hr:RI w B n r)(op:Int)(ho:op=5\/op=6)(jb:Nat)(a c k:Int)(hb:jb<n)(h64:In64 (ba r jb)) :
 Ca 213 #[.agg #[I op,I a,I (jb:Nat),I c,I k],.slice B n d] w fun e w'=>e=.returned (I (oneK op (ba r jb)))/\Below w.heap.size w w':=by
 have hone:=fun w=>refone03_any op (ba r jb) w ho h64
 clear h64;rcases ho with rfl | rfl
 · skip
   have O1:RkIn w (w.alloc (.cells #[I 5,I a,I (jb:Nat),I c,I k] 144)) w.heap.size 5 a (jb:Nat) c k B n r:=RkIn.of hr;clear hr;go_enter Tryz.func213,Tryz.ntmps213;go_upto_region 1 with fail;refine dH (fun W=>RkIn w W w.heap.size 5 a (jb:Nat) c k B n r) O1 ?_;clear O1;intro w4 O4;obtain⟨x0,x1,x2,x3,x4⟩:=blk5 O4.b;have lx:=O4.b.lt;have B4:=aT O4.bel;have R4:=aT O4.r;have sz4:=O4.bel.size;clear O4;obtain⟨b1,o1,rfl,hb1,hc1⟩:=R4.out.at_ hb;go_upto_region 4 with fail;go_region_held3 (fun w'=>w'.cell? ⟨w.heap.size,0,none⟩=some (I 5)/\w'.cell? ⟨w.heap.size,2,none⟩=some (I (jb:Nat))/\w'.cell? ⟨b1,o1+jb,none⟩=some (I (ba r jb))) (first | go_keep | (refine⟨?_,?_,?_⟩ <;> assumption)) (first | ((go_at_call 265;go_call (hone _) as e w5 ⟨rfl,hb5⟩);have b45:Below w4.heap.size w4 w5:=bB (a:=w4) (B:=w4.heap.size) be hb5 aZ;have B5:=aT (B4.out.trans (b45.mono sz4));have q0:=(fK b45 lx).trans x0;have q2:=(fK b45 lx).trans x2;have q1:=(fK b45 hb1).trans hc1) | fail);go_wp2_with fail;go_ret;exact⟨rfl,B5.out⟩
 · skip
   have O1:RkIn w (w.alloc (.cells #[I 6,I a,I (jb:Nat),I c,I k] 144)) w.heap.size 6 a (jb:Nat) c k B n r:=RkIn.of hr;clear hr;go_enter Tryz.func213,Tryz.ntmps213;go_upto_region 1 with fail;refine dH (fun W=>RkIn w W w.heap.size 6 a (jb:Nat) c k B n r) O1 ?_;clear O1;intro w4 O4;obtain⟨x0,x1,x2,x3,x4⟩:=blk5 O4.b;have lx:=O4.b.lt;have B4:=aT O4.bel;have R4:=aT O4.r;have sz4:=O4.bel.size;clear O4;obtain⟨b1,o1,rfl,hb1,hc1⟩:=R4.out.at_ hb;go_upto_region 4 with fail;go_region_held3 (fun w'=>w'.cell? ⟨w.heap.size,0,none⟩=some (I 6)/\w'.cell? ⟨w.heap.size,2,none⟩=some (I (jb:Nat))/\w'.cell? ⟨b1,o1+jb,none⟩=some (I (ba r jb))) (first | go_keep | (refine⟨?_,?_,?_⟩ <;> assumption)) (first | ((go_at_call 265;go_call (hone _) as e w5 ⟨rfl,hb5⟩);have b45:Below w4.heap.size w4 w5:=bB (a:=w4) (B:=w4.heap.size) be hb5 aZ;have B5:=aT (B4.out.trans (b45.mono sz4));have q0:=(fK b45 lx).trans x0;have q2:=(fK b45 lx).trans x2;have q1:=(fK b45 hb1).trans hc1) | fail);go_wp2_with fail;go_ret;exact⟨rfl,B5.out⟩
theorem rk_27 (hr:RI w B n r)(jb jc jk:Nat)(a:Int)(hb:jb<n)(hc:jc<n)(hk:jk<n) :
 Ca 213 #[.agg #[I 27,I a,I (jb:Nat),I (jc:Nat),I (jk:Nat)],.slice B n d] w fun e w'=>e=.returned (I (if ba r jb≠0 then ba r jc else ba r jk))/\Below w.heap.size w w':=by
 by_cases q:ba r jb≠0
 · rw[if_pos q];have b0:(ba r jb != 0)=true:=by rw[af];exact q
   have O1:RkIn w (w.alloc (.cells #[I 27,I a,I (jb:Nat),I (jc:Nat),I (jk:Nat)] 144)) w.heap.size 27 a (jb:Nat) (jc:Nat) (jk:Nat) B n r:=RkIn.of hr;clear hr;go_enter Tryz.func213,Tryz.ntmps213;go_upto_region 1 with fail;refine dH (fun W=>RkIn w W w.heap.size 27 a (jb:Nat) (jc:Nat) (jk:Nat) B n r) O1 ?_;clear O1;intro w4 O4;obtain⟨x0,x1,x2,x3,x4⟩:=blk5 O4.b;have lx:=O4.b.lt;have B4:=aT O4.bel;have R4:=aT O4.r;have sz4:=O4.bel.size;clear O4;obtain⟨b1,o1,e1,hb1,hc1⟩:=R4.out.at_ hb;obtain⟨b2,o2,e2,hb2,hc2⟩:=R4.out.at_ hc;subst e1;injection e2 with e2;injection e2 with e3 e4 _;subst e3 e4;clear q;go_wp2_with fail;go_ret;exact⟨rfl,B4.out⟩
 · rw[if_neg q];have b0:(ba r jb != 0)=false:=by rw[bne_eq_false_iff_eq];exact Decidable.not_not.1 q
   have O1:RkIn w (w.alloc (.cells #[I 27,I a,I (jb:Nat),I (jc:Nat),I (jk:Nat)] 144)) w.heap.size 27 a (jb:Nat) (jc:Nat) (jk:Nat) B n r:=RkIn.of hr;clear hr;go_enter Tryz.func213,Tryz.ntmps213;go_upto_region 1 with fail;refine dH (fun W=>RkIn w W w.heap.size 27 a (jb:Nat) (jc:Nat) (jk:Nat) B n r) O1 ?_;clear O1;intro w4 O4;obtain⟨x0,x1,x2,x3,x4⟩:=blk5 O4.b;have lx:=O4.b.lt;have B4:=aT O4.bel;have R4:=aT O4.r;have sz4:=O4.bel.size;clear O4;obtain⟨b1,o1,e1,hb1,hc1⟩:=R4.out.at_ hb;obtain⟨b2,o2,e2,hb2,hc2⟩:=R4.out.at_ hk;subst e1;injection e2 with e2;injection e2 with e3 e4 _;subst e3 e4;clear q;go_wp2_with fail;go_ret;exact⟨rfl,B4.out⟩
theorem rk_op (hr:RI w B n r)(op:Int)(ho:7<=op/\op<=20)(jb jc:Nat)(a k:Int)(hb:jb<n)(hc:jc<n)(h64:In64 (ba r jb))(h64c:In64 (ba r jc)) :
 Ca 213 #[.agg #[I op,I a,I (jb:Nat),I (jc:Nat),I k],.slice B n d] w fun e w'=>e=.returned (I (doK op (ba r jb) (ba r jc)))/\Below w.heap.size w w':=by
 have hdo:=fun w=>refdo03_any op (ba r jb) (ba r jc) w ho h64 h64c
 have n3:(op == 3)=false:=by rw[ae];omega
 have n5:(op == 5)=false:=by rw[ae];omega
 have n6:(op == 6)=false:=by rw[ae];omega
 have n27:(op == 27)=false:=by rw[ae];omega
 have d7:decide (op ≥ 7)=true:=am ho.1;have d20:=am ho.2;clear ho h64 h64c;have O1:RkIn w (w.alloc (.cells #[I op,I a,I (jb:Nat),I (jc:Nat),I k] 144)) w.heap.size op a (jb:Nat) (jc:Nat) k B n r:=RkIn.of hr;clear hr;go_enter Tryz.func213,Tryz.ntmps213;go_upto_region 1 with fail;refine dH (fun W=>RkIn w W w.heap.size op a (jb:Nat) (jc:Nat) k B n r) O1 ?_;clear O1;intro w4 O4;obtain⟨x0,x1,x2,x3,x4⟩:=blk5 O4.b;have lx:=O4.b.lt;have B4:=aT O4.bel;have R4:=aT O4.r;have sz4:=O4.bel.size;clear O4;obtain⟨b1,o1,e1,hb1,hc1⟩:=R4.out.at_ hb;obtain⟨b2,o2,e2,hb2,hc2⟩:=R4.out.at_ hc;subst e1;injection e2 with e2;injection e2 with e3 e4 _;subst e3 e4;go_upto_region 11 with fail;go_region_held3 (fun w'=>w'.cell? ⟨w.heap.size,0,none⟩=some (I op)/\w'.cell? ⟨w.heap.size,2,none⟩=some (I (jb:Nat))/\w'.cell? ⟨w.heap.size,3,none⟩=some (I (jc:Nat))/\w'.cell? ⟨b1,o1+jb,none⟩=some (I (ba r jb))/\w'.cell? ⟨b1,o1+jc,none⟩=some (I (ba r jc))) (first | go_keep | (refine⟨?_,?_,?_,?_,?_⟩ <;> assumption)) (first | ((go_at_call 266;go_call (hdo _) as e w5 ⟨rfl,hb5⟩);have b45:Below w4.heap.size w4 w5:=bB (a:=w4) (B:=w4.heap.size) be hb5 aZ;have B5:=aT (B4.out.trans (b45.mono sz4));have q0:=(fK b45 lx).trans x0;have q2:=(fK b45 lx).trans x2;have q3:=(fK b45 lx).trans x3;have q1:=(fK b45 hb1).trans hc1;have q4:=(fK b45 hb1).trans hc2) | fail);go_wp2_with fail;go_ret;exact⟨rfl,B5.out⟩
theorem rreckon_any {p:PV}{i:Nat}{y:Ins}(hs:lq p i y)(hr:RI w B n r)(hn:(n:Int)=p.regs)(h64:∀ z ∈ r,In64 z)(cells ins:List Int)(q21:y.op≠21)(q28:y.op≠28)(q29:y.op≠29)(q30:y.op≠30)(q31:y.op≠31)(q32:y.op≠32) :
 Ca 213 #[.agg #[I y.op,I y.a,I y.b,I y.c,I y.k],.slice B n d] w fun e w'=>e=.returned (I (iB cells ins y r))/\Below w.heap.size w w':=by
 obtain⟨op,xa,xb,xc,xk⟩:=y;obtain⟨a0,a1,hb,hcc,h27,h21,h28,h29,h30,hab,hac,hak,hop⟩:=hs;simp only at a0 a1 hb hcc h27 h21 h28 h29 h30 hab hac hak hop q21 q28 q29 q30 q31 q32;have hin:∀ j:Nat,In64 (ba r j):=fun j=>by
  have:=jA h64 (j:Nat);unfold atK at this
  rwa [av] at this
 rcases hop with q | q | q | q | q | q | q | q | q | q | q
 · subst q;exact rk_k hr 1 xa xb xc xk (.inl rfl)
 · subst q;exact rk_k hr 2 xa xb xc xk (.inr rfl)
 · obtain⟨b0,b1⟩:=hb (.inl q);obtain⟨jb,rfl⟩:=fq b0;subst q;exact rk_3 hr jb xa xc xk aS
 · obtain⟨b0,b1⟩:=hb (.inr (.inl q));obtain⟨jb,rfl⟩:=fq b0
   by_cases q7:7<=op
   · obtain⟨c0,c1⟩:=hcc (.inl ⟨q7,q.2⟩);obtain⟨jc,rfl⟩:=fq c0;have hg:iB cells ins ⟨op,xa,(jb:Nat),(jc:Nat),xk⟩ r=doK op (ba r jb) (ba r jc):=by
      unfold iB atK;simp only;rw[if_neg aS,if_neg aS,if_neg aS,if_neg aS,if_neg aS,if_pos ⟨q7,q.2⟩,av,av]
     rw[hg];exact rk_op hr op ⟨q7,q.2⟩ jb jc xa xk aS aS (hin jb) (hin jc)
   · have ho:op=5\/op=6:=aS;have hg:iB cells ins ⟨op,xa,(jb:Nat),xc,xk⟩ r=oneK op (ba r jb):=by rcases ho with rfl | rfl <;> rfl
     rw[hg];exact rk_5 hr op ho jb xa xc xk aS (hin jb)
 · exact absurd q q21
 · obtain⟨b0,b1⟩:=hb (.inr (.inr q));obtain⟨c0,c1⟩:=hcc (.inr q);obtain⟨⟨k0,k1⟩,n1,n2⟩:=h27 q;obtain⟨jb,rfl⟩:=fq b0;obtain⟨jc,rfl⟩:=fq c0;obtain⟨jk,rfl⟩:=fq k0;subst q;exact rk_27 hr jb jc jk xa aS aS aS
 · exact absurd q q28
 · exact absurd q q29
 · exact absurd q q30
 · exact absurd q q31
 · exact absurd q q32
end
