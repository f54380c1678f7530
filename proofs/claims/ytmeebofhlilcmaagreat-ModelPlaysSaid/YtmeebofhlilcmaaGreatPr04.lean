/- Parts. -/
import Derived.Test.YtmeebofhlilcmaaGreatPr03
set_option linter.unusedVariables false
set_option linter.unusedSimpArgs false
set_option maxRecDepth 100000
set_option maxHeartbeats 0
namespace Go.Proofs.YtmeebofhlilcmaaGreat
open Go.RowKit
theorem pq (x:PA)(p:PV)(w:World)(h:cC w x p) :
 Ca 78 #[.agg #[.slice x.A1 x.n1 x.c1,.slice x.A2 x.n2 x.c2,I p.regs,.slice x.A3 x.n3 x.c3,.slice x.A4 x.n4 x.c4]] w fun e w'=>e=.returned (.bool (mayB p))/\Below w.heap.size w w':=by
 obtain⟨A1,n1,c1,A2,n2,c2,A3,n3,c3,A4,n4,c4⟩:=x;obtain⟨ins,outs,regs,cells,code⟩:=p;obtain⟨r1,r2,r3,r4,k1,k2,k3,k4⟩:=h;simp only at r1 r2 r3 r4 k1 k2 k3 k4 ⊢;have hr1:=fun w h=>pp A1 n1 c1 ins w h aS
 have hr2:=fun w h=>pp A2 n2 c2 outs w h aS
 have e3:=r3.1;have e4:=r4.1;generalize hz:mayB ⟨ins,outs,regs,cells,code⟩=z;have hI:=@dV ⟨ins,outs,regs,cells,code⟩;rw[hz] at hI;simp only[e3,e4] at hI;have HI:=aT hI;clear hz hI e3 e4;have m3:n3<=9223372036854775807:=by have:=k3.1;have:=k3.2;unfold maxLen at this;omega
 have m4:n4<=9223372036854775807:=by have:=k4.1;have:=k4.2;unfold maxLen at this;omega
 clear k1 k2 k3 k4;have q1:RI (w.alloc (.cells #[.slice A1 n1 c1,.slice A2 n2 c2,I regs,.slice A3 n3 c3,.slice A4 n4 c4] 26)) A1 n1 ins:=r1.below ((Below.refl _ _).alloc aW _) aW;have q2:RI (w.alloc (.cells #[.slice A1 n1 c1,.slice A2 n2 c2,I regs,.slice A3 n3 c3,.slice A4 n4 c4] 26)) A2 n2 outs:=r2.below ((Below.refl _ _).alloc aW _) aW;have HF:¬ (da ins=true/\da outs=true/\0<=regs/\regs<=1600/\n3<=60/\n4<=2048)->Hid (z=false):=fun h=>by
  show z=false
  rw[Bool.eq_false_iff];intro hc;obtain⟨a1,a2,a3,a4,a5,a6,_⟩:=HI.out.1 hc;exact h ⟨a1,a2,a3,a4,a5,a6⟩
 have HF:=aT HF;generalize hg1:da ins=b1 at *;generalize hg2:da outs=b2 at *;clear hg1 hg2
 cases b1 with
 | false=>
   have hz:=HF.out aZ;clear HF HI;go_enter Tryz.func78,Tryz.ntmps78;go_wp2_with (go_at_call 121;go_call (hr1 _ q1) as e w1 ⟨rfl,rfl⟩);go_ret;exact⟨df hz.out.symm,bc⟩
 | true=>
   cases b2 with
   | false=>
     have hz:=HF.out aZ;clear HF HI;go_enter Tryz.func78,Tryz.ntmps78;go_wp2_with (first | (go_at_call 121;(with_reducible refine (hr1 _ q1).mono ?_);rintro e w1 ⟨rfl,rfl⟩) | (go_at_call 121;(with_reducible refine (hr2 _ q2).mono ?_);rintro e w1 ⟨rfl,rfl⟩));go_ret;exact⟨df hz.out.symm,bc⟩
   | true=>
     rcases (show regs<0\/(0<=regs/\1600<regs)\/(0<=regs/\regs<=1600/\60<n3)\/(0<=regs/\regs<=1600/\n3<=60/\2048<n4)\/(0<=regs/\regs<=1600/\n3<=60/\n4<=2048) by omega) with h | h | h | h | h
     case inr.inr.inr.inr=>
      obtain⟨h1,h2,h3,h4⟩:=h;have HZ:Hid (z=true ↔ (∀ i,i<n3->fN (db cells i).1 (db cells i).2=true)/\(∀ i,i<n4->insB (aY code i)=true)):=by
       have h1:=HI.out
       show _ ↔ _
       constructor
       · intro h;obtain⟨a1,a2,a3,a4,a5,a6,a7,a8⟩:=h1.1 h;exact⟨a7,a8⟩
       · rintro ⟨a7,a8⟩;exact h1.2 ⟨rfl,rfl,aS,by omega,aS,by omega,a7,a8⟩
      clear HF HI;go_enter Tryz.func78,Tryz.ntmps78;go_wp2_with (first | (go_at_call 121;(with_reducible refine (hr1 _ q1).mono ?_);rintro e w1 ⟨rfl,rfl⟩) | (go_at_call 121;(with_reducible refine (hr2 _ q2).mono ?_);rintro e w1 ⟨rfl,rfl⟩));clear q1 q2 hr1 hr2;go_loopw [3] (fun i wr=>∃ k:Nat,k<=n3/\i=I (k:Nat)/\Hid (∀ i,i<k->fN (db cells i).1 (db cells i).2=true)/\Below w.heap.size w wr/\w.heap.size<wr.heap.size /\
       Blk wr w.heap.size 26 [.slice A1 n1 c1,.slice A2 n2 c2,I regs,.slice A3 n3 c3,.slice A4 n4 c4]) (fun i _=>n3 - (intOf i).toNat)
      case atStart=>exact⟨0,aS,rfl,fun i hi=>absurd hi aS,bc,by simp,bI⟩
      case round=>
       obtain⟨k,hk,rfl,hall,hbel,hsz,hblk⟩:=hrel;obtain⟨g0,g1,g2,g3,g4⟩:=blk5 hblk
       by_cases hlt:k<n3
       · have hne:¬ (n3:Int)<=(k:Int):=aS;have hi0:(0:Int)<=(k:Int):=aS;have hi1:(k:Int)<(n3:Int):=aS;obtain⟨b,o,x,rfl,hb,hx,hc⟩:=(r3.below hbel aW).at_ iy aS hlt;have h0:wr.cell? ⟨b,o+k * 2,none⟩=some (I x.1):=hc 0 aS;have h5:wr.cell? ⟨b,o+k * 2+1,none⟩=some (I x.2):=hc 1 aS;have hxk:=aT (jD hx);clear hc hx;obtain⟨t,f⟩:=x;simp only at h0 h5;have hv:=fun w=>refvalue_any t f w
         cases hvb:fN t f with
         | true=>
           have hall':Hid (∀ i,i<k+1->fN (db cells i).1 (db cells i).2=true):=fun i hi=>by
            rcases ay i k with h | h
            · exact hall.out i h
            · rw[show i=k from by omega,hxk.out];exact hvb
           rw[hvb] at hv;clear hvb hall;go_wp2;go_quiet ((go_at_call 172;exact Calls.quiet_of_same ((hv _).mono fun e w' ⟨h1,h2⟩=>⟨h1,h2.symm⟩)));go_wp2;go_roundw
           case rel=>exact⟨k+1,aS,by go_num,hall',bc,hsz,hblk⟩
           case measure=>simp[intOf];omega
         | false=>
           have hz:Hid (z=false):=by
            show z=false
            rw[Bool.eq_false_iff];intro hc;have:=(HZ.out.1 hc).1 k hlt;rw[hxk.out,hvb] at this
            cases this
           rw[hvb] at hv;clear hvb hall;go_wp2;go_quiet ((go_at_call 172;exact Calls.quiet_of_same ((hv _).mono fun e w' ⟨h1,h2⟩=>⟨h1,h2.symm⟩)));go_wp2;go_ret;exact⟨df hz.out.symm,bc⟩
       · have hkn:k=n3:=aS;subst hkn;have hall3:=hall;clear hall;go_wp2;have hsz0:=hsz;have hbel0:=hbel;clear hsz hbel;go_loopw [4] (fun i w2=>∃ j:Nat,j<=n4/\i=I (j:Nat)/\Hid (∀ i,i<j->insB (aY code i)=true)/\Below w.heap.size w w2/\w.heap.size<w2.heap.size /\
          Blk w2 w.heap.size 26 [.slice A1 n1 c1,.slice A2 n2 c2,I regs,.slice A3 k c3,.slice A4 n4 c4]) (fun i _=>n4 - (intOf i).toNat)
         case atStart=>exact⟨0,aS,rfl,fun i hi=>absurd hi aS,hbel0,hsz0,hblk⟩
         case round=>
          clear g0 g1 g2 g3 g4 hblk;obtain⟨j,hj,rfl,hall,hbel,hsz,hblk⟩:=hrel;obtain⟨g0,g1,g2,g3,g4⟩:=blk5 hblk
          by_cases hlt:j<n4
          · have hne:¬ (n4:Int)<=(j:Int):=aS;obtain⟨b,o,x,rfl,hb,hx,hc⟩:=(r4.below hbel aW).at_ gX aS hlt;obtain⟨op,xa,xb,xc,xk⟩:=x;have e0:wr.cell? ⟨b,o+j * 5,none⟩=some (I op):=hc 0 aS;have e1:wr.cell? ⟨b,o+j * 5+1,none⟩=some (I xa):=hc 1 aS;have e2:wr.cell? ⟨b,o+j * 5+2,none⟩=some (I xb):=hc 2 aS;have e3:wr.cell? ⟨b,o+j * 5+3,none⟩=some (I xc):=hc 3 aS;have e4:wr.cell? ⟨b,o+j * 5+4,none⟩=some (I xk):=hc 4 aS;have hxk:=aT (gY hx);clear hc hx;have hall':Hid (insB ⟨op,xa,xb,xc,xk⟩=true->∀ i,i<j+1->insB (aY code i)=true):=fun hvb i hi=>by
             rcases ay i j with h | h
             · exact hall.out i h
             · rw[show i=j from by omega,hxk.out];exact hvb
            have hbad:Hid (insB ⟨op,xa,xb,xc,xk⟩=false->z=false):=fun hvb=>by
             rw[Bool.eq_false_iff];intro hc;have:=(HZ.out.1 hc).2 j hlt;rw[hxk.out,hvb] at this
             cases this
            have hv:=fun w=>has_any op w
            unfold hasN hasK at hv;have hle:=cls_le op;have hI2:insB ⟨op,xa,xb,xc,xk⟩=true ↔ (cls op≠0/\0<=xa/\0<=xb/\0<=xc/\(cls op=1->xb=0)/\(cls op<=2->xc=0)/\(cls op=2\/cls op=3->xk=0)):=by
             unfold insB;rw[decide_eq_true_iff];rfl
            generalize insB ⟨op,xa,xb,xc,xk⟩=zi at *;generalize cls op=q at *;clear hall hxk HZ hall3 r3 r4;rcases (show q=0\/q=1\/q=2\/q=3\/q=4 by omega) with rfl | rfl | rfl | rfl | rfl
            case' inl=>
             have hv':∀ w,Ca 173 #[I op] w fun e w'=>e=.returned (.tuple #[I 0,.bool false])/\w=w':=hv
             have hcs:False\/False\/False\/False\/False\/True:=by simp
            case' inr.inl=>
             have hv':∀ w,Ca 173 #[I op] w fun e w'=>e=.returned (.tuple #[I 1,.bool true])/\w=w':=hv
             have hcs:(xa<0)\/(0<=xa/\xb<0)\/(0<=xa/\0<=xb/\xc<0)\/(0<=xa/\0<xb/\0<=xc)\/(0<=xa/\xb=0/\0<xc)\/(0<=xa/\xb=0/\xc=0):=aS
            case' inr.inr.inl=>
             have hv':∀ w,Ca 173 #[I op] w fun e w'=>e=.returned (.tuple #[I 2,.bool false])/\w=w':=hv
             have hcs:(xa<0)\/(0<=xa/\xb<0)\/(0<=xa/\0<=xb/\xc<0)\/(0<=xa/\0<=xb/\0<xc)\/(0<=xa/\0<=xb/\xc=0/\xk≠0)\/(0<=xa/\0<=xb/\xc=0/\xk=0):=aS
            case' inr.inr.inr.inl=>
             have hv':∀ w,Ca 173 #[I op] w fun e w'=>e=.returned (.tuple #[I 3,.bool false])/\w=w':=hv
             have hcs:(xa<0)\/(0<=xa/\xb<0)\/(0<=xa/\0<=xb/\xc<0)\/(0<=xa/\0<=xb/\0<=xc/\xk≠0)\/(0<=xa/\0<=xb/\0<=xc/\xk=0)\/False:=aS
            case' inr.inr.inr.inr=>
             have hv':∀ w,Ca 173 #[I op] w fun e w'=>e=.returned (.tuple #[I 3,.bool true])/\w=w':=hv
             have hcs:(xa<0)\/(0<=xa/\xb<0)\/(0<=xa/\0<=xb/\xc<0)\/(0<=xa/\0<=xb/\0<=xc)\/False\/False:=aS
            all_goals
             clear hv hle;rcases hcs with hcs | hcs | hcs | hcs | hcs | hcs
             all_goals
              cases zi
              all_goals
               first
               | (exfalso;have h9:=hI2.1 rfl;omega)
               | (exfalso;apply Bool.false_ne_true;apply hI2.2;refine⟨?_,?_,?_,?_,?_,?_,?_⟩ <;> (intros;omega))
               | (exfalso;exact hcs)
               | skip
            all_goals
             clear hI2
             first
             | (obtain⟨h6,rfl,rfl⟩:=hcs)
             | (obtain⟨h6,h7,rfl,rfl⟩:=hcs)
             | (obtain⟨h6,h7,h8,rfl⟩:=hcs)
             | (obtain⟨h6,rfl,h8⟩:=hcs;(have b3:(xc != 0)=true:=by rw[ag];omega))
             | (obtain⟨h6,h7,rfl,h9⟩:=hcs;(have b4:(xk != 0)=true:=by rw[ag];omega);clear h9)
             | (obtain⟨h6,h7,h8,h9⟩:=hcs;(have b4:(xk != 0)=true:=by rw[ag];omega);clear h9)
             | (obtain⟨h6,h7,h8⟩:=hcs;try (have b2:(xb != 0)=true:=by rw[ag];omega);try (have b3:(xc != 0)=true:=by rw[ag];omega))
             | (obtain⟨h6,h7⟩:=hcs)
             | skip
            all_goals
             first
             | (have hz9:Hid (z=false):=hbad.out rfl;clear hbad hall')
             | (have hall9:Hid (∀ i,i<j+1->insB (aY code i)=true):=hall'.out rfl;clear hbad hall')
             go_wp2_with (go_at_call 173;go_call (hv' _) as e w1 ⟨rfl,rfl⟩)
             first
             | (go_ret;exact⟨df hz9.out.symm,bc⟩)
             | (go_roundw
                case rel=>exact⟨j+1,aS,by go_num,hall9,bc,by simp;omega,bI⟩
                case measure=>simp[intOf];omega)
          · have hjn:j=n4:=aS;subst hjn;have hge:(j:Int)<=(j:Int):=aS;have hz:Hid (z=true):=HZ.out.2 ⟨hall3.out,hall.out⟩;clear HZ hall hall3 r3 r4;go_wp2;go_ret;exact⟨df hz.out.symm,bc⟩
     case' inl=>have hz:=HF.out aS
     case' inr.inl=>
      have hz:=HF.out aS;obtain⟨h1,h2⟩:=h
     case' inr.inr.inl=>
      have hz:=HF.out aS;obtain⟨h1,h2,h3⟩:=h
     case' inr.inr.inr.inl=>
      have hz:=HF.out aS;obtain⟨h1,h2,h3,h4⟩:=h
     all_goals
      clear HF HI;go_enter Tryz.func78,Tryz.ntmps78;go_wp2_with (first | (go_at_call 121;(with_reducible refine (hr1 _ q1).mono ?_);rintro e w1 ⟨rfl,rfl⟩) | (go_at_call 121;(with_reducible refine (hr2 _ q2).mono ?_);rintro e w1 ⟨rfl,rfl⟩));go_ret;exact⟨df nh,bc⟩
theorem intAt_inj {l m:List Int}(h:l.length=m.length)(hall:∀ i,i<l.length->bj l i=bj m i):l=m:=by
 apply List.ext_getElem h;intro i h1 h2;have:=hall i h1;simpa [bj,ah,h1,h2] using this
theorem eqints_any (A B:Option Addr)(n m c d:Nat)(l k:List Int)(w:World)(ha:RI w A n l)(hb:RI w B m k)(hn:n<=maxLen) :
 Ca 171 #[.slice A n c,.slice B m d] w fun e w'=>e=.returned (.bool (decide (l=k)))/\∃ q,w'=w.drewN q:=by
 unfold maxLen at hn
 by_cases hnm:n=m
 · subst hnm;have hlen:=ha.1.trans hb.1.symm;have hl:=aT ha.1;have hk:=aT hlen;have hnn:(((n:Nat):Int) != (n:Int))=false:=by simp
   clear hlen;generalize hz:decide (l=k)=z;have Hz:=aT hz;clear hz;go_enter Tryz.func171,Tryz.ntmps171;go_wp2;go_loopw [13] (fun i wr=>∃ j q,j<=n/\i=I (j:Nat)/\Hid (∀ i,i<j->bj l i=bj k i)/\wr=w.drewN q) (fun i _=>n - (intOf i).toNat)
   case atStart=>exact⟨0,0,Nat.zero_le _,rfl,fun i hi=>absurd hi aS,rfl⟩
   case round=>
    obtain⟨j,q,hj,rfl,hall,rfl⟩:=hrel
    by_cases hlt:j<n
    · obtain⟨b0,o0,rfl,_,hc0⟩:=ha.at_ hlt;obtain⟨b1,o1,rfl,_,hc1⟩:=hb.at_ hlt;have hlt':(j:Int)<n:=aS
      by_cases heq:bj l j=bj k j
      · have hE:=aT heq;have hne:((bj l j) != (bj k j))=false:=by simp[heq]
        clear heq;go_wp2;go_quiet (fail);go_wp2;go_roundw
        case rel=>
         refine⟨j+1,q+nq,aS,by go_num,fun i hi=>?_,rfl⟩;rcases ay i j with h | h
         · exact hall.out i h
         · rw[show i=j from by omega];exact hE.out
        case measure=>simp[intOf];omega
      · have hE:=aT heq;have hne:((bj l j) != (bj k j))=true:=by
         rw[ag];exact heq
        clear heq;go_wp2;go_quiet (fail);go_wp2;go_ret;refine⟨df ?_,q+nq,World.drewN_drewN _ _ _⟩;rw[<- Hz.out,eq_comm,aE];rintro rfl;exact hE.out rfl
    · go_wp2;go_ret;refine⟨df ?_,_,rfl⟩;rw[<- Hz.out,eq_comm,aq];exact intAt_inj hk.out (fun i hi=>hall.out i (by have:=hl.out;omega))
 · have hne:(((n:Nat):Int) != (m:Int))=true:=by rw[ag];omega
   have hz:decide (l=k)=false:=by
    rw[aE];rintro rfl;exact hnm (ha.1.symm.trans hb.1)
   rw[hz];clear hz hnm;go_enter Tryz.func171,Tryz.ntmps171;go_wp2;go_ret;exact⟨rfl,0,rfl⟩
structure SV where
 tick:Int
 hash:Int
 cells:List Int
def fd (p:PV)(s:SV):Bool:=mayB p && ((decide (0<=s.tick) && decide (0<=s.hash)) && (decide (s.cells.length=p.cells.length) && allK p.cells.length (fun i=>okAt (db p.cells i).1 (bj s.cells i))))
theorem jF {p:PV}{s:SV}:fd p s=true ↔ mayB p=true/\0<=s.tick/\0<=s.hash/\s.cells.length=p.cells.length/\∀ i,i<p.cells.length->okAt (db p.cells i).1 (bj s.cells i)=true:=by
 unfold fd;simp only[av,je,aq];constructor
 · rintro ⟨h1,⟨h2,h3⟩,h4,h5⟩;exact⟨h1,h2,h3,h4,h5⟩
 · rintro ⟨h1,h2,h3,h4,h5⟩;exact⟨h1,⟨h2,h3⟩,h4,h5⟩
theorem blk3 {w:World}{g:Nat}{t:TypeId}{v0 v1 v2:Value}(h:Blk w g t [v0,v1,v2]):w.cell? ⟨g,0,none⟩=some v0/\w.cell? ⟨g,1,none⟩=some v1/\w.cell? ⟨g,2,none⟩=some v2:=⟨h.cell 0,h.cell 1,h.cell 2⟩
theorem nH (x:PA)(p:PV)(tick hash:Int)(B:Option Addr)(m d:Nat)(l:List Int)(w:World)(h:cC w x p)(hl:RI w B m l)(hm:m<=maxLen) :
 Ca 233 #[.agg #[.slice x.A1 x.n1 x.c1,.slice x.A2 x.n2 x.c2,I p.regs,.slice x.A3 x.n3 x.c3,.slice x.A4 x.n4 x.c4],.agg #[I tick,I hash,.slice B m d]] w
  fun e w'=>e=.returned (.bool (fd p ⟨tick,hash,l⟩))/\Below w.heap.size w w':=by
 have hmay:=fun w h=>jT x p w h
 have hI:=@jF p ⟨tick,hash,l⟩;generalize fd p ⟨tick,hash,l⟩=z at *;have hsub:=h;obtain⟨r1,r2,r3,r4,k1,k2,k3,k4⟩:=h;obtain⟨A1,n1,c1,A2,n2,c2,A3,n3,c3,A4,n4,c4⟩:=x;obtain⟨ins,outs,regs,cells,code⟩:=p;simp only at r1 r2 r3 r4 k1 k2 k3 k4 hmay hI ⊢;rw[r3.1,hl.1] at hI;have HI:=aT hI;clear hI;have HF:¬ (mayB ⟨ins,outs,regs,cells,code⟩=true/\0<=tick/\0<=hash/\m=n3)->Hid (z=false):=fun h=>by
  show z=false
  rw[Bool.eq_false_iff];intro hc;obtain⟨a1,a2,a3,a4,_⟩:=HI.out.1 hc;exact h ⟨a1,a2,a3,a4⟩
 have HF:=aT HF;have M3:n3<=9223372036854775807:=by have:=k3.1;have:=k3.2;unfold maxLen at this;omega
 have M4:m<=9223372036854775807:=by unfold maxLen at hm;omega
 clear k1 k2 k3 k4 r1 r2 r4 hm;have hp0:Blk ((w.alloc (.cells #[.slice A1 n1 c1,.slice A2 n2 c2,I regs,.slice A3 n3 c3,.slice A4 n4 c4] 26)).alloc (.cells #[I tick,I hash,.slice B m d] 139)) w.heap.size 26 [.slice A1 n1 c1,.slice A2 n2 c2,I regs,.slice A3 n3 c3,.slice A4 n4 c4]:=bI;have hs0:Blk ((w.alloc (.cells #[.slice A1 n1 c1,.slice A2 n2 c2,I regs,.slice A3 n3 c3,.slice A4 n4 c4] 26)).alloc (.cells #[I tick,I hash,.slice B m d] 139)) (w.heap.size+1) 139 [I tick,I hash,.slice B m d]:=bI
 cases hmb:mayB ⟨ins,outs,regs,cells,code⟩ with
 | false=>
   have hz:=HF.out (by rw[hmb];simp);rw[hmb] at hmay;clear hmb HF HI hp0 hs0;go_enter Tryz.func233,Tryz.ntmps233;go_wp2_with ((go_at_call 153;go_call (hmay _ (hsub.below (b:=w.heap.size) bc aW)) as e w1 ⟨rfl,hb1⟩);replace hb1:=bO (a:=w) (B:=w.heap.size) bc hb1 br;have hb1s:=hb1.size);go_ret;exact⟨df hz.out.symm,bc⟩
 | true=>
   rw[hmb] at hmay;have Hmb:=aT hmb;rcases (show tick<0\/(0<=tick/\hash<0)\/(0<=tick/\0<=hash/\m≠n3)\/(0<=tick/\0<=hash/\m=n3) by omega) with h | h | h | h
   case inr.inr.inr=>
    obtain⟨h1,h2,rfl⟩:=h;have f3:(((m:Nat):Int) != (m:Int))=false:=by simp
    have HZ:Hid (z=true ↔ ∀ i,i<m->okAt (db cells i).1 (bj l i)=true):=by
     have h9:=HI.out
     show _ ↔ _
     constructor
     · intro h;exact (h9.1 h).2.2.2.2
     · intro h;exact h9.2 ⟨Hmb.out,h1,h2,rfl,h⟩
    clear HF HI hmb;go_enter Tryz.func233,Tryz.ntmps233;go_wp2_with ((go_at_call 153;go_call (hmay _ (hsub.below (b:=w.heap.size) bc aW)) as e w1 ⟨rfl,hb1⟩);have hp1:=hp0.below (w':=w1) hb1 hp0.lt;have hs1:=hs0.below (w':=w1) hb1 hs0.lt;obtain⟨g0,g1,g2,g3,g4⟩:=blk5 hp1;obtain⟨j0,j1,j2⟩:=blk3 hs1;replace hb1:=bO (a:=w) (B:=w.heap.size) bc hb1 br;have hb1s:=hb1.size);clear hp0 hs0;have sz1:=hs1.lt;go_loopw [32] (fun i wr=>∃ k:Nat,k<=m/\i=I (k:Nat)/\Hid (∀ i,i<k->okAt (db cells i).1 (bj l i)=true)/\Below w.heap.size w wr/\w.heap.size+1<wr.heap.size /\
     Blk wr (w.heap.size+1) 139 [I tick,I hash,.slice B m d]) (fun i _=>m - (intOf i).toNat)
    case atStart=>exact⟨0,aS,rfl,fun i hi=>absurd hi aS,hb1,sz1,hs1⟩
    case round=>
     clear hp1 hs1 g0 g1 g2 g3 g4 j0 j1 j2 hb1 hb1s sz1;obtain⟨k,hk,rfl,hall,hbel,hsz,hblk⟩:=hrel;obtain⟨j0,j1,j2⟩:=blk3 hblk
     by_cases hlt:k<m
     · have hne:¬ (m:Int)<=(k:Int):=aS;obtain⟨b,o,x,rfl,hb,hx,hc⟩:=(r3.below hbel aW).at_ iy aS hlt;have e0:wr.cell? ⟨b,o+k * 2,none⟩=some (I x.1):=hc 0 aS;have e1:wr.cell? ⟨b,o+k * 2+1,none⟩=some (I x.2):=hc 1 aS;obtain⟨b2,o2,rfl,hb2,hc2⟩:=(hl.below hbel aW).at_ hlt;have hxk:=aT (jD hx);clear hc hx;obtain⟨t,f⟩:=x;simp only at e0 e1
       cases hvb:okAt t (bj l k) with
       | true=>
         have hall':Hid (∀ i,i<k+1->okAt (db cells i).1 (bj l i)=true):=fun i hi=>by
          rcases ay i k with h | h
          · exact hall.out i h
          · rw[show i=k from by omega,hxk.out];exact hvb
         have h12:=jR.1 hvb;clear hvb hall
         by_cases ht:t=2
         · have h12':=h12 ht;subst ht;clear h12;rcases h12' with h9 | h9
           all_goals
            rw[h9] at hc2;clear h9;go_wp2;go_roundw
            case rel=>exact⟨k+1,aS,by go_num,hall',bc,by simp;omega,bI⟩
            case measure=>simp[intOf];omega
         · have bt:(t == 2)=false:=by rw[af];exact ht
           clear ht h12;go_wp2;go_roundw
           case rel=>exact⟨k+1,aS,by go_num,hall',bc,by simp;omega,bI⟩
           case measure=>simp[intOf];omega
       | false=>
         have hz:Hid (z=false):=by
          show z=false
          rw[Bool.eq_false_iff];intro hc;have h9:=HZ.out.1 hc k hlt;rw[hxk.out,hvb] at h9
          cases h9
         obtain⟨h5,h6,h7⟩:=nB.1 hvb;have b6:(bj l k != 0)=true:=by rw[ag];exact h6
         have b7:(bj l k != 1)=true:=by rw[ag];exact h7
         subst h5;clear hvb hall h6 h7;generalize bj l k=v at *;go_wp2;go_ret;exact⟨df hz.out.symm,bc⟩
     · have hkn:k=m:=aS;subst hkn;have hge:(k:Int)<=(k:Int):=aS;have hz:Hid (z=true):=HZ.out.2 hall.out;clear HZ hall;go_wp2;go_ret;exact⟨df hz.out.symm,hbel⟩
   case' inl=>have hz:=HF.out aS
   case' inr.inl=>
    have hz:=HF.out aS;obtain⟨h1,h2⟩:=h
   case' inr.inr.inl=>
    have hz:=HF.out aS;obtain⟨h1,h2,h3⟩:=h;have f3:(((m:Nat):Int) != (n3:Int))=true:=by rw[ag];omega
   all_goals
    clear HF HI hmb;go_enter Tryz.func233,Tryz.ntmps233;go_wp2_with ((go_at_call 153;go_call (hmay _ (hsub.below (b:=w.heap.size) bc aW)) as e w1 ⟨rfl,hb1⟩);have hp1:=hp0.below (w':=w1) hb1 hp0.lt;have hs1:=hs0.below (w':=w1) hb1 hs0.lt;obtain⟨g0,g1,g2,g3,g4⟩:=blk5 hp1;obtain⟨j0,j1,j2⟩:=blk3 hs1;replace hb1:=bO (a:=w) (B:=w.heap.size) bc hb1 br;have hb1s:=hb1.size);go_ret;exact⟨df nh,bc⟩
def nBs (n:Int):List UInt8:=putL (un n)
theorem jG (n:Int):(nBs n).length=8:=iS _
def stBs (s:SV):List UInt8:=nBs s.tick ++ nBs s.hash ++ s.cells.flatMap nBs
theorem statewrite_row (x:PA)(p:PV)(tick hash:Int)(B:Option Addr)(m d:Nat)(l:List Int)(w:World)(h:cC w x p)(hl:RI w B m l)(hm:m<=maxLen)(hmb:mayB p=true)(hf:fd p ⟨tick,hash,l⟩=false) :
 Ca 263 #[.agg #[.slice x.A1 x.n1 x.c1,.slice x.A2 x.n2 x.c2,I p.regs,.slice x.A3 x.n3 x.c3,.slice x.A4 x.n4 x.c4],.agg #[I tick,I hash,.slice B m d]] w fun e w'=>e=.returned (.tuple #[.slice none 0 0,I 41])/\Below w.heap.size w w':=by
 have hmay:=fun w h=>jT x p w h
 have hfit:=fun w h k=>nH x p tick hash B m d l w h k hm
 rw[hmb] at hmay;rw[hf] at hfit;clear hmb hf;go_enter Tryz.func263,Tryz.ntmps263;go_wp2_with (first | ((go_at_call 153;go_call (hmay _ (h.below (b:=w.heap.size) bc aW)) as e w1 ⟨rfl,hb1⟩);have hp1:=Blk.below (w':=w1) (g:=w.heap.size) (t:=26) (cs:=[.slice x.A1 x.n1 x.c1,.slice x.A2 x.n2 x.c2,I p.regs,.slice x.A3 x.n3 x.c3,.slice x.A4 x.n4 x.c4]) bI hb1 br;have hs1:=Blk.below (w':=w1) (g:=w.heap.size+1) (t:=139) (cs:=[I tick,I hash,.slice B m d]) bI hb1 br;obtain⟨y10,y11,y12,y13,y14⟩:=blk5 hp1;obtain⟨j10,j11,j12⟩:=blk3 hs1;have sz1:=hs1.lt;have rs1:=hb1.size;replace hb1:=bO (a:=w) (B:=w.heap.size) bc hb1 br;have hb1s:=hb1.size) | ((go_at_call 233;go_call (hfit _ (h.below (b:=w.heap.size) bc aW) (hl.below (B:=w.heap.size) bc aW)) as e w2 ⟨rfl,hb2⟩);replace hb2:=bO (a:=w) (B:=w.heap.size) bc hb2 br;have hb2s:=hb2.size));go_ret2;exact⟨rfl,bc⟩
theorem statewrite_ok (x:PA)(p:PV)(tick hash:Int)(B:Option Addr)(m d:Nat)(l:List Int)(w:World)(h:cC w x p)(hl:RI w B m l)(hm:m<=maxLen)(hf:fd p ⟨tick,hash,l⟩=true) :
 Ca 263 #[.agg #[.slice x.A1 x.n1 x.c1,.slice x.A2 x.n2 x.c2,I p.regs,.slice x.A3 x.n3 x.c3,.slice x.A4 x.n4 x.c4],.agg #[I tick,I hash,.slice B m d]] w fun e w'=>∃ A N c,e=.returned (.tuple #[.slice A N c,I 0])/\OB w' w.heap.size 5 A N c (stBs ⟨tick,hash,l⟩)/\Below w.heap.size w w':=by
 have hmay:=fun w h=>jT x p w h
 have hfit:=fun w h k=>nH x p tick hash B m d l w h k hm
 obtain⟨f1,f2,f3,f4,_⟩:=jF.1 hf;have hm60:m<=60:=by have:=(dV.1 f1).2.2.2.2.1;have:=hl.1;simp only at f4;omega
 rw[f1] at hmay;rw[hf] at hfit;clear hf f1 f2 f3 f4 hm;have hput:∀ n w,Ca 254 #[I n] w fun e w'=>∃ A c,e=.returned (.slice A 8 c)/\OB w' w.heap.size 5 A 8 c (nBs n)/\Below w.heap.size w w':=fun n w=>lZ n w
 have hcat:∀ k,k<m->Hid (nBs tick ++ nBs hash ++ (l.take k).flatMap nBs ++ nBs (bj l k)=nBs tick ++ nBs hash ++ (l.take (k+1)).flatMap nBs):=fun k hk=>by
  show _=_
  have hk':k<l.length:=by rw[hl.1];exact hk
  rw[aO hk',List.flatMap_append];unfold bj;rw[ah,ap hk'];simp
 have hz0:Hid (nBs tick ++ nBs hash ++ (l.take 0).flatMap nBs=nBs tick ++ nBs hash):=by show _=_;simp
 have hfin:Hid (nBs tick ++ nBs hash ++ (l.take m).flatMap nBs=stBs ⟨tick,hash,l⟩):=by
  show _=_
  unfold stBs;rw[au (by rw[hl.1];omega)]
 generalize stBs ⟨tick,hash,l⟩=SB at *;go_enter Tryz.func263,Tryz.ntmps263;go_wp2_with (first | ((go_at_call 153;go_call (hmay _ (h.below (b:=w.heap.size) bc aW)) as e w1 ⟨rfl,hb1⟩);have hp1:=Blk.below (w':=w1) (g:=w.heap.size) (t:=26) (cs:=[.slice x.A1 x.n1 x.c1,.slice x.A2 x.n2 x.c2,I p.regs,.slice x.A3 x.n3 x.c3,.slice x.A4 x.n4 x.c4]) bI hb1 br;have hs1:=Blk.below (w':=w1) (g:=w.heap.size+1) (t:=139) (cs:=[I tick,I hash,.slice B m d]) bI hb1 br;obtain⟨y10,y11,y12,y13,y14⟩:=blk5 hp1;obtain⟨j10,j11,j12⟩:=blk3 hs1;have sz1:=hs1.lt;have rs1:=hb1.size;replace hb1:=bO (a:=w) (B:=w.heap.size) bc hb1 br;have hb1s:=hb1.size) | ((go_at_call 233;go_call (hfit _ (h.below (b:=w.heap.size) bc aW) (hl.below (B:=w.heap.size) bc aW)) as e w2 ⟨rfl,hb2⟩);have hp2:=Blk.below (w':=w2) (g:=w.heap.size) (t:=26) (cs:=[.slice x.A1 x.n1 x.c1,.slice x.A2 x.n2 x.c2,I p.regs,.slice x.A3 x.n3 x.c3,.slice x.A4 x.n4 x.c4]) bI hb2 br;have hs2:=Blk.below (w':=w2) (g:=w.heap.size+1) (t:=139) (cs:=[I tick,I hash,.slice B m d]) bI hb2 br;obtain⟨y20,y21,y22,y23,y24⟩:=blk5 hp2;obtain⟨j20,j21,j22⟩:=blk3 hs2;have sz2:=hs2.lt;have rs2:=hb2.size;replace hb2:=bO (a:=w) (B:=w.heap.size) bc hb2 br;have hb2s:=hb2.size));go_region_held3 (fun w'=>w'.cell? ⟨w.heap.size+1,0,none⟩=some (I tick)/\w'.cell? ⟨w.heap.size+1,1,none⟩=some (I hash)) (first | go_keep | (refine⟨?_,?_⟩ <;> assumption)) (first | ((go_at_call 254;(with_reducible refine (hput tick _).mono ?_);rintro e w3 ⟨A3,c3,rfl,own3,hb3⟩);have hp3:=Blk.below (w':=w3) (g:=w.heap.size) (t:=26) (cs:=[.slice x.A1 x.n1 x.c1,.slice x.A2 x.n2 x.c2,I p.regs,.slice x.A3 x.n3 x.c3,.slice x.A4 x.n4 x.c4]) bI hb3 br;have hs3:=Blk.below (w':=w3) (g:=w.heap.size+1) (t:=139) (cs:=[I tick,I hash,.slice B m d]) bI hb3 br;obtain⟨y30,y31,y32,y33,y34⟩:=blk5 hp3;obtain⟨j30,j31,j32⟩:=blk3 hs3;have sz3:=hs3.lt;have rs3:=hb3.size;replace hb3:=bO (a:=w) (B:=w.heap.size) bc hb3 br;have hb3s:=hb3.size) | ((go_at_call 254;(with_reducible refine (hput hash _).mono ?_);rintro e w4 ⟨A4,c4,rfl,own4,hb4⟩);have own3a:=own3.below hb4 aW;have hp4:=Blk.below (w':=w4) (g:=w.heap.size) (t:=26) (cs:=[.slice x.A1 x.n1 x.c1,.slice x.A2 x.n2 x.c2,I p.regs,.slice x.A3 x.n3 x.c3,.slice x.A4 x.n4 x.c4]) bI hb4 br;have hs4:=Blk.below (w':=w4) (g:=w.heap.size+1) (t:=139) (cs:=[I tick,I hash,.slice B m d]) bI hb4 br;obtain⟨y40,y41,y42,y43,y44⟩:=blk5 hp4;obtain⟨j40,j41,j42⟩:=blk3 hs4;have sz4:=hs4.lt;have rs4:=hb4.size;replace hb4:=bO (a:=w) (B:=w.heap.size) bc hb4 br;have hb4s:=hb4.size) | (refine eF rfl rfl cH dg (s:=.tmp 20) (N:=16) (L:=nBs tick ++ nBs hash) rfl own3a rfl (k:=nBs hash) own4.rd rfl rfl bQ aS br ?_;intro A5 c5 w5 own5 hg5 hat5 hb5;have hs5:=Blk.grown hs4 hg5 (own3a.ne_ hs4 aU);obtain⟨j50,j51,j52⟩:=blk3 hs5;replace own5:=own5.rebase (base':=w.heap.size) br;replace hb5:=bO (a:=w) (B:=w.heap.size) bc hb5 br;have hb5s:=hb5.size))
 all_goals
  clear own3 own3a own4;go_wp2;go_loopw [6,28] (fun v i wr=>∃ (k:Nat) (C:Option Addr) (e:Nat),k<=m/\i=I (k:Nat)/\v=.slice C (16+8 * k) e/\Ow bv wr w.heap.size 5 C (16+8 * k) e (nBs tick ++ nBs hash ++ (l.take k).flatMap nBs)/\Below w.heap.size w wr) (fun _ i _=>m - (intOf i).toNat)
  case atStart=>exact⟨0,A5,c5,aS,rfl,rfl,by rw[hz0.out];exact own5,hb5⟩
  case round=>
   clear own5;obtain⟨k,C,e,hk,rfl,rfl,hown,hbel⟩:=hrel;have hbs:=hbel.size
   by_cases hlt:k<m
   · obtain⟨b,o,rfl,_,hc⟩:=(hl.below hbel aW).at_ hlt;have hcx:=hcat k hlt;clear hcat hz0;generalize bj l k=v at *;go_wp2_with (first | ((go_at_call 254;go_call (hput v _) as e w7 ⟨A7,c7,rfl,own7,hb7⟩);have own7a:=hown.below hb7 aW;replace hb7:=bO (a:=w) (B:=w.heap.size) bc hb7 br;have hb7s:=hb7.size) | (at_builtin;refine dR rfl rfl cH dg (s:=.tmp 32) (N:=16+8 * (k+1)) (L:=nBs tick ++ nBs hash ++ (l.take (k+1)).flatMap nBs) rfl own7a rfl (k:=nBs v) own7.rd aS hcx.out bQ aS br ?_;intro A8 c8 w8 own8 hg8 hat8 hb8;replace hb8:=bO (a:=w) (B:=w.heap.size) bc hb8 br;have hb8s:=hb8.size));go_roundw
     case rel=>exact⟨k+1,A8,c8,aS,by go_num,rfl,own8,hb8⟩
     case measure=>simp[intOf];omega
   · have hkm:k=m:=aS;subst hkm;clear hcat hz0;go_wp2;go_ret2;exact⟨C,_,e,rfl,by rw[<- hfin.out];exact hown,hbel⟩
/-! ### Turned numbers -/
theorem write_row (A B:Option Addr)(n m c d:Nat)(ts l:List Int)(w:World)(ht:RI w A n ts)(hl:RI w B m l)(hn:n<=maxLen)(hm:m<=maxLen)(h:da ts=true)(hf:cx ts l=false) :
 Ca 205 #[.slice A n c,.slice B m d] w fun e w'=>e=.returned (.tuple #[.slice none 0 0,I 41])/\w=w':=by
 have hright:=jE A n c ts w ht hn;have hfits:=jS A B n m c d ts l w ht hl hn hm;rw[h] at hright;rw[hf] at hfits;clear h hf;go_enter Tryz.func205,Tryz.ntmps205;go_wp2_with (first | (go_at_call 150;go_call (hright) as e w' ⟨rfl,rfl⟩) | (go_at_call 216;go_call (hfits) as e w' ⟨rfl,rfl⟩));go_ret2;exact⟨rfl,rfl⟩
theorem piece_two (v:Int):piece 2 v=[UInt8.ofNat v.toNat]:=by unfold piece;rw[if_pos rfl]
theorem piece_not {t:Int}(h:t≠2)(v:Int):piece t v=digL 9 (zz v):=by unfold piece;rw[if_neg h]
theorem pt (A B:Option Addr)(n m c d:Nat)(ts l:List Int)(w:World)(ht:RI w A n ts)(hl:RI w B m l)(hn:n<=maxLen)(hm:m<=maxLen)(hf:cx ts l=true)
 (hb:∀ i,i<l.length->-9223372036854775808<=bj l i/\bj l i<=9223372036854775807) :
 Ca 205 #[.slice A n c,.slice B m d] w fun e w'=>∃ A' N c',e=.returned (.tuple #[.slice A' N c',I 0])/\OB w' w.heap.size 5 A' N c' (rowB ts l ts.length)/\Below w.heap.size w w':=by
 have hright:=jE A n c ts w ht hn;have hfits:=jS A B n m c d ts l w ht hl hn hm;obtain⟨f1,f2,f3⟩:=jC.1 hf;obtain⟨r1,r2,r3⟩:=fG.1 f1;rw[hf] at hfits;rw[f1] at hright;have e1:=ht.1;have e2:=hl.1;have hmn:m=n:=aS;subst hmn;have hm8:m<=8:=aS;rw[e1] at f3 r1 ⊢;rw[e2] at hb;clear hf f1 f2 r2 r3 e1 e2;have hrs:∀ k,Hid (rowB ts l (k+1)=rowB ts l k ++ piece (bj ts k) (bj l k)):=fun k=>rfl
 have hr0:Hid (rowB ts l 0=[]):=rfl;generalize rowB ts l=R at *;go_enter Tryz.func205,Tryz.ntmps205;go_wp2_with (first | (go_at_call 150;go_call (hright) as e w' ⟨rfl,rfl⟩) | (go_at_call 216;go_call (hfits) as e w' ⟨rfl,rfl⟩));go_loopw [6,20] (fun v i wr=>∃ k N A' c',k<=m/\i=I (k:Nat)/\N<=10 * k/\v=.slice A' N c'/\Ow bv wr w.heap.size 5 A' N c' (R k)/\Below w.heap.size w wr) (fun _ i _=>m - (intOf i).toNat)
 case atStart=>exact⟨0,0,none,0,aS,rfl,aS,rfl,by rw[hr0.out];exact Ow.nil _ _ _ _,Below.refl _ _⟩
 case round=>
  obtain⟨k,N,A1,c1,hk,rfl,hN,rfl,hown,hbel⟩:=hrel;have hbs:=hbel.size
  by_cases hlt:k<m
  · have ht':=ht.below hbel aW;have hl':=hl.below hbel aW;obtain⟨b,o,rfl,_,hc⟩:=ht'.at_ hlt;obtain⟨b2,o2,rfl,_,hc2⟩:=hl'.at_ hlt;have hk1:=hrs k;have hbk:=hb k hlt
    by_cases h2:bj ts k=2
    · have h3:=f3 k hlt h2;rw[h2] at hc;clear hrs hb f3 r1;rcases h3 with h3 | h3
      all_goals
       have hk2:Hid (R k ++ [UInt8.ofNat (bj l k).toNat]=R (k+1)):=by
        show _=_
        rw[hk1.out,h2,piece_two]
       rw[h3] at hc2 hk2;clear h3 h2 hk1 hbk
      · go_wp2_with (at_builtin;refine dR rfl rfl cH dg (s:=.tmp 27) (N:=N+1) (L:=R (k+1)) rfl (hown.below (b:=wr.heap.size) bc br) rfl (k:=[(0:UInt8)]) (Rd.of_block (l:=[(0:UInt8)]) (dP _ _ aZ) rfl) rfl (hk2.out) bQ aS br ?_;intro A5 c5 w5 hown5 hg5 hat5 hb5);replace hb5:=bO (a:=w) (B:=w.heap.size) bc hb5 br;have hb5s:=hb5.size;go_roundw
        case rel=>exact⟨k+1,N+1,A5,c5,aS,by go_num,aS,rfl,hown5,hb5⟩
        case measure=>simp[intOf];omega
      · go_wp2_with (at_builtin;refine dR rfl rfl cH dg (s:=.tmp 27) (N:=N+1) (L:=R (k+1)) rfl (hown.below (b:=wr.heap.size) bc br) rfl (k:=[(1:UInt8)]) (Rd.of_block (l:=[(1:UInt8)]) (dP _ _ aZ) rfl) rfl (hk2.out) bQ aS br ?_;intro A5 c5 w5 hown5 hg5 hat5 hb5);replace hb5:=bO (a:=w) (B:=w.heap.size) bc hb5 br;have hb5s:=hb5.size;go_roundw
        case rel=>exact⟨k+1,N+1,A5,c5,aS,by go_num,aS,rfl,hown5,hb5⟩
        case measure=>simp[intOf];omega
    · have b2:(bj ts k == 2)=false:=by rw[af];exact h2
      have hkL:Hid (R k ++ digL 9 (zz (bj l k))=R (k+1)):=by
       show _=_
       rw[hk1.out,piece_not h2]
      have hz:=fun w=>zig_any (bj l k) w hbk.1 hbk.2
      have hd:=(gN 9 (zz (bj l k))).1;clear hrs hb f3 r1 h2 hk1 hbk;generalize bj ts k=t at *;generalize digL 9 (zz (bj l k))=D at *;generalize bj l k=v at *;go_wp2_with (first | ((go_at_call 229;go_call (hz _) as e w4 ⟨A4,c4,rfl,hown4,hb4⟩);have hb4s:=hb4.size;have hbw4:=iO hbel hb4 hbs) | (at_builtin;refine dR rfl rfl cH dg (s:=.tmp 35) (N:=N+D.length) (L:=R (k+1)) rfl (hown.below (b:=wr.heap.size) bc br) rfl (k:=D) (hown4.rd) (by first | rfl | omega) (by first | exact hkL.out | rfl | (simp;done)) bQ aS br ?_;intro A5 c5 w5 hown5 hg5 hat5 hb5;replace hown5:=hown5.rebase (base':=w.heap.size) br;replace hb5:=bO (a:=w) (B:=w.heap.size) bc hb5 br;have hb5s:=hb5.size));go_roundw
      case rel=>exact⟨k+1,N+D.length,A5,c5,aS,by go_num,aS,rfl,hown5,hb5⟩
      case measure=>simp[intOf];omega
  · have hkn:k=m:=aS;subst hkn;clear hrs hb f3 r1;go_wp2;go_ret2;exact⟨A1,N,c1,rfl,hown,hbel⟩
theorem zag_any (A:Option Addr)(n c:Nat)(l:List UInt8)(w:World)(hl:RB w A n l)(hn:n<=maxLen) :
 Ca 240 #[.slice A n c] w fun e w'=>e=.returned (.tuple #[I (zagV l),I (zagS l:Nat),I (zagE l:Nat)])/\w=w':=by
 by_cases h:(cy 10 0 l).2=0
 · have hz:cy 10 0 l=((cy 10 0 l).1,0):=Prod.ext rfl h
   by_cases hb:(cy 10 0 l).1=10/\1<bx l 9
   · have e1:zagE l=11:=by unfold zagE;rw[if_neg aS,if_pos hb]
     have e2:zagS l=0:=by unfold zagS;rw[if_neg aS]
     have e3:zagV l=0:=by unfold zagV;rw[if_neg aS]
     rw[e1,e2,e3];rw[hb.1] at hz;exact zag_big A n c l w hl hn hz hb.2
   · have e1:zagE l=0:=by unfold zagE;rw[if_neg aS,if_neg hb]
     have e2:zagS l=(cy 10 0 l).1:=by unfold zagS;rw[if_pos e1]
     have e3:zagV l=unzz (sevL (l.take (cy 10 0 l).1)):=by unfold zagV;rw[if_pos e1]
     rw[e1,e2,e3];exact zag_ok A n c _ l w hl hn hz aS
 · have e1:zagE l=(cy 10 0 l).2:=by unfold zagE;rw[if_pos h]
   have e2:zagS l=0:=by unfold zagS;rw[if_neg aS]
   have e3:zagV l=0:=by unfold zagV;rw[if_neg aS]
   rw[e1,e2,e3];exact zag_err A n c l w hl hn h
