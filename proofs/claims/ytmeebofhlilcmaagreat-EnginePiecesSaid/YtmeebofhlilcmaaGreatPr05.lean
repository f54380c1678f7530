/- Parts. -/
import Derived.Test.YtmeebofhlilcmaaGreatPr04
set_option linter.unusedVariables false
set_option linter.unusedSimpArgs false
set_option maxRecDepth 100000
set_option maxHeartbeats 0
namespace Go.Proofs.YtmeebofhlilcmaaGreat
open Go.RowKit
theorem blk5 {w:World}{g:Nat}{t:TypeId}{v0 v1 v2 v3 v4:Value}(h:Blk w g t [v0,v1,v2,v3,v4]):w.cell? ⟨g,0,none⟩=some v0/\w.cell? ⟨g,1,none⟩=some v1/\w.cell? ⟨g,2,none⟩=some v2/\w.cell? ⟨g,3,none⟩=some v3/\w.cell? ⟨g,4,none⟩=some v4 :=
 ⟨h.cell 0,h.cell 1,h.cell 2,h.cell 3,h.cell 4⟩
theorem jG (x:PA)(p:PV)(w:World)(h:bZ w x p) :
 Ca 153 #[.agg #[.slice x.A1 x.n1 x.c1,.slice x.A2 x.n2 x.c2,I p.regs,.slice x.A3 x.n3 x.c3,.slice x.A4 x.n4 x.c4]] w fun e w'=>e=.returned (.bool (mayB p))/\Below w.heap.size w w':=by
 obtain⟨A1,n1,c1,A2,n2,c2,A3,n3,c3,A4,n4,c4⟩:=x;obtain⟨ins,outs,regs,cells,code⟩:=p;obtain⟨r1,r2,r3,r4,k1,k2,k3,k4⟩:=h;simp only at r1 r2 r3 r4 k1 k2 k3 k4 ⊢;have hr1:=fun w h=>jt A1 n1 c1 ins w h aS
 have hr2:=fun w h=>jt A2 n2 c2 outs w h aS
 have e3:=r3.1;have e4:=r4.1;generalize hz:mayB ⟨ins,outs,regs,cells,code⟩=z;have hI:=@dP ⟨ins,outs,regs,cells,code⟩;rw[hz] at hI;simp only[e3,e4] at hI;have HI:=aT hI;clear hz hI e3 e4;have m3:n3<=9223372036854775807:=by have:=k3.1;have:=k3.2;unfold maxLen at this;omega
 have m4:n4<=9223372036854775807:=by have:=k4.1;have:=k4.2;unfold maxLen at this;omega
 clear k1 k2 k3 k4;go_enter Tryz.func153,Tryz.ntmps153;go_wp2;go_loopw [10] (fun i wr=>∃ k:Nat,k<=n3/\i=I (k:Nat)/\Hid (∀ i,i<k->fu (cJ cells i).1 (cJ cells i).2=true)/\Below w.heap.size w wr/\w.heap.size<wr.heap.size /\
  Blk wr w.heap.size 26 [.slice A1 n1 c1,.slice A2 n2 c2,I regs,.slice A3 n3 c3,.slice A4 n4 c4]) (fun i _=>n3 - (intOf i).toNat)
 case atStart=>exact⟨0,aS,rfl,fun i hi=>absurd hi aS,be,by simp,bx⟩
 case round=>
  obtain⟨k,hk,rfl,hall,hbel,hsz,hblk⟩:=hrel
  by_cases hlt:k<n3
  · have hne:¬ (n3:Int)<=(k:Int):=aS;obtain⟨b,o,x,rfl,hb,hx,hc⟩:=(r3.below hbel aV).at_ gR aS hlt;have h0:wr.cell? ⟨b,o+k * 2,none⟩=some (I x.1):=hc 0 aS;have h1:wr.cell? ⟨b,o+k * 2+1,none⟩=some (I x.2):=hc 1 aS;have hxk:=aT (iT hx);clear hc hx;obtain⟨t,f⟩:=x;simp only at h0 h1;have hv:=fun w=>value_any t f w
    cases hvb:fu t f with
    | true=>
      have hall':Hid (∀ i,i<k+1->fu (cJ cells i).1 (cJ cells i).2=true):=fun i hi=>by
       rcases aw i k with h | h
       · exact hall.out i h
       · rw[show i=k from by omega,hxk.out];exact hvb
      rw[hvb] at hv;clear hvb hall;go_wp2_with (go_at_call 222;go_call (hv _) as e w1 ⟨rfl,rfl⟩);go_roundw
      case rel=>exact⟨k+1,aS,by go_num,hall',be,by simp;omega,bx⟩
      case measure=>simp[intOf];omega
    | false=>
      have hz:Hid (z=false):=by
       show z=false
       rw[Bool.eq_false_iff];intro hc;have:=(HI.out.1 hc).2.2.2.2.2.2.1 k hlt;rw[hxk.out,hvb] at this
       cases this
      rw[hvb] at hv;clear hvb hall;go_wp2_with (go_at_call 222;go_call (hv _) as e w1 ⟨rfl,rfl⟩);go_ret;exact⟨cV hz.out.symm,be⟩
  · have hkn:k=n3:=aS;subst hkn;have hall3:=hall;clear hall;obtain⟨g0,g1,g2,g3,g4⟩:=blk5 hblk;go_wp2;have hsz0:=hsz;have hbel0:=hbel;clear hsz hbel;go_loopw [24] (fun i w2=>∃ j:Nat,j<=n4/\i=I (j:Nat)/\Hid (∀ i,i<j->insB (aX code i)=true)/\Below w.heap.size w w2/\w.heap.size<w2.heap.size /\
     Blk w2 w.heap.size 26 [.slice A1 n1 c1,.slice A2 n2 c2,I regs,.slice A3 k c3,.slice A4 n4 c4]) (fun i _=>n4 - (intOf i).toNat)
    case atStart=>exact⟨0,aS,rfl,fun i hi=>absurd hi aS,hbel0,hsz0,hblk⟩
    case round=>
     clear g0 g1 g2 g3 g4 hblk;obtain⟨j,hj,rfl,hall,hbel,hsz,hblk⟩:=hrel
     by_cases hlt:j<n4
     · have hne:¬ (n4:Int)<=(j:Int):=aS;obtain⟨b,o,x,rfl,hb,hx,hc⟩:=(r4.below hbel aV).at_ gH aS hlt;obtain⟨op,xa,xb,xc,xk⟩:=x;have h0:wr.cell? ⟨b,o+j * 5,none⟩=some (I op):=hc 0 aS;have h1:wr.cell? ⟨b,o+j * 5+1,none⟩=some (I xa):=hc 1 aS;have h2:wr.cell? ⟨b,o+j * 5+2,none⟩=some (I xb):=hc 2 aS;have h3:wr.cell? ⟨b,o+j * 5+3,none⟩=some (I xc):=hc 3 aS;have h4:wr.cell? ⟨b,o+j * 5+4,none⟩=some (I xk):=hc 4 aS;have hxk:=aT (gC hx);clear hc hx;have hv:=fun w=>instr_any op xa xb xc xk w
       cases hvb:insB ⟨op,xa,xb,xc,xk⟩ with
       | true=>
         have hall':Hid (∀ i,i<j+1->insB (aX code i)=true):=fun i hi=>by
          rcases aw i j with h | h
          · exact hall.out i h
          · rw[show i=j from by omega,hxk.out];exact hvb
         rw[hvb] at hv;clear hvb hall;go_wp2_with ((go_at_call 223;go_call (hv _) as e w5 ⟨rfl,hb5⟩);have hbw5:=bB (a:=w) (B:=w.heap.size) be hb5 cO;have hs5:=hb5.size;have hk5:=Blk.below (w':=w5) (g:=w.heap.size) (t:=26) (cs:=[.slice A1 n1 c1,.slice A2 n2 c2,I regs,.slice A3 k c3,.slice (some ⟨b,o,none⟩) n4 c4]) bx hb5 cO);simp at hs5;go_roundw
         case rel=>exact⟨j+1,aS,by go_num,hall',hbw5,aS,hk5⟩
         case measure=>simp[intOf];omega
       | false=>
         have hz:Hid (z=false):=by
          show z=false
          rw[Bool.eq_false_iff];intro hc;have:=(HI.out.1 hc).2.2.2.2.2.2.2 j hlt;rw[hxk.out,hvb] at this
          cases this
         rw[hvb] at hv;clear hvb hall;go_wp2_with ((go_at_call 223;go_call (hv _) as e w5 ⟨rfl,hb5⟩);have hbw5:=bB (a:=w) (B:=w.heap.size) be hb5 cO);go_ret;exact⟨cV hz.out.symm,hbw5⟩
     · have hjn:j=n4:=aS;subst hjn;obtain⟨g0,g1,g2,g3,g4⟩:=blk5 hblk;have q1:=r1.below hbel aV;have q2:=r2.below hbel aV;have HZ:Hid (z=true ↔ db ins=true/\db outs=true/\0<=regs/\regs<=1600/\k<=60/\j<=2048):=by
        have h1:=HI.out
        show _ ↔ _
        constructor
        · intro h;obtain⟨a1,a2,a3,a4,a5,a6,_⟩:=h1.1 h;exact⟨a1,a2,a3,a4,a5,a6⟩
        · rintro ⟨a1,a2,a3,a4,a5,a6⟩;exact h1.2 ⟨a1,a2,a3,a4,a5,a6,fun i hi=>hall3.out i hi,fun i hi=>hall.out i hi⟩
       have hne:(j:Int)<=(j:Int):=aS;clear hall hall3 HI r1 r2 r3 r4 hblk hbel0 hsz0;generalize db ins=b1 at *;generalize db outs=b2 at *;have HF:¬ (b1=true/\b2=true/\0<=regs/\regs<=1600/\k<=60/\j<=2048)->Hid (z=false):=fun h=>by
        show z=false
        rw[Bool.eq_false_iff];exact fun hc=>h (HZ.out.1 hc)
       have HF:=aT HF
       cases b1 with
       | false=>
         have hz:=HF.out bj;clear HF HZ;go_wp2_with (go_at_call 150;go_call (hr1 _ q1) as e w1 ⟨rfl,rfl⟩);go_ret;exact⟨cV hz.out.symm,be⟩
       | true=>
         cases b2 with
         | false=>
           have hz:=HF.out bj;clear HF HZ;go_wp2_with (first | (go_at_call 150;(with_reducible refine (hr1 _ q1).mono ?_);rintro e w1 ⟨rfl,rfl⟩) | (go_at_call 150;(with_reducible refine (hr2 _ q2).mono ?_);rintro e w1 ⟨rfl,rfl⟩));go_ret;exact⟨cV hz.out.symm,be⟩
         | true=>
           rcases (show regs<0\/(0<=regs/\1600<regs)\/(0<=regs/\regs<=1600/\60<k)\/(0<=regs/\regs<=1600/\k<=60/\2048<j)\/(0<=regs/\regs<=1600/\k<=60/\j<=2048) by omega) with h | h | h | h | h
           case' inr.inr.inr.inr=>
            have hz:Hid (z=true):=HZ.out.2 ⟨rfl,rfl,h⟩;obtain⟨h1,h2,h3,h4⟩:=h
           case' inl=>have hz:=HF.out aS
           case' inr.inl=>
            have hz:=HF.out aS;obtain⟨h1,h2⟩:=h
           case' inr.inr.inl=>
            have hz:=HF.out aS;obtain⟨h1,h2,h3⟩:=h
           case' inr.inr.inr.inl=>
            have hz:=HF.out aS;obtain⟨h1,h2,h3,h4⟩:=h
           all_goals
            clear HF HZ;go_wp2_with (first | (go_at_call 150;(with_reducible refine (hr1 _ q1).mono ?_);rintro e w1 ⟨rfl,rfl⟩) | (go_at_call 150;(with_reducible refine (hr2 _ q2).mono ?_);rintro e w1 ⟨rfl,rfl⟩));go_ret;exact⟨cV mP,be⟩
theorem oS (x:PA)(p:PV)(w:World)(h:bZ w x p) :
 Ca 78 #[.agg #[.slice x.A1 x.n1 x.c1,.slice x.A2 x.n2 x.c2,I p.regs,.slice x.A3 x.n3 x.c3,.slice x.A4 x.n4 x.c4]] w fun e w'=>e=.returned (.bool (mayB p))/\Below w.heap.size w w':=by
 obtain⟨A1,n1,c1,A2,n2,c2,A3,n3,c3,A4,n4,c4⟩:=x;obtain⟨ins,outs,regs,cells,code⟩:=p;obtain⟨r1,r2,r3,r4,k1,k2,k3,k4⟩:=h;simp only at r1 r2 r3 r4 k1 k2 k3 k4 ⊢;have hr1:=fun w h=>ng A1 n1 c1 ins w h aS
 have hr2:=fun w h=>ng A2 n2 c2 outs w h aS
 have e3:=r3.1;have e4:=r4.1;generalize hz:mayB ⟨ins,outs,regs,cells,code⟩=z;have hI:=@dP ⟨ins,outs,regs,cells,code⟩;rw[hz] at hI;simp only[e3,e4] at hI;have HI:=aT hI;clear hz hI e3 e4;have m3:n3<=9223372036854775807:=by have:=k3.1;have:=k3.2;unfold maxLen at this;omega
 have m4:n4<=9223372036854775807:=by have:=k4.1;have:=k4.2;unfold maxLen at this;omega
 clear k1 k2 k3 k4;have q1:RI (w.alloc (.cells #[.slice A1 n1 c1,.slice A2 n2 c2,I regs,.slice A3 n3 c3,.slice A4 n4 c4] 26)) A1 n1 ins:=r1.below ((Below.refl _ _).alloc aV _) aV;have q2:RI (w.alloc (.cells #[.slice A1 n1 c1,.slice A2 n2 c2,I regs,.slice A3 n3 c3,.slice A4 n4 c4] 26)) A2 n2 outs:=r2.below ((Below.refl _ _).alloc aV _) aV;have HF:¬ (db ins=true/\db outs=true/\0<=regs/\regs<=1600/\n3<=60/\n4<=2048)->Hid (z=false):=fun h=>by
  show z=false
  rw[Bool.eq_false_iff];intro hc;obtain⟨a1,a2,a3,a4,a5,a6,_⟩:=HI.out.1 hc;exact h ⟨a1,a2,a3,a4,a5,a6⟩
 have HF:=aT HF;generalize hg1:db ins=b1 at *;generalize hg2:db outs=b2 at *;clear hg1 hg2
 cases b1 with
 | false=>
   have hz:=HF.out bj;clear HF HI;go_enter Tryz.func78,Tryz.ntmps78;go_wp2_with (go_at_call 121;go_call (hr1 _ q1) as e w1 ⟨rfl,rfl⟩);go_ret;exact⟨cV hz.out.symm,be⟩
 | true=>
   cases b2 with
   | false=>
     have hz:=HF.out bj;clear HF HI;go_enter Tryz.func78,Tryz.ntmps78;go_wp2_with (first | (go_at_call 121;(with_reducible refine (hr1 _ q1).mono ?_);rintro e w1 ⟨rfl,rfl⟩) | (go_at_call 121;(with_reducible refine (hr2 _ q2).mono ?_);rintro e w1 ⟨rfl,rfl⟩));go_ret;exact⟨cV hz.out.symm,be⟩
   | true=>
     rcases (show regs<0\/(0<=regs/\1600<regs)\/(0<=regs/\regs<=1600/\60<n3)\/(0<=regs/\regs<=1600/\n3<=60/\2048<n4)\/(0<=regs/\regs<=1600/\n3<=60/\n4<=2048) by omega) with h | h | h | h | h
     case inr.inr.inr.inr=>
      obtain⟨h1,h2,h3,h4⟩:=h;have HZ:Hid (z=true ↔ (∀ i,i<n3->fu (cJ cells i).1 (cJ cells i).2=true)/\(∀ i,i<n4->insB (aX code i)=true)):=by
       have h1:=HI.out
       show _ ↔ _
       constructor
       · intro h;obtain⟨a1,a2,a3,a4,a5,a6,a7,a8⟩:=h1.1 h;exact⟨a7,a8⟩
       · rintro ⟨a7,a8⟩;exact h1.2 ⟨rfl,rfl,aS,by omega,aS,by omega,a7,a8⟩
      clear HF HI;go_enter Tryz.func78,Tryz.ntmps78;go_wp2_with (first | (go_at_call 121;(with_reducible refine (hr1 _ q1).mono ?_);rintro e w1 ⟨rfl,rfl⟩) | (go_at_call 121;(with_reducible refine (hr2 _ q2).mono ?_);rintro e w1 ⟨rfl,rfl⟩));clear q1 q2 hr1 hr2;go_loopw [3] (fun i wr=>∃ k:Nat,k<=n3/\i=I (k:Nat)/\Hid (∀ i,i<k->fu (cJ cells i).1 (cJ cells i).2=true)/\Below w.heap.size w wr/\w.heap.size<wr.heap.size /\
       Blk wr w.heap.size 26 [.slice A1 n1 c1,.slice A2 n2 c2,I regs,.slice A3 n3 c3,.slice A4 n4 c4]) (fun i _=>n3 - (intOf i).toNat)
      case atStart=>exact⟨0,aS,rfl,fun i hi=>absurd hi aS,be,by simp,bx⟩
      case round=>
       obtain⟨k,hk,rfl,hall,hbel,hsz,hblk⟩:=hrel;obtain⟨g0,g1,g2,g3,g4⟩:=blk5 hblk
       by_cases hlt:k<n3
       · have hne:¬ (n3:Int)<=(k:Int):=aS;have hi0:(0:Int)<=(k:Int):=aS;have hi1:(k:Int)<(n3:Int):=aS;obtain⟨b,o,x,rfl,hb,hx,hc⟩:=(r3.below hbel aV).at_ gR aS hlt;have h0:wr.cell? ⟨b,o+k * 2,none⟩=some (I x.1):=hc 0 aS;have h5:wr.cell? ⟨b,o+k * 2+1,none⟩=some (I x.2):=hc 1 aS;have hxk:=aT (iT hx);clear hc hx;obtain⟨t,f⟩:=x;simp only at h0 h5;have hv:=fun w=>oQ t f w
         cases hvb:fu t f with
         | true=>
           have hall':Hid (∀ i,i<k+1->fu (cJ cells i).1 (cJ cells i).2=true):=fun i hi=>by
            rcases aw i k with h | h
            · exact hall.out i h
            · rw[show i=k from by omega,hxk.out];exact hvb
           rw[hvb] at hv;clear hvb hall;go_wp2;go_quiet ((go_at_call 172;exact Calls.quiet_of_same ((hv _).mono fun e w' ⟨h1,h2⟩=>⟨h1,h2.symm⟩)));go_wp2;go_roundw
           case rel=>exact⟨k+1,aS,by go_num,hall',be,hsz,hblk⟩
           case measure=>simp[intOf];omega
         | false=>
           have hz:Hid (z=false):=by
            show z=false
            rw[Bool.eq_false_iff];intro hc;have:=(HZ.out.1 hc).1 k hlt;rw[hxk.out,hvb] at this
            cases this
           rw[hvb] at hv;clear hvb hall;go_wp2;go_quiet ((go_at_call 172;exact Calls.quiet_of_same ((hv _).mono fun e w' ⟨h1,h2⟩=>⟨h1,h2.symm⟩)));go_wp2;go_ret;exact⟨cV hz.out.symm,be⟩
       · have hkn:k=n3:=aS;subst hkn;have hall3:=hall;clear hall;go_wp2;have hsz0:=hsz;have hbel0:=hbel;clear hsz hbel;go_loopw [4] (fun i w2=>∃ j:Nat,j<=n4/\i=I (j:Nat)/\Hid (∀ i,i<j->insB (aX code i)=true)/\Below w.heap.size w w2/\w.heap.size<w2.heap.size /\
          Blk w2 w.heap.size 26 [.slice A1 n1 c1,.slice A2 n2 c2,I regs,.slice A3 k c3,.slice A4 n4 c4]) (fun i _=>n4 - (intOf i).toNat)
         case atStart=>exact⟨0,aS,rfl,fun i hi=>absurd hi aS,hbel0,hsz0,hblk⟩
         case round=>
          clear g0 g1 g2 g3 g4 hblk;obtain⟨j,hj,rfl,hall,hbel,hsz,hblk⟩:=hrel;obtain⟨g0,g1,g2,g3,g4⟩:=blk5 hblk
          by_cases hlt:j<n4
          · have hne:¬ (n4:Int)<=(j:Int):=aS;obtain⟨b,o,x,rfl,hb,hx,hc⟩:=(r4.below hbel aV).at_ gH aS hlt;obtain⟨op,xa,xb,xc,xk⟩:=x;have e0:wr.cell? ⟨b,o+j * 5,none⟩=some (I op):=hc 0 aS;have e1:wr.cell? ⟨b,o+j * 5+1,none⟩=some (I xa):=hc 1 aS;have e2:wr.cell? ⟨b,o+j * 5+2,none⟩=some (I xb):=hc 2 aS;have e3:wr.cell? ⟨b,o+j * 5+3,none⟩=some (I xc):=hc 3 aS;have e4:wr.cell? ⟨b,o+j * 5+4,none⟩=some (I xk):=hc 4 aS;have hxk:=aT (gC hx);clear hc hx;have hall':Hid (insB ⟨op,xa,xb,xc,xk⟩=true->∀ i,i<j+1->insB (aX code i)=true):=fun hvb i hi=>by
             rcases aw i j with h | h
             · exact hall.out i h
             · rw[show i=j from by omega,hxk.out];exact hvb
            have hbad:Hid (insB ⟨op,xa,xb,xc,xk⟩=false->z=false):=fun hvb=>by
             rw[Bool.eq_false_iff];intro hc;have:=(HZ.out.1 hc).2 j hlt;rw[hxk.out,hvb] at this
             cases this
            have hv:=fun w=>has_any op w
            unfold hasN hasK at hv;have hle:=cls_le op;have hI2:insB ⟨op,xa,xb,xc,xk⟩=true ↔ (cls op≠0/\0<=xa/\0<=xb/\0<=xc/\(cls op=1->xb=0)/\(cls op<=2->xc=0)/\(cls op=2\/cls op=3->xk=0)):=by
             unfold insB;rw[decide_eq_true_iff];rfl
            generalize insB ⟨op,xa,xb,xc,xk⟩=zi at *;generalize cls op=q at *;clear hall hxk HZ hall3 r3 r4;rcases (show q=0\/q=1\/q=2\/q=3\/q=4 by omega) with rfl | rfl | rfl | rfl | rfl
            case' inl=>
             have hv':∀ w,Ca 173 #[I op] w fun e w'=>e=.returned (.tuple #[I 0,.bool false])/\w=w':=hv
             have hcs:False\/False\/False\/False\/False\/True:=by simp
            case' inr.inl=>
             have hv':∀ w,Ca 173 #[I op] w fun e w'=>e=.returned (.tuple #[I 1,.bool true])/\w=w':=hv
             have hcs:(xa<0)\/(0<=xa/\xb<0)\/(0<=xa/\0<=xb/\xc<0)\/(0<=xa/\0<xb/\0<=xc)\/(0<=xa/\xb=0/\0<xc)\/(0<=xa/\xb=0/\xc=0):=aS
            case' inr.inr.inl=>
             have hv':∀ w,Ca 173 #[I op] w fun e w'=>e=.returned (.tuple #[I 2,.bool false])/\w=w':=hv
             have hcs:(xa<0)\/(0<=xa/\xb<0)\/(0<=xa/\0<=xb/\xc<0)\/(0<=xa/\0<=xb/\0<xc)\/(0<=xa/\0<=xb/\xc=0/\xk≠0)\/(0<=xa/\0<=xb/\xc=0/\xk=0):=aS
            case' inr.inr.inr.inl=>
             have hv':∀ w,Ca 173 #[I op] w fun e w'=>e=.returned (.tuple #[I 3,.bool false])/\w=w':=hv
             have hcs:(xa<0)\/(0<=xa/\xb<0)\/(0<=xa/\0<=xb/\xc<0)\/(0<=xa/\0<=xb/\0<=xc/\xk≠0)\/(0<=xa/\0<=xb/\0<=xc/\xk=0)\/False:=aS
            case' inr.inr.inr.inr=>
             have hv':∀ w,Ca 173 #[I op] w fun e w'=>e=.returned (.tuple #[I 3,.bool true])/\w=w':=hv
             have hcs:(xa<0)\/(0<=xa/\xb<0)\/(0<=xa/\0<=xb/\xc<0)\/(0<=xa/\0<=xb/\0<=xc)\/False\/False:=aS
            all_goals
             clear hv hle;rcases hcs with hcs | hcs | hcs | hcs | hcs | hcs
             all_goals
              cases zi
              all_goals
               first
               | (exfalso;have h9:=hI2.1 rfl;omega)
               | (exfalso;apply Bool.false_ne_true;apply hI2.2;refine⟨?_,?_,?_,?_,?_,?_,?_⟩ <;> (intros;omega))
               | (exfalso;exact hcs)
               | skip
            all_goals
             clear hI2
             first
             | (obtain⟨h6,rfl,rfl⟩:=hcs)
             | (obtain⟨h6,h7,rfl,rfl⟩:=hcs)
             | (obtain⟨h6,h7,h8,rfl⟩:=hcs)
             | (obtain⟨h6,rfl,h8⟩:=hcs;(have b3:(xc != 0)=true:=by rw[af];omega))
             | (obtain⟨h6,h7,rfl,h9⟩:=hcs;(have b4:(xk != 0)=true:=by rw[af];omega);clear h9)
             | (obtain⟨h6,h7,h8,h9⟩:=hcs;(have b4:(xk != 0)=true:=by rw[af];omega);clear h9)
             | (obtain⟨h6,h7,h8⟩:=hcs;try (have b2:(xb != 0)=true:=by rw[af];omega);try (have b3:(xc != 0)=true:=by rw[af];omega))
             | (obtain⟨h6,h7⟩:=hcs)
             | skip
            all_goals
             first
             | (have hz9:Hid (z=false):=hbad.out rfl;clear hbad hall')
             | (have hall9:Hid (∀ i,i<j+1->insB (aX code i)=true):=hall'.out rfl;clear hbad hall')
             go_wp2_with (go_at_call 173;go_call (hv' _) as e w1 ⟨rfl,rfl⟩)
             first
             | (go_ret;exact⟨cV hz9.out.symm,be⟩)
             | (go_roundw
                case rel=>exact⟨j+1,aS,by go_num,hall9,be,by simp;omega,bx⟩
                case measure=>simp[intOf];omega)
          · have hjn:j=n4:=aS;subst hjn;have hge:(j:Int)<=(j:Int):=aS;have hz:Hid (z=true):=HZ.out.2 ⟨hall3.out,hall.out⟩;clear HZ hall hall3 r3 r4;go_wp2;go_ret;exact⟨cV hz.out.symm,be⟩
     case' inl=>have hz:=HF.out aS
     case' inr.inl=>
      have hz:=HF.out aS;obtain⟨h1,h2⟩:=h
     case' inr.inr.inl=>
      have hz:=HF.out aS;obtain⟨h1,h2,h3⟩:=h
     case' inr.inr.inr.inl=>
      have hz:=HF.out aS;obtain⟨h1,h2,h3,h4⟩:=h
     all_goals
      clear HF HI;go_enter Tryz.func78,Tryz.ntmps78;go_wp2_with (first | (go_at_call 121;(with_reducible refine (hr1 _ q1).mono ?_);rintro e w1 ⟨rfl,rfl⟩) | (go_at_call 121;(with_reducible refine (hr2 _ q2).mono ?_);rintro e w1 ⟨rfl,rfl⟩));go_ret;exact⟨cV mP,be⟩
