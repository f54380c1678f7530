/- Parts. -/
import Derived.Test.YtmeebofhlilcmaaGreatPr50
set_option linter.unusedVariables false
set_option linter.unusedSimpArgs false
set_option maxRecDepth 100000
set_option maxHeartbeats 0
namespace Go.Proofs.YtmeebofhlilcmaaGreat
variable {pace:Int} {rows:List (List Int)}
open Go.RowKit
theorem lE (w:World)(h:SlV):Below w.heap.size w (w.alloc (.cells #[.slice h.a h.n h.c] 22)):=(Below.refl _ _).alloc aV _
section
variable {w:World} {x:PA} {p:PV}
theorem rtick_row {H m:Nat}(G:Prg p H m pace)(hR:eH p.ins rows){t:Nat}(ht:t<rows.length){W:World}(h:bZ W x p)(Ac:Option Addr)(n c:Nat)(hc:RI W Ac n (dg p rows t))(Ai:Option Addr)(k d:Nat)(l:List Int)(hl0:rows[t]?=some l)(hl:RI W Ai k l)(hk:k<=maxLen) :
 Ca 129 #[.agg #[.slice x.A1 x.n1 x.c1,.slice x.A2 x.n2 x.c2,I p.regs,.slice x.A3 x.n3 x.c3,.slice x.A4 x.n4 x.c4],.slice Ac n c,.slice Ai k d] W fun e w'=>∃ A1 c1 A2 n2 c2 st,e=.returned (.tuple #[.slice A1 n c1,.slice A2 n2 c2,I st,I 0])/\Ow iv w' W.heap.size 3 A1 n c1 (dg p rows (t+1))/\Ow iv w' W.heap.size 3 A2 n2 c2 (dM p rows t)/\Below W.heap.size W w':=by
 obtain⟨i1,i2⟩:=oj G hR t aS;obtain⟨m1,m2⟩:=mF ht;have hll:fV rows t=l:=by rw[m1] at hl0;injection hl0
 rw[hll] at m2;have f1:=hR.fits _ m2;have f2:=og (hR.ints _ m2);have hn:n<=100000:=by
  have h1:=(ia.1 i1).1;have h2:=hc.1;have h3:=(dP.1 G.may).2.2.2.2.1;omega
 have e1:eO p (dg p rows t) (fV rows t)=((goV p (dg p rows t) l 0 (ea p (dg p rows t))).next,(goV p (dg p rows t) l 0 (ea p (dg p rows t))).out,(goV p (dg p rows t) l 0 (ea p (dg p rows t))).steps,0):=by
  rw[hll];unfold eO;rw[if_pos (by rw[i1,f1];rfl)]
 refine (rtick_yes h G.hv G.hw Ac n c _ hc hn Ai k d l hl hk i2 f2 i1 f1).mono fun e w' ⟨A1,c1,A2,c2,h1,h2,h3,h4⟩=>⟨A1,c1,A2,x.n2,c2,_,h1,?_,?_,h4⟩
 · have:dg p rows (t+1)=(eO p (dg p rows t) (fV rows t)).1:=rfl;rw[this,e1];exact h2
 · have:dM p rows t=(eO p (dg p rows t) (fV rows t)).2.1:=rfl;rw[this,e1];exact h3
def RTickSays (x:PA)(p:PV)(BV GV:Nat->List Int)(rows:List (List Int))(kk:Nat):Prop:=∀ (t:Nat),t<kk->∀ (W:World),bZ W x p->∀ (Ac:Option Addr) (n c:Nat),RI W Ac n (BV t)->∀ (Ai:Option Addr) (k d:Nat) (l:List Int),rows[t]?=some l->RI W Ai k l->k<=maxLen ->
    Ca 129 #[.agg #[.slice x.A1 x.n1 x.c1,.slice x.A2 x.n2 x.c2,I p.regs,.slice x.A3 x.n3 x.c3,.slice x.A4 x.n4 x.c4],.slice Ac n c,.slice Ai k d] W fun e w'=>∃ A1 c1 A2 n2 c2 st,e=.returned (.tuple #[.slice A1 n c1,.slice A2 n2 c2,I st,I 0])/\Ow iv w' W.heap.size 3 A1 n c1 (BV (t+1))/\Ow iv w' W.heap.size 3 A2 n2 c2 (GV t)/\Below W.heap.size W w'
theorem refrows_any {H m:Nat}(G:Prg p H m pace)(hR:eH p.ins rows)(h:bZ w x p)(B:Option Addr)(k d:Nat)(hl:gy w B k rows)(hk:k<=1000000) :
 Ca 35 #[.agg #[.slice x.A1 x.n1 x.c1,.slice x.A2 x.n2 x.c2,I p.regs,.slice x.A3 x.n3 x.c3,.slice x.A4 x.n4 x.c4],.slice B k d] w fun e w'=>∃ A c A2 n2 c2,e=.returned (.tuple #[.slice A k c,.slice A2 n2 c2])/\fg w' w.heap.size A k c (cM p rows k)/\Ow iv w' w.heap.size 3 A2 n2 c2 (dg p rows k)/\Below w.heap.size w w':=by
 have O:=gN.of h;have hlen:=hl.1;have hn3:p.cells.length<=100000:=by have:=(dP.1 G.may).2.2.2.2.1;omega
 have htick:Hid (RTickSays x p (dg p rows) (dM p rows) rows k):=fun t ht W h Ac n c hc Ai kk d l hl0 hl hk=>rtick_row G hR (t:=t) aS h Ac n c hc Ai kk d l hl0 hl hk
 have hL:=aT hl;have hb0:dg p rows 0=es p:=rfl;have ho0:cM p rows 0=[]:=rfl;have HS:=aT (fun t=>nQ p rows t);have hfir:=fun {W:World} (h:bZ W x p)=>reffirst_any (x:=x) h hn3
 rw[<- hb0] at hfir;clear hb0 h hl hlen;generalize dg p rows=BV at *;generalize cM p rows=OV at *;generalize dM p rows=GV at *;go_enter Tryz.func35,Tryz.ntmps35;go_upto_region 1 with fail;refine dH (fun W=>gN w W w.heap.size x p) O ?_;clear O;intro W O;have HB:=aT O.bel;have HX:=aT O.b;have HP:=aT O.rd;have lB:=O.b.lt;have hWs:=O.bel.size;obtain⟨y0,y1,y2,y3,y4⟩:=blk5 O.b;clear O;go_wp2_with (first | ((go_at_call 128;(with_reducible refine (hfir HP.out).mono ?_);rintro e w2 ⟨A2,c2,rfl,o2,b2⟩);have O2:=aT o2;have B2:=aT b2;clear o2 b2) | fail);go_loopw [6,7,8] (fun ce ou t wr=>∃ (j:Nat) (A:Option Addr) (c:Nat) (A2:Option Addr) (n2 c2:Nat),j<=k/\t=I (j:Nat)/\ou=.slice A j c/\ce=.slice A2 n2 c2/\Hid (fg wr W.heap.size A j c (OV j))/\Hid (Ow iv wr W.heap.size 3 A2 n2 c2 (BV j))/\Hid (Below W.heap.size W wr)) (fun _ _ t _=>k - (intOf t).toNat)
 case atStart=>exact⟨0,none,0,A2,x.n3,c2,aS,rfl,rfl,rfl,(by rw[ho0];exact fg.nil _ _),O2.out,B2.out⟩
 case round=>
  clear O2 B2 y0 y1 y2 y3 y4;obtain⟨j,A,c,A2,n2,c2,hj,rfl,rfl,rfl,hO,hC,hB⟩:=hrel;obtain⟨y0,y1,y2,y3,y4⟩:=blk5 (HX.out.below hB.out lB);have hbs:=hB.out.size;have lw:w.heap.size<wr.heap.size:=aS
  by_cases hlt:j<k
  · obtain⟨b,o,Bi,ni,di,L,hBe,hbl,hcell,hrow,hri,hnm⟩:=(hL.out.below HB.out aV).at_ hlt;replace hcell:=(fK hB.out hbl).trans hcell;have hri2:=aT (hri.below hB.out aV);have PW:=aT (HP.out.below (b:=W.heap.size) hB.out aV);have ct:=fun {V:World} (h:bZ V x p) (hc:RI V A2 n2 (BV j)) (hl:RI V Bi ni L)=>htick.out j hlt V h A2 n2 c2 hc Bi ni di L hrow hl hnm
    have hs9:=HS.out j;clear hri hrow htick HS;have HS9:=aT hs9;clear hs9;subst hBe;go_upto_region 6 with fail;go_region_held3 (fun w'=>w'.cell? ⟨w.heap.size,0,none⟩=some (.slice x.A1 x.n1 x.c1)/\w'.cell? ⟨w.heap.size,1,none⟩=some (.slice x.A2 x.n2 x.c2)/\w'.cell? ⟨w.heap.size,2,none⟩=some (I p.regs)/\w'.cell? ⟨w.heap.size,3,none⟩=some (.slice x.A3 x.n3 x.c3)/\w'.cell? ⟨w.heap.size,4,none⟩=some (.slice x.A4 x.n4 x.c4)/\w'.cell? ⟨b,o+j,none⟩=some (.slice Bi ni di)) (first | go_keep | (refine⟨?_,?_,?_,?_,?_,?_⟩ <;> assumption)) (first | ((go_at_call 129;(with_reducible refine (ct (PW.out.below (b:=wr.heap.size) (Below.drew (Below.refl _ _)) aV) (hC.out.below (b:=wr.heap.size) (Below.drew (Below.refl _ _)) aV).rd.ri (hri2.out.below (B:=wr.heap.size) (Below.drew (Below.refl _ _)) aV)).mono ?_);rintro e w5 ⟨A1',c1',A2',n2',c2',st,rfl,o1',o2',b5⟩);have b45:Below wr.heap.size wr w5:=bB (a:=wr) (B:=wr.heap.size) be b5 aZ;have N5:=aT (o1'.rebase (base':=W.heap.size) aZ);have G5:=aT (o2'.rebase (base':=W.heap.size) aZ);have R5:=aT (hO.out.below b45);have B5:=aT (hB.out.trans (b45.mono hbs));have z0:=(fK b45 lw).trans y0;have z1:=(fK b45 lw).trans y1;have z2:=(fK b45 lw).trans y2;have z3:=(fK b45 lw).trans y3;have z4:=(fK b45 lw).trans y4;have z5:=(fK b45 (Nat.lt_of_lt_of_le hbl hbs)).trans hcell;clear b5 o1' o2') | fail);obtain⟨hs,how,happ⟩:=(R5.out.below (lE w5 ⟨A2',n2',c2'⟩)).app (h:=⟨A2',n2',c2'⟩) (G5.out.below (lE w5 ⟨A2',n2',c2'⟩) aV);have HOW:=aT how;have HAP:=aT happ;clear how happ;have ss5:=B5.out.size;go_wp2_with (first | (at_builtin;refine dF rfl rfl ox slV_one (s:=.tmp 34) (N:=j+1) (L:=hs ++ [⟨A2',n2',c2'⟩]) rfl HOW.out rfl (k:=[⟨A2',n2',c2'⟩]) (pS w5 ⟨A2',n2',c2'⟩) rfl rfl bO aS (aj ss5 (lE w5 ⟨A2',n2',c2'⟩).size) ?_;intro A6 c6 w6 hown6 hg6 hat6 hb6) | fail);have R6:=HAP.out A6 c6 w6 hown6 hg6;rw[HS9.out] at R6;have B6:=B5.out.trans (((lE w5 ⟨A2',n2',c2'⟩).mono ss5).trans hb6);have N6:=(N5.out.below (lE w5 ⟨A2',n2',c2'⟩) aV).other HOW.out aU hg6;go_roundw
    case rel=>first
     | exact⟨j+1,A6,c6,A1',n2,c1',aS,by go_num,rfl,rfl,R6,N6,B6⟩
     | ((repeat apply Exists.intro);exact⟨⟨j+1,A6,c6,A1',n2,c1',aS,by go_num,rfl,rfl,R6,N6,B6⟩,rfl⟩)
    case measure=>simp[intOf];omega
  · have hk9:j=k:=aS;subst hk9;go_wp2_with fail;go_returns;exact⟨A,c,A2,n2,c2,rfl,hO.out.lower hWs,hC.out.rebase hWs,HB.out.trans (hB.out.mono hWs)⟩
end
theorem psame_any (A B:Option Addr)(n m c d:Nat)(l k:List Int)(w:World)(ha:RI w A n l)(hb:RI w B m k)(hn:n<=maxLen) :
 Ca 130 #[.slice A n c,.slice B m d] w fun e w'=>e=.returned (.bool (decide (l=k)))/\∃ q,w'=w.drewN q:=by
 unfold maxLen at hn
 by_cases hnm:n=m
 · subst hnm;have hlen:=ha.1.trans hb.1.symm;have hl:=aT ha.1;have hk:=aT hlen;have hnn:(((n:Nat):Int) != (n:Int))=false:=by simp
   clear hlen;generalize hz:decide (l=k)=z;have Hz:=aT hz;clear hz;go_enter Tryz.func130,Tryz.ntmps130;go_wp2;go_loopw [5] (fun i wr=>∃ j q,j<=n/\i=I (j:Nat)/\Hid (∀ i,i<j->ba l i=ba k i)/\wr=w.drewN q) (fun i _=>n - (intOf i).toNat)
   case atStart=>exact⟨0,0,Nat.zero_le _,rfl,fun i hi=>absurd hi aS,rfl⟩
   case round=>
    obtain⟨j,q,hj,rfl,hall,rfl⟩:=hrel
    by_cases hlt:j<n
    · obtain⟨b0,o0,rfl,_,hc0⟩:=ha.at_ hlt;obtain⟨b1,o1,rfl,_,hc1⟩:=hb.at_ hlt;have hlt':(j:Int)<n:=aS
      by_cases heq:ba l j=ba k j
      · have hE:=aT heq;have hne:((ba l j) != (ba k j))=false:=by simp[heq]
        clear heq;go_wp2;go_quiet (fail);go_wp2;go_roundw
        case rel=>
         refine⟨j+1,q+nq,aS,by go_num,fun i hi=>?_,rfl⟩;rcases aw i j with h | h
         · exact hall.out i h
         · rw[show i=j from by omega];exact hE.out
        case measure=>simp[intOf];omega
      · have hE:=aT heq;have hne:((ba l j) != (ba k j))=true:=by
         rw[af];exact heq
        clear heq;go_wp2;go_quiet (fail);go_wp2;go_ret;refine⟨cV ?_,q+nq,World.drewN_drewN _ _ _⟩;rw[<- Hz.out,eq_comm,aD];rintro rfl;exact hE.out rfl
    · go_wp2;go_ret;refine⟨cV ?_,_,rfl⟩;rw[<- Hz.out,eq_comm,aq];exact intAt_inj hk.out (fun i hi=>hall.out i (by have:=hl.out;omega))
 · have hne:(((n:Nat):Int) != (m:Int))=true:=by rw[af];omega
   have hz:decide (l=k)=false:=by
    rw[aD];rintro rfl;exact hnm (ha.1.symm.trans hb.1)
   rw[hz];clear hz hnm;go_enter Tryz.func130,Tryz.ntmps130;go_wp2;go_ret;exact⟨rfl,0,rfl⟩
theorem rowssame_any (B C:Option Addr)(n m c d:Nat)(l a:List (List Int))(w:World)(hl:gy w B n l)(ha:gy w C m a)(hn:n<=maxLen)(hm:m<=maxLen) :
 Ca 36 #[.slice B n c,.slice C m d] w fun e w'=>e=.returned (.bool (decide (l=a)))/\Below w.heap.size w w':=by
 have hln:=hl.1;have han:=ha.1;unfold maxLen at hn hm
 by_cases hnm:n=m
 · subst hnm;go_enter Tryz.func36,Tryz.ntmps36;go_wp2;go_loopw [5] (fun i wr=>∃ k:Nat,k<=n/\i=I (k:Nat)/\l.take k=a.take k/\Below w.heap.size w wr) (fun i _=>n - (intOf i).toNat)
   case atStart=>exact⟨0,aS,rfl,rfl,Below.refl _ _⟩
   case round=>
    obtain⟨k,hk,rfl,htk,hbel⟩:=hrel
    by_cases hlt:k<n
    · obtain⟨_,hs,hrd,hcell⟩:=hl.below hbel aV;obtain⟨_,ks,krd,kcell⟩:=ha.below hbel aV;have hsl:k<hs.length:=by rw[hrd.1];exact hlt
      have ksl:k<ks.length:=by rw[krd.1];omega
      have hll:k<l.length:=aS;have hal:k<a.length:=aS;obtain⟨r1,x1⟩:=hcell k _ _ (ap hsl) (ap hll);obtain⟨r2,x2⟩:=kcell k _ _ (ap ksl) (ap hal);obtain⟨b1,o1,hB1,hb1,c1⟩:=hrd.2.at_ hlt;obtain⟨b2,o2,hB2,hb2,c2⟩:=krd.2.at_ (show k<n by omega);rw[gX hs k hsl] at c1;rw[gX ks k ksl] at c2;have e1:Hid (l.take (k+1)=l.take k ++ [l[k]]):=aO hll;have e2:Hid (a.take (k+1)=a.take k ++ [a[k]]):=aO hal;have e3:Hid (l[k]?=some l[k]):=ap hll;have e4:Hid (a[k]?=some a[k]):=ap hal;generalize hs[k]=h1 at *;generalize ks[k]=h2 at *;generalize l[k]=L1 at *;generalize a[k]=L2 at *;obtain⟨A1,n1,d1⟩:=h1;obtain⟨A2,n2,d2⟩:=h2;simp only[slV] at c1 c2 r1 x1 r2 x2;have hsame:=psame_any A1 A2 n1 n2 d1 d2 L1 L2 wr.drew r1 r2 x1;have HT:=aT htk;have HL:=aT hlt;clear hcell kcell hrd krd htk;subst hB1 hB2
      by_cases hee:L1=L2
      · have hbn:=am hee;rw[hbn] at hsame;go_wp2;go_region_held3 (fun w'=>w'.cell? ⟨b1,o1+k,none⟩=some (.slice A1 n1 d1)/\w'.cell? ⟨b2,o2+k,none⟩=some (.slice A2 n2 d2)) (first | go_keep | (refine⟨?_,?_⟩ <;> assumption)) (first | (go_at_call 130;(with_reducible refine (hsame).mono ?_);rintro e w2 ⟨rfl,q2,rfl⟩) | fail);have hnx:Hid (l.take (k+1)=a.take (k+1)):=by show _=_;rw[e1.out,e2.out,HT.out,hee]
        clear hee;go_wp2;go_roundw
        case rel=>first
         | exact⟨k+1,aS,by go_num,hnx.out,below_drewN hbel _⟩
         | ((repeat apply Exists.intro);exact⟨⟨k+1,aS,by go_num,hnx.out,below_drewN hbel _⟩,rfl⟩)
        case measure=>simp[intOf];omega
      · have hbn:=ah hee;have hno:Hid (decide (l=a)=false):=by
         show decide (l=a)=false
         rw[aD];intro e;have h0:l[k]?=a[k]?:=by rw[e]
         rw[e3.out,e4.out] at h0;injection h0 with h0;exact hee h0
        rw[hbn] at hsame;clear hee;go_wp2;go_region_held3 (fun w'=>w'.cell? ⟨b1,o1+k,none⟩=some (.slice A1 n1 d1)/\w'.cell? ⟨b2,o2+k,none⟩=some (.slice A2 n2 d2)) (first | go_keep | (refine⟨?_,?_⟩ <;> assumption)) (first | (go_at_call 130;(with_reducible refine (hsame).mono ?_);rintro e w2 ⟨rfl,q2,rfl⟩) | fail);go_wp2;go_ret;exact⟨cV hno.out.symm,below_drewN hbel _⟩
    · have hk9:k=n:=aS;have hyes:Hid (decide (l=a)=true):=by
       show decide (l=a)=true
       rw[decide_eq_true_iff];rw[au aS,au aS] at htk;exact htk
      subst hk9;clear htk;go_wp2;go_ret;exact⟨cV hyes.out.symm,hbel⟩
 · have hno:Hid (decide (l=a)=false):=by
    show decide (l=a)=false
    rw[aD];rintro rfl;exact hnm (hln.symm.trans han)
   have hne:(((n:Nat):Int) != (m:Int))=true:=by rw[af];omega
   clear hl ha;go_enter Tryz.func36,Tryz.ntmps36;go_wp2;go_ret;exact⟨cV hno.out.symm,Below.refl _ _⟩
open Go.RowKit Go.WideShapes Go.ChangeShapes Go.Deep Go.Joins
section
variable {H:Type} {enc:TypeId × Value→H} {P:Program} {w:World} {base b0:Nat} {held:Bool} {r:Reach} {v:Value} {d:DataW H} {ps:List MemPlace}
theorem args_rows_of {t e b:TypeId}(ht:P.underlying t=some (.slice e))(he:P.underlying e=some (.slice b))(hb:P.underlying b=some (.int .i64))(hcb:P.cellsOf b=1)(hce:P.cellsOf e=1)
 (hval:Value.okWide P w r b0 t v) (hd:DataW.Trod enc P w base (fun _=>true) held t v d ps) :
 ∃ A n c l,v=.slice A n c/\gy w A n l/\n<=c/\c<=maxLen/\∀ L ∈ l,eZ L:=by
 obtain⟨a0,len,cap,rfl⟩:=okWide_slice ht hval;obtain⟨fuel,hf⟩:=hd;rcases open_slice1 ht hce hf with ⟨hcs,_⟩ | ⟨x,l,c,m,nf,V,D,Pl,hcs,_,hl,hm,hmm,_,hat⟩
 · simp[Value.cells] at hcs;obtain⟨rfl,rfl,rfl⟩:=hcs;exact⟨none,0,0,[],rfl,⟨rfl,[],Rd.nil _ _ _,fun k h L h1=>by simp at h1⟩,Nat.le_refl _,by unfold maxLen;omega,fun L hL=>by cases hL⟩
 · simp[Value.cells] at hcs;obtain⟨rfl,rfl,rfl⟩:=hcs;simp only[if_true] at hmm;have hx:∀ i,i<len->∃ q:SlV × List Int,V i=slV q.1/\(RI w q.1.a q.1.n q.2/\q.1.n<=maxLen)/\eZ q.2:=by
    intro i hi;obtain⟨_,htr⟩:=hat i aS;obtain⟨B,k,c',L,e1,r1,k1,m1,b1⟩:=ns he hb hcb htr;exact⟨(⟨B,k,c'⟩,L),e1,⟨r1,by show k<=maxLen;omega⟩,mem_intok b1⟩
   obtain⟨l,hl',hp⟩:=list_of hx;refine⟨some x,len,cap,l.map (·.2),rfl,⟨by simpa using hl',l.map (·.1),⟨by simpa using hl',fun h0=>?_⟩,fun k h L h1 h2=>?_⟩,hl,hm,fun L hL=>?_⟩
   · obtain⟨c0,_⟩:=hat 0 aS;have hs:=np (a:=x) (by simpa [Addr.add] using c0);obtain⟨bb,o,s⟩:=x;simp only at hs;subst hs;have hadd:∀ q,(⟨bb,o,none⟩:Addr).add q=⟨bb,o+q,none⟩:=fun q=>by unfold Addr.add;split <;> simp_all
     refine⟨bb,o,rfl,World.block_lt_of_cell? w ⟨bb,o,none⟩ (by simpa [Addr.add] using c0),fun i hi=>?_⟩;obtain⟨ci,_⟩:=hat i aS;rw[hadd] at ci;have hil:i<l.length:=aS;obtain⟨e1,_⟩:=hp i _ (ap hil);rw[ci,e1]
     show _=some ((((l.map (·.1)).map slV)).getD i undef)
     rw[ag,List.getElem?_map,List.getElem?_map,ap hil];rfl
   · rw[List.getElem?_map] at h1 h2
     cases hk:l[k]? with
     | none=>rw[hk] at h1;cases h1
     | some q=>
       rw[hk] at h1 h2;simp only[Option.map_some,Option.some.injEq] at h1 h2;subst h1 h2;exact (hp k q hk).2.1
   · rw[List.mem_map] at hL;obtain⟨q,hq,rfl⟩:=hL;obtain⟨i,hi,e⟩:=List.getElem_of_mem hq;exact (hp i q (by rw[<- e];exact ap hi)).2.2
theorem args_rows (hval:Value.okWide Tryz.prog w r b0 57 v)(hd:DataW.Trod enc Tryz.prog w base (fun _=>true) held 57 v d ps):∃ A n c l,v=.slice A n c/\gy w A n l/\n<=c/\c<=maxLen/\∀ L ∈ l,eZ L :=
 args_rows_of Tryz.underlying57 Tryz.underlying22 Tryz.underlying3 bQ bQ hval hd
end
def im (x:PA):Prop:=x.n1<=20/\x.n2<=20/\x.n3<=80/\x.n4<=60
theorem mJ (x:PA)(r:Int)(w:World)(hf:im x):Ca 15 #[.agg #[.slice x.A1 x.n1 x.c1,.slice x.A2 x.n2 x.c2,I r,.slice x.A3 x.n3 x.c3,.slice x.A4 x.n4 x.c4]] w fun e w'=>e=.returned (.bool true)/\Below w.heap.size w w':=by
 obtain⟨h1,h2,h3,h4⟩:=hf;go_enter Tryz.func15,Tryz.ntmps15;go_wp2;go_ret;exact⟨cV kJ,be⟩
theorem few28_no (x:PA)(p:PV)(w:World)(hr:bZ w x p)(hf:¬ im x):Ca 15 #[.agg #[.slice x.A1 x.n1 x.c1,.slice x.A2 x.n2 x.c2,I p.regs,.slice x.A3 x.n3 x.c3,.slice x.A4 x.n4 x.c4]] w fun e w'=>e=.returned (.bool false)/\Below w.heap.size w w':=by
 obtain⟨_,_,_,_,k1,k2,k3,k4⟩:=hr;unfold maxLen at k1 k2 k3 k4;unfold im at hf
 by_cases h1:x.n1<=20
 · by_cases h2:x.n2<=20
   · by_cases h3:x.n3<=80
     · have h4:¬ x.n4<=60:=fun h=>hf ⟨h1,h2,h3,h⟩
       clear hf;go_enter Tryz.func15,Tryz.ntmps15;go_wp2;go_ret;exact⟨cV kJ,be⟩
     · clear hf;go_enter Tryz.func15,Tryz.ntmps15;go_wp2;go_ret;exact⟨cV kJ,be⟩
   · clear hf;go_enter Tryz.func15,Tryz.ntmps15;go_wp2;go_ret;exact⟨cV kJ,be⟩
 · clear hf;go_enter Tryz.func15,Tryz.ntmps15;go_wp2;go_ret;exact⟨cV kJ,be⟩
section
variable {x:PA} {p:PV} {w:World} {i:Nat}
def kG (x:PA)(p:PV)(n:Nat):Prop:=∀ (reg:Int) (w:World),bZ w x p->Ca 81 #[.agg #[.slice x.A1 x.n1 x.c1,.slice x.A2 x.n2 x.c2,I p.regs,.slice x.A3 x.n3 x.c3,.slice x.A4 x.n4 x.c4],I (n:Nat),I reg] w fun e w'=>e=.returned (I (dj p n reg))/\Below w.heap.size w w'
theorem rtaken_of (hk:kG x p i)(h:bZ w x p)(r:Int) :
 Ca 175 #[.agg #[.slice x.A1 x.n1 x.c1,.slice x.A2 x.n2 x.c2,I p.regs,.slice x.A3 x.n3 x.c3,.slice x.A4 x.n4 x.c4],I (i:Nat),I r] w fun e w'=>e=.returned (I (bG p i r))/\Below w.heap.size w w':=by
 unfold bG
 by_cases h0:r<0
 · rw[if_pos (.inl h0)];go_enter Tryz.func175,Tryz.ntmps175;go_wp2;go_ret;exact⟨rfl,be⟩
 by_cases h1:p.regs<=r
 · rw[if_pos (.inr h1)];go_enter Tryz.func175,Tryz.ntmps175;go_wp2;go_ret;exact⟨rfl,be⟩
 rw[if_neg aS];have hkk:=hk r;generalize dj p i r=kr at *;go_enter Tryz.func175,Tryz.ntmps175;go_wp2_with (first | ((go_at_call 81;go_call (hkk _ (h.below (b:=w.heap.size) be aV)) as e w1 ⟨rfl,hb1⟩)) | fail);go_ret;exact⟨rfl,bB (a:=w) (B:=w.heap.size) be hb1 aZ⟩
theorem rgives_of (hk:kG x p i)(h:bZ w x p)(hi:i<p.code.length) :
 Ca 80 #[.agg #[.slice x.A1 x.n1 x.c1,.slice x.A2 x.n2 x.c2,I p.regs,.slice x.A3 x.n3 x.c3,.slice x.A4 x.n4 x.c4],I (i:Nat)] w fun e w'=>e=.returned (I (df p (bG p i) (aX p.code i)))/\Below w.heap.size w w':=by
 have hl4:=h.r4.1;have hl3:=h.r3.1;have hl1:=h.r1.1;have hi4:i<x.n4:=aS;obtain⟨b,o,y,hA,hb,hy,hc⟩:=h.r4.at_ gH aS hi4;rw[gC hy];obtain⟨op,ya,yb,yc,yk⟩:=y;have h0:w.cell? ⟨b,o+i * 5,none⟩=some (I op):=hc 0 aS;have h1:w.cell? ⟨b,o+i * 5+1,none⟩=some (I ya):=hc 1 aS;have h2:w.cell? ⟨b,o+i * 5+2,none⟩=some (I yb):=hc 2 aS;have h3:w.cell? ⟨b,o+i * 5+3,none⟩=some (I yc):=hc 3 aS;have h4:w.cell? ⟨b,o+i * 5+4,none⟩=some (I yk):=hc 4 aS;have htk:=fun (r:Int) (W:World) (h:bZ W x p)=>rtaken_of hk h r
 have hsg:=fun W=>rsign_any op W
 have HP:=aT h;clear hc hy hk;have H0:=aT h0
 by_cases hs:fG op=true
 · rw[show sgn3 op=(fE op,fF op,true) from by unfold sgn3;rw[if_pos hs]] at hsg;rw[show df p (bG p i) ⟨op,ya,yb,yc,yk⟩=fF op from by unfold df;rw[if_pos hs]];generalize fE op=si at *;generalize fF op=so at *;clear hs;simp only[hA];go_enter Tryz.func80,Tryz.ntmps80;go_wp2_with (first | ((go_at_call 174;go_call (hsg _) as e w1 ⟨rfl,hb1⟩);have hp1:=Blk.below (w':=w1) (g:=w.heap.size) (t:=26) (cs:=[.slice (x.A1) x.n1 x.c1,.slice x.A2 x.n2 x.c2,I p.regs,.slice (x.A3) x.n3 x.c3,.slice (some ⟨b,o,none⟩) x.n4 x.c4]) bx hb1 aZ;have hx1:=Blk.below (w':=w1) (g:=w.heap.size+1) (t:=144) (cs:=[I op,I ya,I yb,I yc,I (yk)]) bx hb1 aZ;obtain⟨p0,p1,p2,p3,p4⟩:=blk5 hp1;obtain⟨x0,x1,x2,x3,x4⟩:=blk5 hx1;have b01:Below w.heap.size w w1:=bB (a:=w) (B:=w.heap.size) be hb1 aZ;skip) | ((go_at_call 175;go_call (ht _ (HP.out.below b01 aV)) as e w2 ⟨rfl,hb2⟩);have b02:=b01.trans (hb2.mono b01.size)) | fail);go_ret;exact⟨rfl,by first | exact b02 | exact b01 | exact be⟩
 have hs':fG op=false:=by cases q:fG op with | false=>rfl | true=>exact absurd q hs
 have hsn:¬ (5<=op/\op<=20):=by unfold fG at hs';rw[aD] at hs';exact hs'
 rw[show sgn3 op=(0,0,false) from by unfold sgn3;rw[hs'];rfl] at hsg;have hgv:df p (bG p i) ⟨op,ya,yb,yc,yk⟩=if op<=2 then op else if op=3 then bG p i yb else if op=27 then bG p i yc else if op=21/\0<=yk/\yk<(p.cells.length:Int) then (cJ p.cells yk.toNat).1 else if op=28/\0<=yk/\yk<(p.ins.length:Int) then kAt p.ins yk else 0:=by
  unfold df;rw[hs'];rfl
 rw[hgv,hl3,hl1];clear hgv hs hs'
 by_cases o2:op<=2
 · rw[if_pos o2];simp only[hA];go_enter Tryz.func80,Tryz.ntmps80;go_wp2_with (first | ((go_at_call 174;go_call (hsg _) as e w1 ⟨rfl,hb1⟩);have hp1:=Blk.below (w':=w1) (g:=w.heap.size) (t:=26) (cs:=[.slice (x.A1) x.n1 x.c1,.slice x.A2 x.n2 x.c2,I p.regs,.slice (x.A3) x.n3 x.c3,.slice (some ⟨b,o,none⟩) x.n4 x.c4]) bx hb1 aZ;have hx1:=Blk.below (w':=w1) (g:=w.heap.size+1) (t:=144) (cs:=[I op,I ya,I yb,I yc,I (yk)]) bx hb1 aZ;obtain⟨p0,p1,p2,p3,p4⟩:=blk5 hp1;obtain⟨x0,x1,x2,x3,x4⟩:=blk5 hx1;have b01:Below w.heap.size w w1:=bB (a:=w) (B:=w.heap.size) be hb1 aZ;skip) | ((go_at_call 175;go_call (ht _ (HP.out.below b01 aV)) as e w2 ⟨rfl,hb2⟩);have b02:=b01.trans (hb2.mono b01.size)) | fail);go_ret;exact⟨rfl,by first | exact b02 | exact b01 | exact be⟩
 rw[if_neg o2]
 by_cases o3:op=3
 · rw[if_pos o3];have b3:(op == 3)=true:=by rw[o3];rfl
   clear o3;have ht:=htk yb;simp only[hA] at ht;generalize bG p i yb=tv at *;simp only[hA];go_enter Tryz.func80,Tryz.ntmps80;go_wp2_with (first | ((go_at_call 174;go_call (hsg _) as e w1 ⟨rfl,hb1⟩);have hp1:=Blk.below (w':=w1) (g:=w.heap.size) (t:=26) (cs:=[.slice (x.A1) x.n1 x.c1,.slice x.A2 x.n2 x.c2,I p.regs,.slice (x.A3) x.n3 x.c3,.slice (some ⟨b,o,none⟩) x.n4 x.c4]) bx hb1 aZ;have hx1:=Blk.below (w':=w1) (g:=w.heap.size+1) (t:=144) (cs:=[I op,I ya,I yb,I yc,I (yk)]) bx hb1 aZ;obtain⟨p0,p1,p2,p3,p4⟩:=blk5 hp1;obtain⟨x0,x1,x2,x3,x4⟩:=blk5 hx1;have b01:Below w.heap.size w w1:=bB (a:=w) (B:=w.heap.size) be hb1 aZ;skip) | ((go_at_call 175;go_call (ht _ (HP.out.below b01 aV)) as e w2 ⟨rfl,hb2⟩);have b02:=b01.trans (hb2.mono b01.size)) | fail);go_ret;exact⟨rfl,by first | exact b02 | exact b01 | exact be⟩
 rw[if_neg o3];have b3:(op == 3)=false:=by rw[ae];exact o3
 by_cases o27:op=27
 · rw[if_pos o27];have b27:(op == 27)=true:=by rw[o27];rfl
   clear o27;have ht:=htk yc;simp only[hA] at ht;generalize bG p i yc=tv at *;simp only[hA];go_enter Tryz.func80,Tryz.ntmps80;go_wp2_with (first | ((go_at_call 174;go_call (hsg _) as e w1 ⟨rfl,hb1⟩);have hp1:=Blk.below (w':=w1) (g:=w.heap.size) (t:=26) (cs:=[.slice (x.A1) x.n1 x.c1,.slice x.A2 x.n2 x.c2,I p.regs,.slice (x.A3) x.n3 x.c3,.slice (some ⟨b,o,none⟩) x.n4 x.c4]) bx hb1 aZ;have hx1:=Blk.below (w':=w1) (g:=w.heap.size+1) (t:=144) (cs:=[I op,I ya,I yb,I yc,I (yk)]) bx hb1 aZ;obtain⟨p0,p1,p2,p3,p4⟩:=blk5 hp1;obtain⟨x0,x1,x2,x3,x4⟩:=blk5 hx1;have b01:Below w.heap.size w w1:=bB (a:=w) (B:=w.heap.size) be hb1 aZ;skip) | ((go_at_call 175;go_call (ht _ (HP.out.below b01 aV)) as e w2 ⟨rfl,hb2⟩);have b02:=b01.trans (hb2.mono b01.size)) | fail);go_ret;exact⟨rfl,by first | exact b02 | exact b01 | exact be⟩
 rw[if_neg o27];have b27:(op == 27)=false:=by rw[ae];exact o27
 by_cases o21:op=21
 · have bq:(op == 21)=true:=by rw[o21];rfl
   have b28:(op == 28)=false:=by rw[o21];rfl
   by_cases k0:0<=yk
   · by_cases k1:yk<(x.n3:Int)
     · rw[if_pos ⟨by assumption,k0,k1⟩];obtain⟨k,rfl⟩:∃ k:Nat,yk=k:=⟨yk.toNat,aS⟩;obtain⟨b3,o3,y3,hA3,hb3,hy3,hc3⟩:=h.r3.at_ gR aS (show k<x.n3 by omega);have c30:w.cell? ⟨b3,o3+k * 2,none⟩=some (I y3.1):=hc3 0 aS;rw[av,iT hy3];have HA3:=aT hA3;clear hc3 hy3;simp only[hA3];clear o21;simp only[hA];go_enter Tryz.func80,Tryz.ntmps80;go_wp2_with (first | ((go_at_call 174;go_call (hsg _) as e w1 ⟨rfl,hb1⟩);have hp1:=Blk.below (w':=w1) (g:=w.heap.size) (t:=26) (cs:=[.slice (x.A1) x.n1 x.c1,.slice x.A2 x.n2 x.c2,I p.regs,.slice (some ⟨b3,o3,none⟩) x.n3 x.c3,.slice (some ⟨b,o,none⟩) x.n4 x.c4]) bx hb1 aZ;have hx1:=Blk.below (w':=w1) (g:=w.heap.size+1) (t:=144) (cs:=[I op,I ya,I yb,I yc,I ((k:Nat))]) bx hb1 aZ;obtain⟨p0,p1,p2,p3,p4⟩:=blk5 hp1;obtain⟨x0,x1,x2,x3,x4⟩:=blk5 hx1;have b01:Below w.heap.size w w1:=bB (a:=w) (B:=w.heap.size) be hb1 aZ;have c31:=(b01.cell (p:=⟨b3,o3+k * 2,none⟩) hb3).trans c30) | ((go_at_call 175;go_call (ht _ (HP.out.below b01 aV)) as e w2 ⟨rfl,hb2⟩);have b02:=b01.trans (hb2.mono b01.size)) | fail);go_ret;exact⟨rfl,by first | exact b02 | exact b01 | exact be⟩
     · rw[if_neg aS,if_neg aS];clear o21;simp only[hA];go_enter Tryz.func80,Tryz.ntmps80;go_wp2_with (first | ((go_at_call 174;go_call (hsg _) as e w1 ⟨rfl,hb1⟩);have hp1:=Blk.below (w':=w1) (g:=w.heap.size) (t:=26) (cs:=[.slice (x.A1) x.n1 x.c1,.slice x.A2 x.n2 x.c2,I p.regs,.slice (x.A3) x.n3 x.c3,.slice (some ⟨b,o,none⟩) x.n4 x.c4]) bx hb1 aZ;have hx1:=Blk.below (w':=w1) (g:=w.heap.size+1) (t:=144) (cs:=[I op,I ya,I yb,I yc,I (yk)]) bx hb1 aZ;obtain⟨p0,p1,p2,p3,p4⟩:=blk5 hp1;obtain⟨x0,x1,x2,x3,x4⟩:=blk5 hx1;have b01:Below w.heap.size w w1:=bB (a:=w) (B:=w.heap.size) be hb1 aZ;skip) | ((go_at_call 175;go_call (ht _ (HP.out.below b01 aV)) as e w2 ⟨rfl,hb2⟩);have b02:=b01.trans (hb2.mono b01.size)) | fail);go_ret;exact⟨rfl,by first | exact b02 | exact b01 | exact be⟩
   · rw[if_neg aS,if_neg aS];clear o21;simp only[hA];go_enter Tryz.func80,Tryz.ntmps80;go_wp2_with (first | ((go_at_call 174;go_call (hsg _) as e w1 ⟨rfl,hb1⟩);have hp1:=Blk.below (w':=w1) (g:=w.heap.size) (t:=26) (cs:=[.slice (x.A1) x.n1 x.c1,.slice x.A2 x.n2 x.c2,I p.regs,.slice (x.A3) x.n3 x.c3,.slice (some ⟨b,o,none⟩) x.n4 x.c4]) bx hb1 aZ;have hx1:=Blk.below (w':=w1) (g:=w.heap.size+1) (t:=144) (cs:=[I op,I ya,I yb,I yc,I (yk)]) bx hb1 aZ;obtain⟨p0,p1,p2,p3,p4⟩:=blk5 hp1;obtain⟨x0,x1,x2,x3,x4⟩:=blk5 hx1;have b01:Below w.heap.size w w1:=bB (a:=w) (B:=w.heap.size) be hb1 aZ;skip) | ((go_at_call 175;go_call (ht _ (HP.out.below b01 aV)) as e w2 ⟨rfl,hb2⟩);have b02:=b01.trans (hb2.mono b01.size)) | fail);go_ret;exact⟨rfl,by first | exact b02 | exact b01 | exact be⟩
 rw[if_neg (fun q=>o21 q.1)];have b21:(op == 21)=false:=by rw[ae];exact o21
 by_cases o28:op=28
 · have bq:(op == 28)=true:=by rw[o28];rfl
   by_cases k0:0<=yk
   · by_cases k1:yk<(x.n1:Int)
     · rw[if_pos ⟨by assumption,k0,k1⟩];obtain⟨k,rfl⟩:∃ k:Nat,yk=k:=⟨yk.toNat,aS⟩;obtain⟨b1',o1',hA1,hb1',hc1⟩:=h.r1.at_ (show k<x.n1 by omega);have ek:kAt p.ins (k:Int)=ba p.ins k:=by unfold kAt ba;rw[if_neg aS,av]
       rw[ek];generalize ba p.ins k=iv0 at *;simp only[hA1];clear o28;simp only[hA];go_enter Tryz.func80,Tryz.ntmps80;go_wp2_with (first | ((go_at_call 174;go_call (hsg _) as e w1 ⟨rfl,hb1⟩);have hp1:=Blk.below (w':=w1) (g:=w.heap.size) (t:=26) (cs:=[.slice (some ⟨b1',o1',none⟩) x.n1 x.c1,.slice x.A2 x.n2 x.c2,I p.regs,.slice (x.A3) x.n3 x.c3,.slice (some ⟨b,o,none⟩) x.n4 x.c4]) bx hb1 aZ;have hx1:=Blk.below (w':=w1) (g:=w.heap.size+1) (t:=144) (cs:=[I op,I ya,I yb,I yc,I ((k:Nat))]) bx hb1 aZ;obtain⟨p0,p1,p2,p3,p4⟩:=blk5 hp1;obtain⟨x0,x1,x2,x3,x4⟩:=blk5 hx1;have b01:Below w.heap.size w w1:=bB (a:=w) (B:=w.heap.size) be hb1 aZ;have c31:=(b01.cell (p:=⟨b1',o1'+k,none⟩) hb1').trans hc1) | ((go_at_call 175;go_call (ht _ (HP.out.below b01 aV)) as e w2 ⟨rfl,hb2⟩);have b02:=b01.trans (hb2.mono b01.size)) | fail);go_ret;exact⟨rfl,by first | exact b02 | exact b01 | exact be⟩
     · rw[if_neg aS];clear o28;simp only[hA];go_enter Tryz.func80,Tryz.ntmps80;go_wp2_with (first | ((go_at_call 174;go_call (hsg _) as e w1 ⟨rfl,hb1⟩);have hp1:=Blk.below (w':=w1) (g:=w.heap.size) (t:=26) (cs:=[.slice (x.A1) x.n1 x.c1,.slice x.A2 x.n2 x.c2,I p.regs,.slice (x.A3) x.n3 x.c3,.slice (some ⟨b,o,none⟩) x.n4 x.c4]) bx hb1 aZ;have hx1:=Blk.below (w':=w1) (g:=w.heap.size+1) (t:=144) (cs:=[I op,I ya,I yb,I yc,I (yk)]) bx hb1 aZ;obtain⟨p0,p1,p2,p3,p4⟩:=blk5 hp1;obtain⟨x0,x1,x2,x3,x4⟩:=blk5 hx1;have b01:Below w.heap.size w w1:=bB (a:=w) (B:=w.heap.size) be hb1 aZ;skip) | ((go_at_call 175;go_call (ht _ (HP.out.below b01 aV)) as e w2 ⟨rfl,hb2⟩);have b02:=b01.trans (hb2.mono b01.size)) | fail);go_ret;exact⟨rfl,by first | exact b02 | exact b01 | exact be⟩
   · rw[if_neg aS];clear o28;simp only[hA];go_enter Tryz.func80,Tryz.ntmps80;go_wp2_with (first | ((go_at_call 174;go_call (hsg _) as e w1 ⟨rfl,hb1⟩);have hp1:=Blk.below (w':=w1) (g:=w.heap.size) (t:=26) (cs:=[.slice (x.A1) x.n1 x.c1,.slice x.A2 x.n2 x.c2,I p.regs,.slice (x.A3) x.n3 x.c3,.slice (some ⟨b,o,none⟩) x.n4 x.c4]) bx hb1 aZ;have hx1:=Blk.below (w':=w1) (g:=w.heap.size+1) (t:=144) (cs:=[I op,I ya,I yb,I yc,I (yk)]) bx hb1 aZ;obtain⟨p0,p1,p2,p3,p4⟩:=blk5 hp1;obtain⟨x0,x1,x2,x3,x4⟩:=blk5 hx1;have b01:Below w.heap.size w w1:=bB (a:=w) (B:=w.heap.size) be hb1 aZ;skip) | ((go_at_call 175;go_call (ht _ (HP.out.below b01 aV)) as e w2 ⟨rfl,hb2⟩);have b02:=b01.trans (hb2.mono b01.size)) | fail);go_ret;exact⟨rfl,by first | exact b02 | exact b01 | exact be⟩
 rw[if_neg (fun q=>o28 q.1)];have b28:(op == 28)=false:=by rw[ae];exact o28
 simp only[hA];go_enter Tryz.func80,Tryz.ntmps80;go_wp2_with (first | ((go_at_call 174;go_call (hsg _) as e w1 ⟨rfl,hb1⟩);have hp1:=Blk.below (w':=w1) (g:=w.heap.size) (t:=26) (cs:=[.slice (x.A1) x.n1 x.c1,.slice x.A2 x.n2 x.c2,I p.regs,.slice (x.A3) x.n3 x.c3,.slice (some ⟨b,o,none⟩) x.n4 x.c4]) bx hb1 aZ;have hx1:=Blk.below (w':=w1) (g:=w.heap.size+1) (t:=144) (cs:=[I op,I ya,I yb,I yc,I (yk)]) bx hb1 aZ;obtain⟨p0,p1,p2,p3,p4⟩:=blk5 hp1;obtain⟨x0,x1,x2,x3,x4⟩:=blk5 hx1;have b01:Below w.heap.size w w1:=bB (a:=w) (B:=w.heap.size) be hb1 aZ;skip) | ((go_at_call 175;go_call (ht _ (HP.out.below b01 aV)) as e w2 ⟨rfl,hb2⟩);have b02:=b01.trans (hb2.mono b01.size)) | fail);go_ret;exact⟨rfl,by first | exact b02 | exact b01 | exact be⟩
theorem kindR_nine {r:Int}{k:Nat}(h:dj p k r=9):∀ m,dj p (k+m) r=9:=by
 intro m
 induction m with
 | zero=>exact h
 | succ m ih=>
   show dj p (k+m+1) r=9
   rw[hJ]
   split
   · exact ih
   · rw[if_pos (by rw[ih];omega)]
theorem rkind_next {n:Nat}(hn:n<=p.code.length)(ih:∀ i,i<n->kG x p i):kG x p n:=by
 intro reg w h;have hl4:=h.r4.1;have hgv:=fun (k:Nat) (hk:k<n) (W:World) (h:bZ W x p)=>rgives_of (ih k hk) h aS
 have HP:=aT h;have HN:=aT hn;have hn4:n<=x.n4:=aS;have hn4m:x.n4<=9223372036854775807:=by have:=h.k4;unfold maxLen at this;omega
 clear ih hn;go_enter Tryz.func81,Tryz.ntmps81;go_wp2_with fail;go_loopw [7,8] (fun v i wr=>∃ k:Nat,k<=n/\i=I (k:Nat)/\v=I (dj p k reg)/\Below w.heap.size w wr/\Blk wr w.heap.size 26 [.slice x.A1 x.n1 x.c1,.slice x.A2 x.n2 x.c2,I p.regs,.slice x.A3 x.n3 x.c3,.slice x.A4 x.n4 x.c4]) (fun _ i _=>n - (intOf i).toNat)
 case atStart=>exact⟨0,aS,rfl,rfl,be,bx⟩
 case round=>
  obtain⟨k,hk,rfl,rfl,hbel,hblk⟩:=hrel;have HB:=aT hbel;have HX:=aT hblk;have hs:=hbel.size;have lx:=hblk.lt;obtain⟨y0,y1,y2,y3,y4⟩:=blk5 hblk;clear hbel hblk
  by_cases hlt:k<n
  · have PW:=aT (HP.out.below HB.out aV);obtain⟨b,o,y,hA,hb,hy,hc⟩:=PW.out.r4.at_ gH aS (show k<x.n4 by omega);have hI:=gC hy;have hks:=hJ p k reg;rw[hI] at hks;have hg:=hgv k hlt;rw[hI] at hg;obtain⟨op,ya,yb,yc,yk⟩:=y;simp only at hks;have h0:wr.cell? ⟨b,o+k * 5,none⟩=some (I op):=hc 0 aS;have h1:wr.cell? ⟨b,o+k * 5+1,none⟩=some (I ya):=hc 1 aS;clear hc hy hI hgv;generalize df p (bG p k) ⟨op,ya,yb,yc,yk⟩=gv at *;simp only[hA] at y4 hg ⊢
    by_cases o29:29<=op
    · have HK:=aT (hks.trans (if_pos (.inl o29)));clear hks;generalize dj p k reg=kr at *;go_wp2_with fail;go_roundw
      case rel=>exact⟨k+1,aS,by go_num,by rw[HK.out],HB.out,by first | exact HX.out | (rw[<- hA];exact HX.out)⟩
      case measure=>simp[intOf];omega
    · by_cases oa:ya=reg
      · have hks2:=hks.trans (if_neg aS);have ab:(ya != reg)=false:=by rw[oa];simp
        clear hks
        by_cases kz:dj p k reg=0
        · have HK:=aT (hks2.trans (if_neg (by rw[kz];simp)));clear hks2;rw[kz];go_wp2_with (first | ((go_at_call 80;go_call (hg _ PW.out) as e w1 ⟨rfl,hb1⟩);have B1:=aT (HB.out.trans (hb1.mono hs));have X1:=aT (HX.out.below hb1 lx)) | fail);go_roundw
          case rel=>exact⟨k+1,aS,by go_num,by rw[HK.out],B1.out,by first | exact X1.out | (rw[<- hA];exact X1.out)⟩
          case measure=>simp[intOf];omega
        · have kzb:(dj p k reg != 0)=true:=by rw[af];exact kz
          have hk9:Hid (dj p n reg=9):=by
           show _=_
           have e1:=hks2.trans (if_pos kz);have:=kindR_nine e1 (n - (k+1))
           rwa [show k+1+(n - (k+1))=n by omega] at this
          clear hks2 kz;generalize dj p k reg=kr at *;go_wp2_with fail;go_ret;exact⟨by rw[hk9.out];rfl,HB.out⟩
      · have HK:=aT (hks.trans (if_pos (.inr oa)));have ab:(ya != reg)=true:=by rw[af];exact oa
        clear hks oa;generalize dj p k reg=kr at *;go_wp2_with fail;go_roundw
        case rel=>exact⟨k+1,aS,by go_num,by rw[HK.out],HB.out,by first | exact HX.out | (rw[<- hA];exact HX.out)⟩
        case measure=>simp[intOf];omega
  · have hk9:k=n:=aS;subst hk9;go_wp2_with fail;go_ret;exact⟨rfl,HB.out⟩
theorem oy:∀ n,n<=p.code.length->kG x p n:=by
 intro n
 induction n using Nat.strongRecOn with
 | ind n ih=>exact fun hn=>rkind_next hn (fun i hi=>ih i hi aS)
end
