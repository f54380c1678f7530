/- Parts: RefVmC, Same22, ArgsRows, EngS, EngineNone. -/
import Derived.Test.YtmeebofhlilcmaaGreatPr52
import Derived.Test.YtmeebofhlilcmaaGreatPr48
set_option linter.unusedVariables false
set_option linter.unusedSimpArgs false
set_option maxRecDepth 100000
set_option maxHeartbeats 0
namespace Go.Proofs.YtmeebofhlilcmaaGreat
variable {m:Nat} {pace:Int} {rows:List (List Int)}
open Go.RowKit
theorem li (w:World)(h:SlV):Below w.heap.size w (w.alloc (.cells #[.slice h.a h.n h.c] 22)):=(Below.refl _ _).alloc aW _
section
variable {w:World} {x:PA} {p:PV}
theorem rtick_row {H:Nat}(G:Prg p H m pace)(hR:eA p.ins rows){t:Nat}(ht:t<rows.length){W:World}(h:db W x p)(Ac:Option Addr)(n c:Nat)(hc:RI W Ac n (cX p rows t))(Ai:Option Addr)(k d:Nat)(l:List Int)(hl0:rows[t]?=some l)(hl:RI W Ai k l)(hk:k<=maxLen) :
 Ca 129 #[.agg #[.slice x.A1 x.n1 x.c1,.slice x.A2 x.n2 x.c2,I p.regs,.slice x.A3 x.n3 x.c3,.slice x.A4 x.n4 x.c4],.slice Ac n c,.slice Ai k d] W fun e w'=>∃ A1 c1 A2 n2 c2 st,e=.returned (.tuple #[.slice A1 n c1,.slice A2 n2 c2,I st,I 0])/\Ow iv w' W.heap.size 3 A1 n c1 (cX p rows (t+1))/\Ow iv w' W.heap.size 3 A2 n2 c2 (dx p rows t)/\Below W.heap.size W w':=by
 obtain⟨i1,i2⟩:=nP G hR t aS;obtain⟨m1,m2⟩:=mw ht;have hll:fM rows t=l:=by rw[m1] at hl0;injection hl0
 rw[hll] at m2;have f1:=hR.fits _ m2;have f2:=nO (hR.ints _ m2);have hn:n<=100000:=by
  have h1:=(gS.1 i1).1;have h2:=hc.1;have h3:=(dU.1 G.may).2.2.2.2.1;omega
 have e1:eG p (cX p rows t) (fM rows t)=((goV p (cX p rows t) l 0 (dR p (cX p rows t))).next,(goV p (cX p rows t) l 0 (dR p (cX p rows t))).out,(goV p (cX p rows t) l 0 (dR p (cX p rows t))).steps,0):=by
  rw[hll];unfold eG;rw[if_pos (by rw[i1,f1];rfl)]
 refine (rtick_yes h G.hv G.hw Ac n c _ hc hn Ai k d l hl hk i2 f2 i1 f1).mono fun e w' ⟨A1,c1,A2,c2,h1,h2,h3,h4⟩=>⟨A1,c1,A2,x.n2,c2,_,h1,?_,?_,h4⟩
 · have:cX p rows (t+1)=(eG p (cX p rows t) (fM rows t)).1:=rfl;rw[this,e1];exact h2
 · have:dx p rows t=(eG p (cX p rows t) (fM rows t)).2.1:=rfl;rw[this,e1];exact h3
def RTickSays (x:PA)(p:PV)(BV GV:Nat->List Int)(rows:List (List Int))(kk:Nat):Prop:=∀ (t:Nat),t<kk->∀ (W:World),db W x p->∀ (Ac:Option Addr) (n c:Nat),RI W Ac n (BV t)->∀ (Ai:Option Addr) (k d:Nat) (l:List Int),rows[t]?=some l->RI W Ai k l->k<=maxLen ->
    Ca 129 #[.agg #[.slice x.A1 x.n1 x.c1,.slice x.A2 x.n2 x.c2,I p.regs,.slice x.A3 x.n3 x.c3,.slice x.A4 x.n4 x.c4],.slice Ac n c,.slice Ai k d] W fun e w'=>∃ A1 c1 A2 n2 c2 st,e=.returned (.tuple #[.slice A1 n c1,.slice A2 n2 c2,I st,I 0])/\Ow iv w' W.heap.size 3 A1 n c1 (BV (t+1))/\Ow iv w' W.heap.size 3 A2 n2 c2 (GV t)/\Below W.heap.size W w'
theorem refrows_any {H:Nat}(G:Prg p H m pace)(hR:eA p.ins rows)(h:db w x p)(B:Option Addr)(k d:Nat)(hl:gN w B k rows)(hk:k<=1000000) :
 Ca 35 #[.agg #[.slice x.A1 x.n1 x.c1,.slice x.A2 x.n2 x.c2,I p.regs,.slice x.A3 x.n3 x.c3,.slice x.A4 x.n4 x.c4],.slice B k d] w fun e w'=>∃ A c A2 n2 c2,e=.returned (.tuple #[.slice A k c,.slice A2 n2 c2])/\eW w' w.heap.size A k c (cE p rows k)/\Ow iv w' w.heap.size 3 A2 n2 c2 (cX p rows k)/\Below w.heap.size w w':=by
 have O:=iN.of h;have hlen:=hl.1;have hn3:p.cells.length<=100000:=by have:=(dU.1 G.may).2.2.2.2.1;omega
 have htick:Hid (RTickSays x p (cX p rows) (dx p rows) rows k):=fun t ht W h Ac n c hc Ai kk d l hl0 hl hk=>rtick_row G hR (t:=t) aS h Ac n c hc Ai kk d l hl0 hl hk
 have hL:=aT hl;have hb0:cX p rows 0=ev p:=rfl;have ho0:cE p rows 0=[]:=rfl;have HS:=aT (fun t=>nA p rows t);have hfir:=fun {W:World} (h:db W x p)=>reffirst_any (x:=x) h hn3
 rw[<- hb0] at hfir;clear hb0 h hl hlen;generalize cX p rows=BV at *;generalize cE p rows=OV at *;generalize dx p rows=GV at *;go_enter Tryz.func35,Tryz.ntmps35;go_upto_region 1 with fail;refine dv (fun W=>iN w W w.heap.size x p) O ?_;clear O;intro W O;have HB:=aT O.bel;have HX:=aT O.b;have HP:=aT O.rd;have lB:=O.b.lt;have hWs:=O.bel.size;obtain⟨y0,y1,y2,y3,y4⟩:=blk5 O.b;clear O;go_wp2_with (first | ((go_at_call 128;(with_reducible refine (hfir HP.out).mono ?_);rintro e w2 ⟨A2,c2,rfl,o2,b2⟩);have O2:=aT o2;have B2:=aT b2;clear o2 b2) | fail);go_loopw [6,7,8] (fun ce ou t wr=>∃ (j:Nat) (A:Option Addr) (c:Nat) (A2:Option Addr) (n2 c2:Nat),j<=k/\t=I (j:Nat)/\ou=.slice A j c/\ce=.slice A2 n2 c2/\Hid (eW wr W.heap.size A j c (OV j))/\Hid (Ow iv wr W.heap.size 3 A2 n2 c2 (BV j))/\Hid (Below W.heap.size W wr)) (fun _ _ t _=>k - (intOf t).toNat)
 case atStart=>exact⟨0,none,0,A2,x.n3,c2,aS,rfl,rfl,rfl,(by rw[ho0];exact eW.nil _ _),O2.out,B2.out⟩
 case round=>
  clear O2 B2 y0 y1 y2 y3 y4;obtain⟨j,A,c,A2,n2,c2,hj,rfl,rfl,rfl,hO,hC,hB⟩:=hrel;obtain⟨y0,y1,y2,y3,y4⟩:=blk5 (HX.out.below hB.out lB);have hbs:=hB.out.size;have lw:w.heap.size<wr.heap.size:=aS
  by_cases hlt:j<k
  · obtain⟨b,o,Bi,ni,di,L,hBe,hbl,hcell,hrow,hri,hnm⟩:=(hL.out.below HB.out aW).at_ hlt;replace hcell:=(fy hB.out hbl).trans hcell;have hri2:=aT (hri.below hB.out aW);have PW:=aT (HP.out.below (b:=W.heap.size) hB.out aW);have ct:=fun {V:World} (h:db V x p) (hc:RI V A2 n2 (BV j)) (hl:RI V Bi ni L)=>htick.out j hlt V h A2 n2 c2 hc Bi ni di L hrow hl hnm
    have hs9:=HS.out j;clear hri hrow htick HS;have HS9:=aT hs9;clear hs9;subst hBe;go_upto_region 6 with fail;go_region_held3 (fun w'=>w'.cell? ⟨w.heap.size,0,none⟩=some (.slice x.A1 x.n1 x.c1)/\w'.cell? ⟨w.heap.size,1,none⟩=some (.slice x.A2 x.n2 x.c2)/\w'.cell? ⟨w.heap.size,2,none⟩=some (I p.regs)/\w'.cell? ⟨w.heap.size,3,none⟩=some (.slice x.A3 x.n3 x.c3)/\w'.cell? ⟨w.heap.size,4,none⟩=some (.slice x.A4 x.n4 x.c4)/\w'.cell? ⟨b,o+j,none⟩=some (.slice Bi ni di)) (first | go_keep | (refine⟨?_,?_,?_,?_,?_,?_⟩ <;> assumption)) (first | ((go_at_call 129;(with_reducible refine (ct (PW.out.below (b:=wr.heap.size) (Below.drew (Below.refl _ _)) aW) (hC.out.below (b:=wr.heap.size) (Below.drew (Below.refl _ _)) aW).rd.ri (hri2.out.below (B:=wr.heap.size) (Below.drew (Below.refl _ _)) aW)).mono ?_);rintro e w5 ⟨A1',c1',A2',n2',c2',st,rfl,o1',o2',b5⟩);have b45:Below wr.heap.size wr w5:=bx (a:=wr) (B:=wr.heap.size) a9 b5 ba;have N5:=aT (o1'.rebase (base':=W.heap.size) ba);have G5:=aT (o2'.rebase (base':=W.heap.size) ba);have R5:=aT (hO.out.below b45);have B5:=aT (hB.out.trans (b45.mono hbs));have z0:=(fy b45 lw).trans y0;have z1:=(fy b45 lw).trans y1;have z2:=(fy b45 lw).trans y2;have z3:=(fy b45 lw).trans y3;have z4:=(fy b45 lw).trans y4;have z5:=(fy b45 (Nat.lt_of_lt_of_le hbl hbs)).trans hcell;clear b5 o1' o2') | fail);obtain⟨hs,how,happ⟩:=(R5.out.below (li w5 ⟨A2',n2',c2'⟩)).app (h:=⟨A2',n2',c2'⟩) (G5.out.below (li w5 ⟨A2',n2',c2'⟩) aW);have HOW:=aT how;have HAP:=aT happ;clear how happ;have ss5:=B5.out.size;go_wp2_with (first | (at_builtin;refine dm rfl rfl elemRows slV_one (s:=.tmp 34) (N:=j+1) (L:=hs ++ [⟨A2',n2',c2'⟩]) rfl HOW.out rfl (k:=[⟨A2',n2',c2'⟩]) (pj w5 ⟨A2',n2',c2'⟩) rfl rfl bI aS (ah ss5 (li w5 ⟨A2',n2',c2'⟩).size) ?_;intro A6 c6 w6 hown6 hg6 hat6 hb6) | fail);have R6:=HAP.out A6 c6 w6 hown6 hg6;rw[HS9.out] at R6;have B6:=B5.out.trans (((li w5 ⟨A2',n2',c2'⟩).mono ss5).trans hb6);have N6:=(N5.out.below (li w5 ⟨A2',n2',c2'⟩) aW).other HOW.out aU hg6;go_roundw
    case rel=>first
     | exact⟨j+1,A6,c6,A1',n2,c1',aS,by go_num,rfl,rfl,R6,N6,B6⟩
     | ((repeat apply Exists.intro);exact⟨⟨j+1,A6,c6,A1',n2,c1',aS,by go_num,rfl,rfl,R6,N6,B6⟩,rfl⟩)
    case measure=>simp[intOf];omega
  · have hk9:j=k:=aS;subst hk9;go_wp2_with fail;go_returns;exact⟨A,c,A2,n2,c2,rfl,hO.out.lower hWs,hC.out.rebase hWs,HB.out.trans (hB.out.mono hWs)⟩
end
theorem psame_any (A B:Option Addr)(n m c d:Nat)(l k:List Int)(w:World)(ha:RI w A n l)(hb:RI w B m k)(hn:n<=maxLen) :
 Ca 130 #[.slice A n c,.slice B m d] w fun e w'=>e=.returned (.bool (decide (l=k)))/\∃ q,w'=w.drewN q:=by
 unfold maxLen at hn
 by_cases hnm:n=m
 · subst hnm;have hlen:=ha.1.trans hb.1.symm;have hl:=aT ha.1;have hk:=aT hlen;have hnn:(((n:Nat):Int) != (n:Int))=false:=by simp
   clear hlen;generalize hz:decide (l=k)=z;have Hz:=aT hz;clear hz;go_enter Tryz.func130,Tryz.ntmps130;go_wp2;go_loopw [5] (fun i wr=>∃ j q,j<=n/\i=I (j:Nat)/\Hid (∀ i,i<j->aZ l i=aZ k i)/\wr=w.drewN q) (fun i _=>n - (intOf i).toNat)
   case atStart=>exact⟨0,0,Nat.zero_le _,rfl,fun i hi=>absurd hi aS,rfl⟩
   case round=>
    obtain⟨j,q,hj,rfl,hall,rfl⟩:=hrel
    by_cases hlt:j<n
    · obtain⟨b0,o0,rfl,_,hc0⟩:=ha.at_ hlt;obtain⟨b1,o1,rfl,_,hc1⟩:=hb.at_ hlt;have hlt':(j:Int)<n:=aS
      by_cases heq:aZ l j=aZ k j
      · have hE:=aT heq;have hne:((aZ l j) != (aZ k j))=false:=by simp[heq]
        clear heq;go_wp2;go_quiet (fail);go_wp2;go_roundw
        case rel=>
         refine⟨j+1,q+nq,aS,by go_num,fun i hi=>?_,rfl⟩;rcases az i j with h | h
         · exact hall.out i h
         · rw[show i=j from by omega];exact hE.out
        case measure=>simp[intOf];omega
      · have hE:=aT heq;have hne:((aZ l j) != (aZ k j))=true:=by
         rw[ag];exact heq
        clear heq;go_wp2;go_quiet (fail);go_wp2;go_ret;refine⟨dn ?_,q+nq,World.drewN_drewN _ _ _⟩;rw[<- Hz.out,eq_comm,aD];rintro rfl;exact hE.out rfl
    · go_wp2;go_ret;refine⟨dn ?_,_,rfl⟩;rw[<- Hz.out,eq_comm,aq];exact intAt_inj hk.out (fun i hi=>hall.out i (by have:=hl.out;omega))
 · have hne:(((n:Nat):Int) != (m:Int))=true:=by rw[ag];omega
   have hz:decide (l=k)=false:=by
    rw[aD];rintro rfl;exact hnm (ha.1.symm.trans hb.1)
   rw[hz];clear hz hnm;go_enter Tryz.func130,Tryz.ntmps130;go_wp2;go_ret;exact⟨rfl,0,rfl⟩
theorem rowssame_any (B C:Option Addr)(n m c d:Nat)(l a:List (List Int))(w:World)(hl:gN w B n l)(ha:gN w C m a)(hn:n<=maxLen)(hm:m<=maxLen) :
 Ca 36 #[.slice B n c,.slice C m d] w fun e w'=>e=.returned (.bool (decide (l=a)))/\Below w.heap.size w w':=by
 have hln:=hl.1;have han:=ha.1;unfold maxLen at hn hm
 by_cases hnm:n=m
 · subst hnm;go_enter Tryz.func36,Tryz.ntmps36;go_wp2;go_loopw [5] (fun i wr=>∃ k:Nat,k<=n/\i=I (k:Nat)/\l.take k=a.take k/\Below w.heap.size w wr) (fun i _=>n - (intOf i).toNat)
   case atStart=>exact⟨0,aS,rfl,rfl,Below.refl _ _⟩
   case round=>
    obtain⟨k,hk,rfl,htk,hbel⟩:=hrel
    by_cases hlt:k<n
    · obtain⟨_,hs,hrd,hcell⟩:=hl.below hbel aW;obtain⟨_,ks,krd,kcell⟩:=ha.below hbel aW;have hsl:k<hs.length:=by rw[hrd.1];exact hlt
      have ksl:k<ks.length:=by rw[krd.1];omega
      have hll:k<l.length:=aS;have hal:k<a.length:=aS;obtain⟨r1,x1⟩:=hcell k _ _ (ap hsl) (ap hll);obtain⟨r2,x2⟩:=kcell k _ _ (ap ksl) (ap hal);obtain⟨b1,o1,hB1,hb1,c1⟩:=hrd.2.at_ hlt;obtain⟨b2,o2,hB2,hb2,c2⟩:=krd.2.at_ (show k<n by omega);rw[gO hs k hsl] at c1;rw[gO ks k ksl] at c2;have e1:Hid (l.take (k+1)=l.take k ++ [l[k]]):=aQ hll;have e2:Hid (a.take (k+1)=a.take k ++ [a[k]]):=aQ hal;have e3:Hid (l[k]?=some l[k]):=ap hll;have e4:Hid (a[k]?=some a[k]):=ap hal;generalize hs[k]=h1 at *;generalize ks[k]=h2 at *;generalize l[k]=L1 at *;generalize a[k]=L2 at *;obtain⟨A1,n1,d1⟩:=h1;obtain⟨A2,n2,d2⟩:=h2;simp only[slV] at c1 c2 r1 x1 r2 x2;have hsame:=psame_any A1 A2 n1 n2 d1 d2 L1 L2 wr.drew r1 r2 x1;have HT:=aT htk;have HL:=aT hlt;clear hcell kcell hrd krd htk;subst hB1 hB2
      by_cases hee:L1=L2
      · have hbn:=am hee;rw[hbn] at hsame;go_wp2;go_region_held3 (fun w'=>w'.cell? ⟨b1,o1+k,none⟩=some (.slice A1 n1 d1)/\w'.cell? ⟨b2,o2+k,none⟩=some (.slice A2 n2 d2)) (first | go_keep | (refine⟨?_,?_⟩ <;> assumption)) (first | (go_at_call 130;(with_reducible refine (hsame).mono ?_);rintro e w2 ⟨rfl,q2,rfl⟩) | fail);have hnx:Hid (l.take (k+1)=a.take (k+1)):=by show _=_;rw[e1.out,e2.out,HT.out,hee]
        clear hee;go_wp2;go_roundw
        case rel=>first
         | exact⟨k+1,aS,by go_num,hnx.out,below_drewN hbel _⟩
         | ((repeat apply Exists.intro);exact⟨⟨k+1,aS,by go_num,hnx.out,below_drewN hbel _⟩,rfl⟩)
        case measure=>simp[intOf];omega
      · have hbn:=aj hee;have hno:Hid (decide (l=a)=false):=by
         show decide (l=a)=false
         rw[aD];intro e;have h0:l[k]?=a[k]?:=by rw[e]
         rw[e3.out,e4.out] at h0;injection h0 with h0;exact hee h0
        rw[hbn] at hsame;clear hee;go_wp2;go_region_held3 (fun w'=>w'.cell? ⟨b1,o1+k,none⟩=some (.slice A1 n1 d1)/\w'.cell? ⟨b2,o2+k,none⟩=some (.slice A2 n2 d2)) (first | go_keep | (refine⟨?_,?_⟩ <;> assumption)) (first | (go_at_call 130;(with_reducible refine (hsame).mono ?_);rintro e w2 ⟨rfl,q2,rfl⟩) | fail);go_wp2;go_ret;exact⟨dn hno.out.symm,below_drewN hbel _⟩
    · have hk9:k=n:=aS;have hyes:Hid (decide (l=a)=true):=by
       show decide (l=a)=true
       rw[decide_eq_true_iff];rw[au aS,au aS] at htk;exact htk
      subst hk9;clear htk;go_wp2;go_ret;exact⟨dn hyes.out.symm,hbel⟩
 · have hno:Hid (decide (l=a)=false):=by
    show decide (l=a)=false
    rw[aD];rintro rfl;exact hnm (hln.symm.trans han)
   have hne:(((n:Nat):Int) != (m:Int))=true:=by rw[ag];omega
   clear hl ha;go_enter Tryz.func36,Tryz.ntmps36;go_wp2;go_ret;exact⟨dn hno.out.symm,Below.refl _ _⟩
open Go.RowKit Go.WideShapes Go.ChangeShapes Go.Deep Go.Joins
section
variable {H:Type} {enc:TypeId × Value→H} {P:Program} {w:World} {base b0:Nat} {held:Bool} {r:Reach} {v:Value} {d:DataW H} {ps:List MemPlace}
theorem args_rows_of {t e b:TypeId}(ht:P.underlying t=some (.slice e))(he:P.underlying e=some (.slice b))(hb:P.underlying b=some (.int .i64))(hcb:P.cellsOf b=1)(hce:P.cellsOf e=1)
 (hval:Value.okWide P w r b0 t v) (hd:DataW.Trod enc P w base (fun _=>true) held t v d ps) :
 ∃ A n c l,v=.slice A n c/\gN w A n l/\n<=c/\c<=maxLen/\∀ L ∈ l,eS L:=by
 obtain⟨a0,len,cap,rfl⟩:=okWide_slice ht hval;obtain⟨fuel,hf⟩:=hd;rcases open_slice1 ht hce hf with ⟨hcs,_⟩ | ⟨x,l,c,m,nf,V,D,Pl,hcs,_,hl,hm,hmm,_,hat⟩
 · simp[Value.cells] at hcs;obtain⟨rfl,rfl,rfl⟩:=hcs;exact⟨none,0,0,[],rfl,⟨rfl,[],Rd.nil _ _ _,fun k h L h1=>by simp at h1⟩,Nat.le_refl _,by unfold maxLen;omega,fun L hL=>by cases hL⟩
 · simp[Value.cells] at hcs;obtain⟨rfl,rfl,rfl⟩:=hcs;simp only[if_true] at hmm;have hx:∀ i,i<len->∃ q:SlV × List Int,V i=slV q.1/\(RI w q.1.a q.1.n q.2/\q.1.n<=maxLen)/\eS q.2:=by
    intro i hi;obtain⟨_,htr⟩:=hat i aS;obtain⟨B,k,c',L,e1,r1,k1,m1,b1⟩:=trod_ints he hb hcb htr;exact⟨(⟨B,k,c'⟩,L),e1,⟨r1,by show k<=maxLen;omega⟩,mem_intok b1⟩
   obtain⟨l,hl',hp⟩:=list_of hx;refine⟨some x,len,cap,l.map (·.2),rfl,⟨by simpa using hl',l.map (·.1),⟨by simpa using hl',fun h0=>?_⟩,fun k h L h1 h2=>?_⟩,hl,hm,fun L hL=>?_⟩
   · obtain⟨c0,_⟩:=hat 0 aS;have hs:=spot_none (a:=x) (by simpa [Addr.add] using c0);obtain⟨bb,o,s⟩:=x;simp only at hs;subst hs;have hadd:∀ q,(⟨bb,o,none⟩:Addr).add q=⟨bb,o+q,none⟩:=fun q=>by unfold Addr.add;split <;> simp_all
     refine⟨bb,o,rfl,World.block_lt_of_cell? w ⟨bb,o,none⟩ (by simpa [Addr.add] using c0),fun i hi=>?_⟩;obtain⟨ci,_⟩:=hat i aS;rw[hadd] at ci;have hil:i<l.length:=aS;obtain⟨e1,_⟩:=hp i _ (ap hil);rw[ci,e1]
     show _=some ((((l.map (·.1)).map slV)).getD i undef)
     rw[af,List.getElem?_map,List.getElem?_map,ap hil];rfl
   · rw[List.getElem?_map] at h1 h2
     cases hk:l[k]? with
     | none=>rw[hk] at h1;cases h1
     | some q=>
       rw[hk] at h1 h2;simp only[Option.map_some,Option.some.injEq] at h1 h2;subst h1 h2;exact (hp k q hk).2.1
   · rw[List.mem_map] at hL;obtain⟨q,hq,rfl⟩:=hL;obtain⟨i,hi,e⟩:=List.getElem_of_mem hq;exact (hp i q (by rw[<- e];exact ap hi)).2.2
theorem args_rows (hval:Value.okWide Tryz.prog w r b0 57 v)(hd:DataW.Trod enc Tryz.prog w base (fun _=>true) held 57 v d ps):∃ A n c l,v=.slice A n c/\gN w A n l/\n<=c/\c<=maxLen/\∀ L ∈ l,eS L :=
 args_rows_of Tryz.underlying57 Tryz.underlying22 Tryz.underlying3 bO bO hval hd
end
theorem run_eq_stat0 (w:World):(Op.equalIn 10000 54 (.agg #[I 0,I 0,I 0,I 0,I 0,I 0]) (.agg #[I 0,I 0,I 0,I 0,I 0,I 0])).run Tryz.prog w=.ok true w:=by
 have h:=run_eq_ints (P:=Tryz.prog) w Tryz.underlying3 bO Tryz.underlying54 bO 6 bO bO [0,0,0,0,0,0] [0,0,0,0,0,0] rfl rfl;rw[am rfl] at h;exact h
theorem c_stat0 {w:World}{base g c many:Nat}{q:bw}{p:PV}{rep:Int}{calm:Bool}(h:StOn w base q g p m c pace many calm [] 0 rep) :
 Ca 29 #[.pointer (some ⟨g,0,none⟩)] w fun e' w'=>e'=.returned (.agg #[I 0,I 0,I 0,I 0,I 0,I 0])/\Below w.heap.size w w':=by
 obtain⟨_,_,r0,r1,_⟩:=h.le;refine (t_stat h).mono fun e' w' ⟨pa,sv,h1,a1,a2,a3,a4,a5,h2⟩=>⟨?_,h2⟩
 rw[h1,show pa=0 by omega,show rep=0 by omega,show sv=0 by omega]
 rfl
end Go.Proofs.YtmeebofhlilcmaaGreat
namespace Go.Proofs.YtmeebofhlilcmaaGreat.engineNone
variable {m:Nat} {pace:Int} {rows:List (List Int)}
open Go.ChangeShapes Go.WideShapes Go.ChangeAt Go.RowKit
end Go.Proofs.YtmeebofhlilcmaaGreat.engineNone
