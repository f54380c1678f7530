/- Parts. -/
import Derived.Test.YtmeebofhlilcmaaGreatPr36
import Derived.Test.YtmeebofhlilcmaaGreatPr34
set_option linter.unusedVariables false
set_option linter.unusedSimpArgs false
set_option maxRecDepth 100000
set_option maxHeartbeats 0
namespace Go.Proofs.YtmeebofhlilcmaaGreat
variable {pace rep:Int} {rows:List (List Int)} {nx N tick ci:Nat} {Ai:Option Addr}
open Go.RowKit
theorem mj (w:World)(h:SlV):Below w.heap.size w (w.alloc (.cells #[.slice h.a h.n h.c] 22)):=(Below.refl _ _).alloc aW _
section
variable {w:World} {x:PA} {p:PV}
theorem rtick_row {H m:Nat}(G:Prg p H m pace)(hR:eN p.ins rows){t:Nat}(ht:t<rows.length){W:World}(h:ca W x p)(Ac:Option Addr)(n c:Nat)(hc:RI W Ac n (de p rows t))(Ai:Option Addr)(k d:Nat)(l:List Int)(hl0:rows[t]?=some l)(hl:RI W Ai k l)(hk:k<=maxLen) :
 Ca 129 #[.agg #[.slice x.A1 x.n1 x.c1,.slice x.A2 x.n2 x.c2,I p.regs,.slice x.A3 x.n3 x.c3,.slice x.A4 x.n4 x.c4],.slice Ac n c,.slice Ai k d] W fun e w'=>∃ A1 c1 A2 n2 c2 st,e=.returned (.tuple #[.slice A1 n c1,.slice A2 n2 c2,I st,I 0])/\Ow iv w' W.heap.size 3 A1 n c1 (de p rows (t+1))/\Ow iv w' W.heap.size 3 A2 n2 c2 (dL p rows t)/\Below W.heap.size W w':=by
 obtain⟨i1,i2⟩:=pb G hR t aS;obtain⟨m1,m2⟩:=nw ht;have hll:fV rows t=l:=by rw[m1] at hl0;injection hl0
 rw[hll] at m2;have f1:=hR.fits _ m2;have f2:=oZ (hR.ints _ m2);have hn:n<=100000:=by
  have h1:=(iC.1 i1).1;have h2:=hc.1;have h3:=(dN.1 G.may).2.2.2.2.1;omega
 have e1:eO p (de p rows t) (fV rows t)=((goV p (de p rows t) l 0 (dZ p (de p rows t))).next,(goV p (de p rows t) l 0 (dZ p (de p rows t))).out,(goV p (de p rows t) l 0 (dZ p (de p rows t))).steps,0):=by
  rw[hll];unfold eO;rw[if_pos (by rw[i1,f1];rfl)]
 refine (rtick_yes h G.hv G.hw Ac n c _ hc hn Ai k d l hl hk i2 f2 i1 f1).mono fun e w' ⟨A1,c1,A2,c2,h1,h2,h3,h4⟩=>⟨A1,c1,A2,x.n2,c2,_,h1,?_,?_,h4⟩
 · have:de p rows (t+1)=(eO p (de p rows t) (fV rows t)).1:=rfl;rw[this,e1];exact h2
 · have:dL p rows t=(eO p (de p rows t) (fV rows t)).2.1:=rfl;rw[this,e1];exact h3
def RTickSays (x:PA)(p:PV)(BV GV:Nat->List Int)(rows:List (List Int))(kk:Nat):Prop:=∀ (t:Nat),t<kk->∀ (W:World),ca W x p->∀ (Ac:Option Addr) (n c:Nat),RI W Ac n (BV t)->∀ (Ai:Option Addr) (k d:Nat) (l:List Int),rows[t]?=some l->RI W Ai k l->k<=maxLen ->
    Ca 129 #[.agg #[.slice x.A1 x.n1 x.c1,.slice x.A2 x.n2 x.c2,I p.regs,.slice x.A3 x.n3 x.c3,.slice x.A4 x.n4 x.c4],.slice Ac n c,.slice Ai k d] W fun e w'=>∃ A1 c1 A2 n2 c2 st,e=.returned (.tuple #[.slice A1 n c1,.slice A2 n2 c2,I st,I 0])/\Ow iv w' W.heap.size 3 A1 n c1 (BV (t+1))/\Ow iv w' W.heap.size 3 A2 n2 c2 (GV t)/\Below W.heap.size W w'
theorem refrows_any {H m:Nat}(G:Prg p H m pace)(hR:eN p.ins rows)(h:ca w x p)(B:Option Addr)(k d:Nat)(hl:iI w B k rows)(hk:k<=1000000) :
 Ca 35 #[.agg #[.slice x.A1 x.n1 x.c1,.slice x.A2 x.n2 x.c2,I p.regs,.slice x.A3 x.n3 x.c3,.slice x.A4 x.n4 x.c4],.slice B k d] w fun e w'=>∃ A c A2 n2 c2,e=.returned (.tuple #[.slice A k c,.slice A2 n2 c2])/\ei w' w.heap.size A k c (cN p rows k)/\Ow iv w' w.heap.size 3 A2 n2 c2 (de p rows k)/\Below w.heap.size w w':=by
 have O:=ig.of h;have hlen:=hl.1;have hn3:p.cells.length<=100000:=by have:=(dN.1 G.may).2.2.2.2.1;omega
 have htick:Hid (RTickSays x p (de p rows) (dL p rows) rows k):=fun t ht W h Ac n c hc Ai kk d l hl0 hl hk=>rtick_row G hR (t:=t) aS h Ac n c hc Ai kk d l hl0 hl hk
 have hL:=aT hl;have hb0:de p rows 0=es p:=rfl;have ho0:cN p rows 0=[]:=rfl;have HS:=aT (fun t=>oJ p rows t);have hfir:=fun {W:World} (h:ca W x p)=>reffirst_any (x:=x) h hn3
 rw[<- hb0] at hfir;clear hb0 h hl hlen;generalize de p rows=BV at *;generalize cN p rows=OV at *;generalize dL p rows=GV at *;go_enter Tryz.func35,Tryz.ntmps35;go_upto_region 1 with fail;refine eG (fun W=>ig w W w.heap.size x p) O ?_;clear O;intro W O;have HB:=aT O.bel;have HX:=aT O.b;have HP:=aT O.rd;have lB:=O.b.lt;have hWs:=O.bel.size;obtain⟨y0,y1,y2,y3,y4⟩:=blk5 O.b;clear O;go_wp2_with (first | ((go_at_call 128;(with_reducible refine (hfir HP.out).mono ?_);rintro e w2 ⟨A2,c2,rfl,o2,b2⟩);have O2:=aT o2;have B2:=aT b2;clear o2 b2) | fail);go_loopw [6,7,8] (fun ce ou t wr=>∃ (j:Nat) (A:Option Addr) (c:Nat) (A2:Option Addr) (n2 c2:Nat),j<=k/\t=I (j:Nat)/\ou=.slice A j c/\ce=.slice A2 n2 c2/\Hid (ei wr W.heap.size A j c (OV j))/\Hid (Ow iv wr W.heap.size 3 A2 n2 c2 (BV j))/\Hid (Below W.heap.size W wr)) (fun _ _ t _=>k - (intOf t).toNat)
 case atStart=>exact⟨0,none,0,A2,x.n3,c2,aS,rfl,rfl,rfl,(by rw[ho0];exact ei.nil _ _),O2.out,B2.out⟩
 case round=>
  clear O2 B2 y0 y1 y2 y3 y4;obtain⟨j,A,c,A2,n2,c2,hj,rfl,rfl,rfl,hO,hC,hB⟩:=hrel;obtain⟨y0,y1,y2,y3,y4⟩:=blk5 (HX.out.below hB.out lB);have hbs:=hB.out.size;have lw:w.heap.size<wr.heap.size:=aS
  by_cases hlt:j<k
  · obtain⟨b,o,Bi,ni,di,L,hBe,hbl,hcell,hrow,hri,hnm⟩:=(hL.out.below HB.out aW).at_ hlt;replace hcell:=(gz hB.out hbl).trans hcell;have hri2:=aT (hri.below hB.out aW);have PW:=aT (HP.out.below (b:=W.heap.size) hB.out aW);have ct:=fun {V:World} (h:ca V x p) (hc:RI V A2 n2 (BV j)) (hl:RI V Bi ni L)=>htick.out j hlt V h A2 n2 c2 hc Bi ni di L hrow hl hnm
    have hs9:=HS.out j;clear hri hrow htick HS;have HS9:=aT hs9;clear hs9;subst hBe;go_upto_region 6 with fail;go_region_held3 (fun w'=>w'.cell? ⟨w.heap.size,0,none⟩=some (.slice x.A1 x.n1 x.c1)/\w'.cell? ⟨w.heap.size,1,none⟩=some (.slice x.A2 x.n2 x.c2)/\w'.cell? ⟨w.heap.size,2,none⟩=some (I p.regs)/\w'.cell? ⟨w.heap.size,3,none⟩=some (.slice x.A3 x.n3 x.c3)/\w'.cell? ⟨w.heap.size,4,none⟩=some (.slice x.A4 x.n4 x.c4)/\w'.cell? ⟨b,o+j,none⟩=some (.slice Bi ni di)) (first | go_keep | (refine⟨?_,?_,?_,?_,?_,?_⟩ <;> assumption)) (first | ((go_at_call 129;(with_reducible refine (ct (PW.out.below (b:=wr.heap.size) (Below.drew (Below.refl _ _)) aW) (hC.out.below (b:=wr.heap.size) (Below.drew (Below.refl _ _)) aW).rd.ri (hri2.out.below (B:=wr.heap.size) (Below.drew (Below.refl _ _)) aW)).mono ?_);rintro e w5 ⟨A1',c1',A2',n2',c2',st,rfl,o1',o2',b5⟩);have b45:Below wr.heap.size wr w5:=bH (a:=wr) (B:=wr.heap.size) bc b5 be;have N5:=aT (o1'.rebase (base':=W.heap.size) be);have G5:=aT (o2'.rebase (base':=W.heap.size) be);have R5:=aT (hO.out.below b45);have B5:=aT (hB.out.trans (b45.mono hbs));have z0:=(gz b45 lw).trans y0;have z1:=(gz b45 lw).trans y1;have z2:=(gz b45 lw).trans y2;have z3:=(gz b45 lw).trans y3;have z4:=(gz b45 lw).trans y4;have z5:=(gz b45 (Nat.lt_of_lt_of_le hbl hbs)).trans hcell;clear b5 o1' o2') | fail);obtain⟨hs,how,happ⟩:=(R5.out.below (mj w5 ⟨A2',n2',c2'⟩)).app (h:=⟨A2',n2',c2'⟩) (G5.out.below (mj w5 ⟨A2',n2',c2'⟩) aW);have HOW:=aT how;have HAP:=aT happ;clear how happ;have ss5:=B5.out.size;go_wp2_with (first | (at_builtin;refine dw rfl rfl kJ slV_one (s:=.tmp 34) (N:=j+1) (L:=hs ++ [⟨A2',n2',c2'⟩]) rfl HOW.out rfl (k:=[⟨A2',n2',c2'⟩]) (nC w5 ⟨A2',n2',c2'⟩) rfl rfl bM aS (ag ss5 (mj w5 ⟨A2',n2',c2'⟩).size) ?_;intro A6 c6 w6 hown6 hg6 hat6 hb6) | fail);have R6:=HAP.out A6 c6 w6 hown6 hg6;rw[HS9.out] at R6;have B6:=B5.out.trans (((mj w5 ⟨A2',n2',c2'⟩).mono ss5).trans hb6);have N6:=(N5.out.below (mj w5 ⟨A2',n2',c2'⟩) aW).other HOW.out aV hg6;go_roundw
    case rel=>first
     | exact⟨j+1,A6,c6,A1',n2,c1',aS,by go_num,rfl,rfl,R6,N6,B6⟩
     | ((repeat apply Exists.intro);exact⟨⟨j+1,A6,c6,A1',n2,c1',aS,by go_num,rfl,rfl,R6,N6,B6⟩,rfl⟩)
    case measure=>simp[intOf];omega
  · have hk9:j=k:=aS;subst hk9;go_wp2_with fail;go_returns;exact⟨A,c,A2,n2,c2,rfl,hO.out.lower hWs,hC.out.rebase hWs,HB.out.trans (hB.out.mono hWs)⟩
end
theorem psame_any (A B:Option Addr)(n m c d:Nat)(l k:List Int)(w:World)(ha:RI w A n l)(hb:RI w B m k)(hn:n<=maxLen) :
 Ca 130 #[.slice A n c,.slice B m d] w fun e w'=>e=.returned (.bool (decide (l=k)))/\∃ q,w'=w.drewN q:=by
 unfold maxLen at hn
 by_cases hnm:n=m
 · subst hnm;have hlen:=ha.1.trans hb.1.symm;have hl:=aT ha.1;have hk:=aT hlen;have hnn:(((n:Nat):Int) != (n:Int))=false:=by simp
   clear hlen;generalize hz:decide (l=k)=z;have Hz:=aT hz;clear hz;go_enter Tryz.func130,Tryz.ntmps130;go_wp2;go_loopw [5] (fun i wr=>∃ j q,j<=n/\i=I (j:Nat)/\Hid (∀ i,i<j->aZ l i=aZ k i)/\wr=w.drewN q) (fun i _=>n - (intOf i).toNat)
   case atStart=>exact⟨0,0,Nat.zero_le _,rfl,fun i hi=>absurd hi aS,rfl⟩
   case round=>
    obtain⟨j,q,hj,rfl,hall,rfl⟩:=hrel
    by_cases hlt:j<n
    · obtain⟨b0,o0,rfl,_,hc0⟩:=ha.at_ hlt;obtain⟨b1,o1,rfl,_,hc1⟩:=hb.at_ hlt;have hlt':(j:Int)<n:=aS
      by_cases heq:aZ l j=aZ k j
      · have hE:=aT heq;have hne:((aZ l j) != (aZ k j))=false:=by simp[heq]
        clear heq;go_wp2;go_quiet (fail);go_wp2;go_roundw
        case rel=>
         refine⟨j+1,q+nq,aS,by go_num,fun i hi=>?_,rfl⟩;rcases aw i j with h | h
         · exact hall.out i h
         · rw[show i=j from by omega];exact hE.out
        case measure=>simp[intOf];omega
      · have hE:=aT heq;have hne:((aZ l j) != (aZ k j))=true:=by
         rw[af];exact heq
        clear heq;go_wp2;go_quiet (fail);go_wp2;go_ret;refine⟨cO ?_,q+nq,World.drewN_drewN _ _ _⟩;rw[<- Hz.out,eq_comm,aD];rintro rfl;exact hE.out rfl
    · go_wp2;go_ret;refine⟨cO ?_,_,rfl⟩;rw[<- Hz.out,eq_comm,aq];exact intAt_inj hk.out (fun i hi=>hall.out i (by have:=hl.out;omega))
 · have hne:(((n:Nat):Int) != (m:Int))=true:=by rw[af];omega
   have hz:decide (l=k)=false:=by
    rw[aD];rintro rfl;exact hnm (ha.1.symm.trans hb.1)
   rw[hz];clear hz hnm;go_enter Tryz.func130,Tryz.ntmps130;go_wp2;go_ret;exact⟨rfl,0,rfl⟩
theorem pg (B C:Option Addr)(n m c d:Nat)(l a:List (List Int))(w:World)(hl:iI w B n l)(ha:iI w C m a)(hn:n<=maxLen)(hm:m<=maxLen) :
 Ca 36 #[.slice B n c,.slice C m d] w fun e w'=>e=.returned (.bool (decide (l=a)))/\Below w.heap.size w w':=by
 have hln:=hl.1;have han:=ha.1;unfold maxLen at hn hm
 by_cases hnm:n=m
 · subst hnm;go_enter Tryz.func36,Tryz.ntmps36;go_wp2;go_loopw [5] (fun i wr=>∃ k:Nat,k<=n/\i=I (k:Nat)/\l.take k=a.take k/\Below w.heap.size w wr) (fun i _=>n - (intOf i).toNat)
   case atStart=>exact⟨0,aS,rfl,rfl,Below.refl _ _⟩
   case round=>
    obtain⟨k,hk,rfl,htk,hbel⟩:=hrel
    by_cases hlt:k<n
    · obtain⟨_,hs,hrd,hcell⟩:=hl.below hbel aW;obtain⟨_,ks,krd,kcell⟩:=ha.below hbel aW;have hsl:k<hs.length:=by rw[hrd.1];exact hlt
      have ksl:k<ks.length:=by rw[krd.1];omega
      have hll:k<l.length:=aS;have hal:k<a.length:=aS;obtain⟨r1,x1⟩:=hcell k _ _ (ap hsl) (ap hll);obtain⟨r2,x2⟩:=kcell k _ _ (ap ksl) (ap hal);obtain⟨b1,o1,hB1,hb1,c1⟩:=hrd.2.at_ hlt;obtain⟨b2,o2,hB2,hb2,c2⟩:=krd.2.at_ (show k<n by omega);rw[iy hs k hsl] at c1;rw[iy ks k ksl] at c2;have e1:Hid (l.take (k+1)=l.take k ++ [l[k]]):=aQ hll;have e2:Hid (a.take (k+1)=a.take k ++ [a[k]]):=aQ hal;have e3:Hid (l[k]?=some l[k]):=ap hll;have e4:Hid (a[k]?=some a[k]):=ap hal;generalize hs[k]=h1 at *;generalize ks[k]=h2 at *;generalize l[k]=L1 at *;generalize a[k]=L2 at *;obtain⟨A1,n1,d1⟩:=h1;obtain⟨A2,n2,d2⟩:=h2;simp only[slV] at c1 c2 r1 x1 r2 x2;have hsame:=psame_any A1 A2 n1 n2 d1 d2 L1 L2 wr.drew r1 r2 x1;have HT:=aT htk;have HL:=aT hlt;clear hcell kcell hrd krd htk;subst hB1 hB2
      by_cases hee:L1=L2
      · have hbn:=am hee;rw[hbn] at hsame;go_wp2;go_region_held3 (fun w'=>w'.cell? ⟨b1,o1+k,none⟩=some (.slice A1 n1 d1)/\w'.cell? ⟨b2,o2+k,none⟩=some (.slice A2 n2 d2)) (first | go_keep | (refine⟨?_,?_⟩ <;> assumption)) (first | (go_at_call 130;(with_reducible refine (hsame).mono ?_);rintro e w2 ⟨rfl,q2,rfl⟩) | fail);have hnx:Hid (l.take (k+1)=a.take (k+1)):=by show _=_;rw[e1.out,e2.out,HT.out,hee]
        clear hee;go_wp2;go_roundw
        case rel=>first
         | exact⟨k+1,aS,by go_num,hnx.out,below_drewN hbel _⟩
         | ((repeat apply Exists.intro);exact⟨⟨k+1,aS,by go_num,hnx.out,below_drewN hbel _⟩,rfl⟩)
        case measure=>simp[intOf];omega
      · have hbn:=aj hee;have hno:Hid (decide (l=a)=false):=by
         show decide (l=a)=false
         rw[aD];intro e;have h0:l[k]?=a[k]?:=by rw[e]
         rw[e3.out,e4.out] at h0;injection h0 with h0;exact hee h0
        rw[hbn] at hsame;clear hee;go_wp2;go_region_held3 (fun w'=>w'.cell? ⟨b1,o1+k,none⟩=some (.slice A1 n1 d1)/\w'.cell? ⟨b2,o2+k,none⟩=some (.slice A2 n2 d2)) (first | go_keep | (refine⟨?_,?_⟩ <;> assumption)) (first | (go_at_call 130;(with_reducible refine (hsame).mono ?_);rintro e w2 ⟨rfl,q2,rfl⟩) | fail);go_wp2;go_ret;exact⟨cO hno.out.symm,below_drewN hbel _⟩
    · have hk9:k=n:=aS;have hyes:Hid (decide (l=a)=true):=by
       show decide (l=a)=true
       rw[decide_eq_true_iff];rw[au aS,au aS] at htk;exact htk
      subst hk9;clear htk;go_wp2;go_ret;exact⟨cO hyes.out.symm,hbel⟩
 · have hno:Hid (decide (l=a)=false):=by
    show decide (l=a)=false
    rw[aD];rintro rfl;exact hnm (hln.symm.trans han)
   have hne:(((n:Nat):Int) != (m:Int))=true:=by rw[af];omega
   clear hl ha;go_enter Tryz.func36,Tryz.ntmps36;go_wp2;go_ret;exact⟨cO hno.out.symm,Below.refl _ _⟩
open Go.RowKit Go.WideShapes Go.ChangeShapes Go.Deep Go.Joins
structure DoW where
 kind:Int
 n:Int
 l:List Int
 b:List UInt8
def DosW (w:World)(A:Option Addr)(n:Nat)(l:List DoW):Prop :=
 l.length=n/\∀ k x,l[k]?=some x->∃ b o C q e B m c,A=some ⟨b,o,none⟩/\b<w.heap.size/\w.cell? ⟨b,o+k * 4+0,none⟩=some (I x.kind)/\w.cell? ⟨b,o+k * 4+1,none⟩=some (I x.n)/\w.cell? ⟨b,o+k * 4+2,none⟩=some (.slice C q e)/\w.cell? ⟨b,o+k * 4+3,none⟩=some (.slice B m c) /\
  RI w C q x.l/\q<=e/\e<=maxLen/\RB w B m x.b/\m<=c/\c<=maxLen/\(-9223372036854775808<=x.kind/\x.kind<=9223372036854775807)/\(-9223372036854775808<=x.n/\x.n<=9223372036854775807)/\eV x.l
theorem DosW.below {w w':World}{A:Option Addr}{n B0:Nat}{l:List DoW}(h:DosW w A n l)(hb:Below B0 w w')(hB:w.heap.size<=B0):DosW w' A n l:=by
 refine⟨h.1,fun k x hx=>?_⟩;obtain⟨b,o,C,q,e,B,m,c,hA,hlt,c0,c1,c2,c3,hi,h1,h2,hr,rest⟩:=h.2 k x hx;have hs:=hb.size;have hc:∀ j,w'.cell? ⟨b,j,none⟩=w.cell? ⟨b,j,none⟩:=fun j=>hb.cell (p:=⟨b,j,none⟩) (by show b<B0;omega)
 exact⟨b,o,C,q,e,B,m,c,hA,aS,by rw[hc];exact c0,by rw[hc];exact c1,by rw[hc];exact c2,by rw[hc];exact c3,hi.below hb hB,h1,h2,hr.below hb hB,rest⟩
theorem intOk_of {l:List Int}(h:∀ z ∈ l,-9223372036854775808<=z/\z<=9223372036854775807):eV l:=fun i hi=>by
 unfold aZ;rw[ah,ap hi];exact h _ (List.getElem_mem hi)
def playC (q:Nat)(x:PA)(p:PV)(pace:Int)(g A:Option Addr)(n c:Nat)(B:Option Addr)(k e:Nat)(ran:Int):List Value :=
 [.pointer (some ⟨q,0,none⟩),.slice x.A1 x.n1 x.c1,.slice x.A2 x.n2 x.c2,I p.regs,.slice x.A3 x.n3 x.c3,.slice x.A4 x.n4 x.c4,I pace,.pointer g,.slice A n c,.slice B k e,I ran]
section
variable {M:List TypeId} {w w':World} {base g gy m cc many n k c e tick:Nat} {q:bC} {p:PV} {pace rep ran:Int} {calm:Bool} {rows all S may:List (List Int)} {x:PA} {gp A B:Option Addr} {t:TypeId} {cs:List Value}
theorem eW (Y:Blk w gy t (playC q.d x p pace gp A n c B k e ran)):w.cell? ⟨gy,0,none⟩=some (.pointer (some ⟨q.d,0,none⟩))/\w.cell? ⟨gy,1,none⟩=some (.slice x.A1 x.n1 x.c1)/\w.cell? ⟨gy,2,none⟩=some (.slice x.A2 x.n2 x.c2)/\w.cell? ⟨gy,3,none⟩=some (I p.regs)/\w.cell? ⟨gy,4,none⟩=some (.slice x.A3 x.n3 x.c3)/\w.cell? ⟨gy,5,none⟩=some (.slice x.A4 x.n4 x.c4)/\w.cell? ⟨gy,6,none⟩=some (I pace)/\w.cell? ⟨gy,7,none⟩=some (.pointer gp)/\w.cell? ⟨gy,8,none⟩=some (.slice A n c)/\w.cell? ⟨gy,9,none⟩=some (.slice B k e)/\w.cell? ⟨gy,10,none⟩=some (I ran) :=
 ⟨Y.cell 0,Y.cell 1,Y.cell 2,Y.cell 3,Y.cell 4,Y.cell 5,Y.cell 6,Y.cell 7,Y.cell 8,Y.cell 9,Y.cell 10⟩
theorem gV.disk (h:gV w base q p m cc pace many n all ran):∃ D,bj w base q D:=by
 obtain⟨D,hd,_⟩:=h.ex;exact⟨D,hd⟩
theorem gw.disk (h:gw w base q p m cc pace many calm n all ran):∃ D,bj w base q D:=by
 obtain⟨D,N,hd,_⟩:=h.ex;exact⟨D,hd⟩
theorem told_sure (hS:S.length=n)(h:n<=nx):((S ++ may).take nx).take n=S:=by
 rw[List.take_take,Nat.min_eq_left h,List.take_append_of_le_length aS,au aS]
theorem told_may (hS:S.length=n)(h:n<=nx):((S ++ may).take nx).drop n=may.take (nx - n):=by
 rw[List.drop_take,List.drop_append_of_le_length aS,aP aS,List.nil_append]
structure dH (w:World)(base gy:Nat)(q:bC)(x:PA)(p:PV)(pace:Int)(gp A:Option Addr)(n c:Nat)(B:Option Addr)(k e:Nat)(ran:Int)(S may:List (List Int)):Prop where
 blk:Blk w gy 73 (playC q.d x p pace gp A n c B k e ran)
 sure:ea w base base A n c S
 may:ea w base base B k e may
 pr:∀ W,Below base w W->ed W base x p
 gy0:base<=gy
theorem dH.step {D:aX}(h:dH w base gy q x p pace gp A n c B k e ran S may)(hd:bj w base q D)(s:Step mutE base q w w'):dH w' base gy q x p pace gp A n c B k e ran S may :=
 ⟨hd.blk h.blk s.tch aV,h.sure.step hd s aV aV,h.may.step hd s aV aV,fun W hb=>h.pr W (s.bel.trans hb),h.gy0⟩
theorem dH.below (h:dH w base gy q x p pace gp A n c B k e ran S may)(hb:Below w.heap.size w w')(hs:base<=w.heap.size):dH w' base gy q x p pace gp A n c B k e ran S may :=
 ⟨h.blk.below hb h.blk.lt,h.sure.below hb,h.may.below hb,fun W hw=>h.pr W ((hb.mono hs).trans hw),h.gy0⟩
theorem ei.rowsIn {b:Nat}(H:ei w b A N c S)(hb:base<=b):ea w base base A N c S:=by
 obtain⟨a,hs,ho,hk⟩:=H;exact⟨a,ho.cap.1,ho.cap.2,hs,fun k h L q1 q2=>cu.of_ow (hk k h L q1 q2),.inl (ho.rebase hb)⟩
theorem rowsTail {at_:Nat}(h:iI w A N S)(hd:N<=c)(ha:at_<=N):∃ A',(∀ W,(Instr.slice 57 (.slice A N c) (some (I (at_:Int))) none none).run Tryz.prog W=.ok (.slice A' (N - at_) (c - at_)) W)/\iI w A' (N - at_) (S.drop at_):=by
 refine⟨_,fun W=>jZ kJ A N c at_ ha W,?_⟩;obtain⟨hl,hs,hr,hq⟩:=h;refine⟨by rw[aG,hl],hs.drop at_,⟨by rw[aG,hr.1],fun h0=>?_⟩,fun i y Y q1 q2=>?_⟩
 · obtain⟨b,o,e,hb,hc⟩:=hr.2 aS;subst e;rw[if_neg aS];refine⟨b,o+at_,?_,hb,fun i hi=>?_⟩
   · simp[Addr.add]
   · rw[Nat.add_assoc,hc (at_+i) aS];simp only[ah,List.getElem?_map,List.getElem?_drop]
 · rw[List.getElem?_drop] at q1 q2;exact hq _ _ _ q1 q2
theorem Step.playSet (Y:Blk w gy 73 cs)(h0:base<=gy)(hs:base<=w.heap.size)(i:Nat)(u:Value):Step [73] base q w (w.setCell ⟨gy,i,none⟩ u):=Step.one (dU _) Y (aM ..) h0 hs
theorem StOn.playSet (h:StOn w base q g p m cc pace many calm rows tick rep)(Y:Blk w gy 73 cs)(h0:base<=gy)(i:Nat)(u:Value):StOn (w.setCell ⟨gy,i,none⟩ u) base q g p m cc pace many calm rows tick rep :=
 h.stepM (D':=newV 1 1) (Step.playSet Y h0 h.hs i u) (fun D hd=>hd.other Y aV u) aV aV
theorem ea.playSet {D:aX}(H:ea w base base A N c S)(hd:bj w base q D)(Y:Blk w gy 73 cs)(h0:base<=gy)(hs:base<=w.heap.size)(i:Nat)(u:Value):ea (w.setCell ⟨gy,i,none⟩ u) base base A N c S :=
 H.step hd (Step.playSet Y h0 hs i u) aV aV
end
section
variable {w w' w'':World} {base gy:Nat} {q:bC} {D:aX} {cs:List Value}
structure Bel2 (base:Nat)(w w':World):Prop where
 bel:Below base w w'
 keep:∀ g cs,Blk w g 75 cs->Blk w' g 75 cs
theorem Bel2.refl (base:Nat)(w:World):Bel2 base w w:=⟨Below.refl _ _,fun _ _ h=>h⟩
theorem Bel2.trans (h:Bel2 base w w')(h':Bel2 base w' w''):Bel2 base w w'':=⟨h.bel.trans h'.bel,fun g cs k=>h'.keep g cs (h.keep g cs k)⟩
theorem Bel2.of (hb:Below w.heap.size w w')(hs:base<=w.heap.size):Bel2 base w w':=⟨hb.mono hs,fun g cs k=>k.below hb k.lt⟩
theorem Bel2.step (hd:bj w base q D)(s:Step mutE base q w w'):Bel2 base w w':=⟨s.bel,fun g cs k=>hd.blk k s.tch aV⟩
theorem Bel2.setPlay (h:Bel2 base w w')(Y:Blk w' gy 73 cs)(h0:base<=gy)(i:Nat)(u:Value):Bel2 base w (w'.setCell ⟨gy,i,none⟩ u) :=
 ⟨h.bel.setCell (p:=⟨gy,i,none⟩) h0 u,fun g cs k=>(h.keep g cs k).far (p:=⟨gy,i,none⟩) ((h.keep g cs k).ne_ Y aV) u⟩
end
section
variable {w w':World} {base gy m cc many n k c e nb nd q9 e9:Nat} {q:bC} {p:PV} {pace ran kind N:Int} {all S may:List (List Int)} {x:PA} {gp A B C Bx:Option Addr} {bs:List UInt8}
def BackR (w':World)(base gy:Nat)(q:bC)(x:PA)(p:PV)(m cc:Nat)(pace:Int)(many:Nat):Prop :=
 ∃ g A n c rep R,dH w' base gy q x p pace (some ⟨g,0,none⟩) A n c none 0 0 (n:Nat) R []/\StOn w' base q g p m (cc+4000) pace many true R n rep
theorem t_open2 (V:Env p m pace many){calm:Bool}{k c:Nat}{all:List (List Int)}(h:gw w base q p m c pace many calm k all ran)(hx:ed w base x p)(hcb:c<7000000000000000000) :
 Ca 25 #[.pointer (some ⟨q.d,0,none⟩),.agg #[.slice x.A1 x.n1 x.c1,.slice x.A2 x.n2 x.c2,I p.regs,.slice x.A3 x.n3 x.c3,.slice x.A4 x.n4 x.c4],I pace] w fun e' w'=>
  Step mutE base q w w'/\∃ P z,e'=.returned (.tuple #[.pointer P,I z]) /\
   ((z=0/\∃ (g nx:Nat) (rep:Int),P=some ⟨g,0,none⟩/\k<=nx/\nx<=all.length/\0<=rep/\rep<=pace+(nx:Int) - ran/\StOn w' base q g p m (c+2000) pace many calm (all.take nx) nx rep) \/
    (z=50/\P=none/\calm=false/\∃ k' nx:Nat,k<=k'/\k'<=nx/\nx<=all.length/\gV w' base q p m (c+2000) pace many k' (all.take nx) ran)):=by
 refine (t_open V h hx hcb).mono fun e' w' ⟨s,g,z,he,ho⟩=>⟨s,_,z,he,?_⟩
 rcases ho with ⟨rfl,nx,rep,h1,h2,h3,h4,h5⟩ | ⟨rfl,h1,k',nx,h2,h3,h4,h5⟩
 · exact .inl ⟨rfl,g,nx,rep,rfl,h1,h2,h3,h4,h5⟩
 · exact .inr ⟨rfl,rfl,h1,k',nx,h2,h3,h4,h5⟩
theorem nD {w0:World}{g ni:Nat}{R:List (List Int)}{cs:List Value}(h0:base<=gy)(Y:Blk w gy 73 cs)(O:StOn w base q g p m cc pace many true R tick rep)(Ir:ea w base base Ai ni ci R)(b:Bel2 base w0 w)(i:Nat)(u:Value) :
 Blk (w.setCell ⟨gy,i,none⟩ u) gy 73 (cs.set i u)/\StOn (w.setCell ⟨gy,i,none⟩ u) base q g p m cc pace many true R tick rep/\ea (w.setCell ⟨gy,i,none⟩ u) base base Ai ni ci R/\Bel2 base w0 (w.setCell ⟨gy,i,none⟩ u):=by
 obtain⟨D,hd⟩:=O.disk;exact⟨Y.set_ i u,O.playSet Y h0 i u,Ir.playSet hd Y h0 O.hs i u,b.setPlay Y h0 i u⟩
theorem back_set {g:Nat}{R:List (List Int)}(Y:dH w base gy q x p pace gp A n c B k e ran S may)(O:StOn w base q g p m cc pace many true R tick rep)(Ir:ea w base base Ai R.length ci R) :
 dH ((((w.setCell ⟨gy,7,none⟩ (.pointer (some ⟨g,0,none⟩))).setCell ⟨gy,8,none⟩ (.slice Ai R.length ci)).setCell ⟨gy,9,none⟩ (.slice none 0 0)).setCell ⟨gy,10,none⟩ (I (R.length:Nat))) base gy q x p pace (some ⟨g,0,none⟩) Ai R.length ci none 0 0 (R.length:Nat) R [] /\
  StOn ((((w.setCell ⟨gy,7,none⟩ (.pointer (some ⟨g,0,none⟩))).setCell ⟨gy,8,none⟩ (.slice Ai R.length ci)).setCell ⟨gy,9,none⟩ (.slice none 0 0)).setCell ⟨gy,10,none⟩ (I (R.length:Nat))) base q g p m cc pace many true R tick rep /\
  Bel2 base w ((((w.setCell ⟨gy,7,none⟩ (.pointer (some ⟨g,0,none⟩))).setCell ⟨gy,8,none⟩ (.slice Ai R.length ci)).setCell ⟨gy,9,none⟩ (.slice none 0 0)).setCell ⟨gy,10,none⟩ (I (R.length:Nat))):=by
 obtain⟨y1,o1,i1,b1⟩:=nD Y.gy0 Y.blk O Ir (Bel2.refl base w) 7 (.pointer (some ⟨g,0,none⟩));obtain⟨y2,o2,i2,b2⟩:=nD Y.gy0 y1 o1 i1 b1 8 (.slice Ai R.length ci);obtain⟨y3,o3,i3,b3⟩:=nD Y.gy0 y2 o2 i2 b2 9 (.slice none 0 0);obtain⟨y4,o4,i4,b4⟩:=nD Y.gy0 y3 o3 i3 b3 10 (I (R.length:Nat));exact⟨⟨y4,i4,(ei.nil _ base).rowsIn aW,fun W hW=>Y.pr W (b4.bel.trans hW),Y.gy0⟩,o4,b4⟩
theorem back_any (V:Env p m pace many)(hst:gV w base q p m cc pace many n (S ++ may) ran)(Y:dH w base gy q x p pace gp A n c B k e ran S may)
 (hRB:∀ W,Below base w W->RB W Bx nb bs) (hBx:0<nb->∀ g,Bx.map (·.block)=some g->g<base) (hnb:nb<=maxLen) (hN:N<=9223372036854775807) (hcb:cc<6000000000000000000) (h10:(S ++ may).length<=100) (hpc:pace<=100) (hran:0<=ran) (hran1:ran<=100) :
 Ca 40 #[.pointer (some ⟨gy,0,none⟩),.agg #[I kind,I N,.slice C q9 e9,.slice Bx nb nd]] w fun e' w'=>e'=.returned (.bool true)/\BackR w' base gy q x p m cc pace many/\Bel2 base w w':=by
 have hs:=hst.hs;have HY:=aT Y;have HST:=aT hst;have HRB:=aT hRB;have F0:Below w.heap.size w (w.alloc (.cells #[I kind,I N,.slice C q9 e9,.slice Bx nb nd] 75))/\Blk (w.alloc (.cells #[I kind,I N,.slice C q9 e9,.slice Bx nb nd] 75)) w.heap.size 75 [I kind,I N,.slice C q9 e9,.slice Bx nb nd]:=⟨bc,Blk.top _ rfl rfl⟩;clear hst Y hRB;go_enter Tryz.func40,Tryz.ntmps40;go_upto_region 1 with fail;refine eG (fun W=>Below w.heap.size w W/\Blk W w.heap.size 75 [I kind,I N,.slice C q9 e9,.slice Bx nb nd]) F0 ?_;clear F0;intro w1 ⟨hb1,hx1⟩;have hgx:base<=w.heap.size:=hs;generalize hgn:w.heap.size=gx at *;have hgn:=aT hgn;have hb9:Below w1.heap.size w1 w1.drew:=Below.drew (Below.refl _ _);have Y1:=aT (HY.out.below (by rw[hgn.out];exact hb1) (by rw[hgn.out];exact hs));have B1:=aT (Bel2.of (by rw[hgn.out];exact hb1) (by rw[hgn.out];exact hs));have S1:=aT (HST.out.below (by rw[hgn.out];exact hb1));have X1:=aT hx1;have cC:=aT (show ∀ (W:World) (k':Nat) (all':List (List Int)) (c':Nat),Below base w1 W->gV W base q p m c' pace many k' all' ran->Ca 43 #[.pointer (some ⟨q.d,0,none⟩),.slice Bx nb nd] W fun e' w'=>e'=.returned (.tuple #[])/\gw w' base q p m c' pace many true k' all' ran/\Step mutE base q W w' from
  fun W k' all' c' hb h=>t_crash h Bx nb nd bs (HRB.out _ (B1.out.bel.trans hb)) hBx hnb)
 obtain⟨y0,_,_,_,_,_,_,_,_,_,_⟩:=eW Y1.out.blk;have z3:=X1.out.c3;clear hb1 hx1;go_region_held3 (fun w'=>w'.cell? ⟨gy,0,none⟩=some (.pointer (some ⟨q.d,0,none⟩))/\w'.cell? ⟨gx,3,none⟩=some (.slice Bx nb nd)) (first | go_keep | (refine⟨?_,?_⟩ <;> assumption)) (first | ((go_at_call 43;(with_reducible refine (cC.out _ _ _ _ (hb9.mono S1.out.hs) (S1.out.below hb9)).mono ?_);rintro e w2 ⟨rfl,r2,s2⟩);obtain⟨D9,hd9,_⟩:=(S1.out.below hb9).ex;have Y2:=aT ((Y1.out.below hb9 S1.out.hs).step hd9 s2);have B2:=aT ((Bel2.of hb9 S1.out.hs).trans (Bel2.step hd9 s2));have R2:=aT r2;have X2:=aT (hd9.blk (X1.out.below hb9 X1.out.lt) s2.tch aV);clear hd9 r2 s2;obtain⟨y0,_,_,_,_,_,_,_,_,_,_⟩:=eW Y2.out.blk;have z3:w2.cell? ⟨gx,3,none⟩=some (.slice Bx nb nd):=X2.out.cell 3) | fail);have b29:Below w2.heap.size w2 w2.drew:=Below.drew (Below.refl _ _);have z1:=X2.out.c1;have c2:=t_cutR (R2.out.below b29) N hN;clear z3 hb9;go_wp2_with fail;go_region_held3 (fun w'=>w'.cell? ⟨gy,0,none⟩=some (.pointer (some ⟨q.d,0,none⟩))/\w'.cell? ⟨gx,1,none⟩=some (I N)) (first | go_keep | (refine⟨?_,?_⟩ <;> assumption)) (first | ((go_at_call 42;(with_reducible refine (c2).mono ?_);rintro e w3 ⟨rfl,r3,s3⟩);obtain⟨D9,hd9⟩:=(R2.out.below b29).disk;have Y3:=aT ((Y2.out.below b29 R2.out.hs).step hd9 s3);have B3:=aT (B2.out.trans ((Bel2.of b29 R2.out.hs).trans (Bel2.step hd9 s3)));have R3:=aT r3;have X3:=aT (hd9.blk (X2.out.below b29 X2.out.lt) s3.tch aV);clear hd9 r3 s3;obtain⟨y0,y1,y2,y3,y4,y5,y6,_,_,_,_⟩:=eW Y3.out.blk;have z1:w3.cell? ⟨gx,1,none⟩=some (I N):=X3.out.cell 1) | fail);clear z1 b29 c2;have b39:Below w3.heap.size w3 w3.drew:=Below.drew (Below.refl _ _);have c3:=t_open2 V (R3.out.below b39) ((Y3.out.below b39 R3.out.hs).pr _ (Below.refl _ _)) aS;generalize hcm:decide (N<=-1)=cm at *;clear hcm;go_wp2_with fail;go_region_held3 (fun w'=>w'.cell? ⟨gy,0,none⟩=some (.pointer (some ⟨q.d,0,none⟩))/\w'.cell? ⟨gy,1,none⟩=some (.slice x.A1 x.n1 x.c1)/\w'.cell? ⟨gy,2,none⟩=some (.slice x.A2 x.n2 x.c2)/\w'.cell? ⟨gy,3,none⟩=some (I p.regs)/\w'.cell? ⟨gy,4,none⟩=some (.slice x.A3 x.n3 x.c3)/\w'.cell? ⟨gy,5,none⟩=some (.slice x.A4 x.n4 x.c4)/\w'.cell? ⟨gy,6,none⟩=some (I pace)) (first | go_keep | (refine⟨?_,?_,?_,?_,?_,?_,?_⟩ <;> assumption)) (first | ((go_at_call 25;(with_reducible refine (c3).mono ?_);rintro e w4 ⟨s4,P4,z4,rfl,o4⟩);obtain⟨D9,hd9⟩:=(R3.out.below b39).disk;have Y4:=aT ((Y3.out.below b39 R3.out.hs).step hd9 s4);have B4:=aT (B3.out.trans ((Bel2.of b39 R3.out.hs).trans (Bel2.step hd9 s4)));have O4:=aT o4;have X4:=aT (hd9.blk (X3.out.below b39 X3.out.lt) s4.tch aV);clear hd9 o4 s4;obtain⟨y0,y1,y2,y3,y4,y5,y6,_,_,_,_⟩:=eW Y4.out.blk) | fail);clear c3 b39;have hSl:=Y4.out.sure.len.1;go_upto_if 46 with fail;go_cut [5,6] (fun a b wx=>∃ (g nx:Nat) (rep:Int) (cm':Bool),a=.pointer (some ⟨g,0,none⟩)/\b=I 0/\n<=nx/\nx<=(S ++ may).length/\0<=rep/\rep<=pace+(nx:Int) - ran/\Hid (StOn wx base q g p m (cc+4000) pace many cm' ((S ++ may).take nx) nx rep)/\Hid (dH wx base gy q x p pace gp A n c B k e ran S may)/\Hid (Bel2 base w1 wx))
 case first=>
  rcases O4.out with ⟨rfl,g,nx,rep,rfl,h1,h2,h3,h4,h5⟩ | ⟨rfl,rfl,hcm,k',nx,h1,h2,h3,h5⟩
  · have H5:=aT (h5.more (c':=cc+4000) aS);clear h5 O4;go_wp2_with fail;go_meet;exact⟨g,nx,rep,cm,rfl,rfl,h1,h2,h3,h4,H5.out,Y4.out,B4.out⟩
  · have S4:=aT h5;have b49:Below w4.heap.size w4 w4.drew:=Below.drew (Below.refl _ _);have z3:=X4.out.c3;have c5:=cC.out _ _ _ _ (B4.out.bel.trans (b49.mono S4.out.hs)) (S4.out.below b49);clear h5 O4;go_wp2_with fail;go_region_held3 (fun w'=>w'.cell? ⟨gy,0,none⟩=some (.pointer (some ⟨q.d,0,none⟩))/\w'.cell? ⟨gx,3,none⟩=some (.slice Bx nb nd)) (first | go_keep | (refine⟨?_,?_⟩ <;> assumption)) (first | ((go_at_call 43;(with_reducible refine (c5).mono ?_);rintro e w5 ⟨rfl,r5,s5⟩);obtain⟨D9,hd9⟩:=(S4.out.below b49).disk;have Y5:=aT ((Y4.out.below b49 S4.out.hs).step hd9 s5);have B5:=aT (B4.out.trans ((Bel2.of b49 S4.out.hs).trans (Bel2.step hd9 s5)));have R5:=aT r5;have X5:=aT (hd9.blk (X4.out.below b49 X4.out.lt) s5.tch aV);clear hd9 r5 s5;obtain⟨y0,y1,y2,y3,y4,y5,y6,_,_,_,_⟩:=eW Y5.out.blk;have z3:w5.cell? ⟨gx,3,none⟩=some (.slice Bx nb nd):=X5.out.cell 3) | fail);clear z3 c5 b49;have b59:Below w5.heap.size w5 w5.drew:=Below.drew (Below.refl _ _);have c6:=t_open2 V (R5.out.below b59) ((Y5.out.below b59 R5.out.hs).pr _ (Below.refl _ _)) aS;go_wp2_with fail;go_region_held3 (fun w'=>w'.cell? ⟨gy,0,none⟩=some (.pointer (some ⟨q.d,0,none⟩))/\w'.cell? ⟨gy,1,none⟩=some (.slice x.A1 x.n1 x.c1)/\w'.cell? ⟨gy,2,none⟩=some (.slice x.A2 x.n2 x.c2)/\w'.cell? ⟨gy,3,none⟩=some (I p.regs)/\w'.cell? ⟨gy,4,none⟩=some (.slice x.A3 x.n3 x.c3)/\w'.cell? ⟨gy,5,none⟩=some (.slice x.A4 x.n4 x.c4)/\w'.cell? ⟨gy,6,none⟩=some (I pace)) (first | go_keep | (refine⟨?_,?_,?_,?_,?_,?_,?_⟩ <;> assumption)) (first | ((go_at_call 25;(with_reducible refine (c6).mono ?_);rintro e w6 ⟨s6,P6,z6,rfl,o6⟩);obtain⟨D9,hd9⟩:=(R5.out.below b59).disk;have Y6:=aT ((Y5.out.below b59 R5.out.hs).step hd9 s6);have B6:=aT (B5.out.trans ((Bel2.of b59 R5.out.hs).trans (Bel2.step hd9 s6)));have O6:=aT o6;clear hd9 o6 s6;obtain⟨y0,y1,y2,y3,y4,y5,y6,_,_,_,_⟩:=eW Y6.out.blk) | fail);clear c6 b59;rcases O6.out with ⟨rfl,g,nx2,rep,rfl,i1,i2,i3,i4,i5⟩ | ⟨rfl,rfl,hcm2,_⟩
    · have H5:=aT (i5.more (c':=cc+4000) aS);rw[aA] at i2;rw[List.take_take,Nat.min_eq_left aS] at H5;clear i5 O6;go_wp2_with fail;go_meet;exact⟨g,nx2,rep,true,rfl,rfl,aS,by omega,i3,i4,H5.out,Y6.out,B6.out⟩
    · exact absurd hcm2 aV
 case rest=>
  obtain⟨g,nx,rep,cm',rfl,rfl,n1,n2,n3,n4,hO,hY,hB⟩:=hcut;clear O4 Y4 B4 X4 R3 Y3 B3 X3 R2 Y2 B2 X2 Y1 X1 S1 cC y0 y1 y2 y3 y4 y5 y6
  rename World=>w7
  have hRl:((S ++ may).take nx).length=nx:=by rw[aA];omega
  have hRs:=aT (told_sure (may:=may) hSl n1);have hRm:=aT (told_may (may:=may) hSl n1);have hml:=hY.out.may.len.1;rw[az,hSl,hml] at n2 h10;generalize (S ++ may).take nx=R at *;subst hRl;obtain⟨y0,y1,y2,y3,y4,y5,y6,y7,y8,y9,y10⟩:=eW hY.out.blk;have c9:=t_cut hO.out (-1) aS;rw[show decide ((-1:Int)<=-1)=true from rfl] at c9;go_upto_region 12 with (first | ((go_at_call 42;(with_reducible refine (c9).mono ?_);rintro e w8 ⟨rfl,o8,s8⟩);obtain⟨D9,hd9⟩:=hO.out.disk;have O8:=aT o8;have Y8:=aT (hY.out.step hd9 s8);have B8:=aT (hB.out.trans (Bel2.step hd9 s8));clear o8 s8 hd9) | ((go_at_call 132;(with_reducible refine (inputs_any V O8.out).mono ?_);rintro e w9 ⟨Ai,ci,rfl,ri,o9,s9⟩);obtain⟨D9,hd9⟩:=O8.out.disk;have O9:=aT o9;have Y9:=aT (Y8.out.step hd9 s9);have B9:=aT (B8.out.trans (Bel2.step hd9 s9));have I9:=aT (ri.rowsIn O8.out.hs);clear o9 s9 hd9 ri) | ((go_at_call 34;(with_reducible refine (outputs_any V O9.out).mono ?_);rintro e w10 ⟨Ao,co,rfl,ro,o10,s10⟩);obtain⟨D9,hd9⟩:=O9.out.disk;have O10:=aT o10;have Y10:=aT (Y9.out.step hd9 s10);have B10:=aT (B9.out.trans (Bel2.step hd9 s10));have I10:=aT (I9.out.step hd9 s10 aV aV);have U10:=aT (ro.rowsIn O9.out.hs);clear o10 s10 hd9 ro) | fail);clear y0 y1 y2 y3 y4 y5 y6 y7 y8 y9 y10 c9 O8 Y8 B8 O9 Y9 B9 I9 hO hY hB;obtain⟨y0,y1,y2,y3,y4,y5,y6,y7,y8,y9,y10⟩:=eW Y10.out.blk;have b109:Below w10.heap.size w10 w10.drew:=Below.drew (Below.refl _ _);obtain⟨_,hic,hicm⟩:=I10.out.len;obtain⟨_,hsc,hscm⟩:=Y10.out.sure.len;obtain⟨_,hmc,hmcm⟩:=Y10.out.may.len;have hcutA:∀ W,(Instr.slice 57 (.slice Ai R.length ci) none (some (I (n:Nat))) none).run Tryz.prog W=.ok (.slice Ai n ci) W:=fun W=>kM kJ Ai R.length ci n aS W
  have hsame:=pg Ai A n n ci c (R.take n) S w10.drew ((I10.out.below b109).cut n1).rd (Y10.out.sure.below b109).rd aS aS;rw[hRs.out,am (rfl:S=S)] at hsame;have hd:decide (R.length<n)=false:=aj aS;refine wp_region_held_drew (S:=fun w'=>w'.cell? ⟨gy,8,none⟩=some (.slice A n c)) bP y8 (fun hHeld=>?_);refine aU 0 ?_;refine aU 1 ?_;refine aU 2 ?_;refine aU 3 ?_;refine aU 4 ?_;refine aU 5 ?_;refine aU 6 ?_;refine aU 7 ?_;refine aU 8 ?_;refine aU 9 ?_;refine aU 10 ?_;refine aU 11 ?_;refine aU 12 ?_;refine aU 13 ?_;refine aU 14 ?_;refine aU 15 ?_;refine aU 16 ?_;refine aU 17 ?_;refine aU 18 ?_;refine aU 19 ?_;refine aU 20 ?_;refine aU 21 ?_;refine aU 22 ?_;refine aU 23 ?_;refine aU 24 ?_;refine aU 25 ?_;refine aU 26 ?_;refine aU 27 ?_;refine bQ 28 (fun K hK=>?_);go_simp
  (go_at_call 36;(with_reducible refine (hsame).mono ?_);rintro e w11 ⟨rfl,b11⟩)
  have b11':=b109.trans (b11.mono b109.size);have O11:=aT (O10.out.below b11');have Y11:=aT (Y10.out.below b11' O10.out.hs);have B11:=aT (B10.out.trans (Bel2.of b11' O10.out.hs));have I11:=aT (I10.out.below b11');have U11:=aT (U10.out.below b11');clear b11 b11';clear y0 y1 y2 y3 y4 y5 y6 y7 y8 y9 y10;obtain⟨y0,y1,y2,y3,y4,y5,y6,y7,y8,y9,y10⟩:=eW Y11.out.blk;refine hK.out _ _ (y8) (fun hHeld=>?_);clear hK K;refine bI ?_;refine aU 29 ?_;refine aU 30 ?_;refine wpAnyH_done bR ?_ _;clear hsame hcutA b109 hd;obtain⟨At,hcutB,hrt⟩:=rowsTail I11.out.rd hic n1;have hRT:=aT hrt;have hcutC:∀ W,(Instr.slice 57 (.slice B k e) none (some (I ((R.length - n:Nat):Int))) none).run Tryz.prog W=.ok (.slice B (R.length - n) e) W:=fun W=>kM kJ B k e (R.length - n) aS W
  have hsame:=pg At B (R.length - n) (R.length - n) (ci - n) e (R.drop n) (may.take (R.length - n)) w11 hRT.out (Y11.out.may.cut aS).rd aS aS;rw[hRm.out,am (rfl:may.take (R.length - n)=may.take (R.length - n))] at hsame;have hmk:¬ k<R.length - n:=aS;have hmk2:decide (k<R.length - n)=false:=aj hmk;clear hrt;go_upto_region 17 with (first | ((go_at_call 36;(with_reducible refine (hsame).mono ?_);rintro e w12 ⟨rfl,b12⟩);have O12:=aT (O11.out.below b12);have Y12:=aT (Y11.out.below b12 O11.out.hs);have B12:=aT (B11.out.trans (Bel2.of b12 O11.out.hs));have I12:=aT (I11.out.below b12);have U12:=aT (U11.out.below b12);clear b12;clear y0 y1 y2 y3 y4 y5 y6 y7 y8 y9 y10;obtain⟨y0,y1,y2,y3,y4,y5,y6,y7,y8,y9,y10⟩:=eW Y12.out.blk) | fail);clear hsame hcutB hcutC hRT hmk hmk2;have hrok:=O12.out.le.2.2.2.2;have cR:=refrows_any V.g hrok (Y12.out.pr w12 (Below.refl _ _)).rd Ai R.length ci I12.out.rd aS;clear hrok;go_upto_region 19 with (first | ((go_at_call 35;(with_reducible refine (cR).mono ?_);rintro e w13 ⟨Aw,cw,A2w,n2w,c2w,rfl,r13,o13,b13⟩);have O13:=aT (O12.out.below b13);have Y13:=aT (Y12.out.below b13 O12.out.hs);have B13:=aT (B12.out.trans (Bel2.of b13 O12.out.hs));have I13:=aT (I12.out.below b13);have U13:=aT (U12.out.below b13);have W13:=aT r13.rd;clear b13 r13 o13) | ((go_at_call 29;(with_reducible refine (t_stat O13.out).mono ?_);rintro e w14 ⟨pa,sv,rfl,pa0,pa1,pa2,sv0,sv1,b14⟩);have O14:=aT (O13.out.below b14);have Y14:=aT (Y13.out.below b14 O13.out.hs);have B14:=aT (B13.out.trans (Bel2.of b14 O13.out.hs));have I14:=aT (I13.out.below b14);have U14:=aT (U13.out.below b14);have W14:=aT (W13.out.below b14 aW);clear b14) | fail);refine eG (fun W=>Below w14.heap.size w14 W/\Blk W w14.heap.size 54 [I (R.length:Nat),I (R.length:Nat),I (R.length:Nat),I pa,I rep,I sv]) ⟨bc,Blk.top _ rfl rfl⟩ ?_;intro w15 ⟨b15,hgs⟩;have O15:=aT (O14.out.below b15);have Y15:=aT (Y14.out.below b15 O14.out.hs);have B15:=aT (B14.out.trans (Bel2.of b15 O14.out.hs));have I15:=aT (I14.out.below b15);have U15:=aT (U14.out.below b15);have W15:=aT (W14.out.below b15 aW);generalize w14.heap.size=gs at *;clear b15 cR O12 Y12 B12 I12 U12 O13 Y13 B13 I13 U13 W13 O14 Y14 B14 I14 U14 W14 O11 Y11 B11 I11 U11 O10 Y10 B10 I10 U10 y0 y1 y2 y3 y4 y5 y6 y7 y8 y9 y10;obtain⟨y0,y1,y2,y3,y4,y5,y6,y7,y8,y9,y10⟩:=eW Y15.out.blk;have z2:=hgs.c2;have z3:=hgs.c3;have z4:=hgs.c4;have HGS:=aT hgs;have b159:Below w15.heap.size w15 w15.drew:=Below.drew (Below.refl _ _);have hsame:=pg Ao Aw R.length R.length co cw _ _ w15.drew (U15.out.below b159).rd (W15.out.below b159 aW) bM bM;rw[am (rfl:cN p R R.length=cN p R R.length)] at hsame;have hw1:IntKind.i64.wrap (pace+(R.length:Int))=pace+(R.length:Int):=by rw[IntKind.wrap_i64];omega
  have hw2:IntKind.i64.wrap (pace+(R.length:Int) - ran)=pace+(R.length:Int) - ran:=by rw[IntKind.wrap_i64];omega
  have hg1:decide (pace+(R.length:Int) - ran<rep)=false:=aj aS;have hg2:decide (pace<=pa)=false:=aj aS;refine wp_region_held_drew (S:=fun w'=>w'.cell? ⟨gs,2,none⟩=some (I (R.length:Nat))/\w'.cell? ⟨gs,3,none⟩=some (I pa)/\w'.cell? ⟨gs,4,none⟩=some (I rep)/\w'.cell? ⟨gy,6,none⟩=some (I pace)/\w'.cell? ⟨gy,10,none⟩=some (I ran)) bP ⟨z2,z3,z4,y6,y10⟩ (fun hHeld=>?_);refine aU 0 ?_;refine aU 1 ?_;refine bQ 2 (fun K hK=>?_);go_simp
  (go_at_call 36;(with_reducible refine (hsame).mono ?_);rintro e w16 ⟨rfl,b16⟩)
  have b16':=b159.trans (b16.mono b159.size);have O16:=aT (O15.out.below b16');have Y16:=aT (Y15.out.below b16' O15.out.hs);have B16:=aT (B15.out.trans (Bel2.of b16' O15.out.hs));have I16:=aT (I15.out.below b16');have G16:=aT (HGS.out.below b16' HGS.out.lt);clear y0 y1 y2 y3 y4 y5 y6 y7 y8 y9 y10 z2 z3 z4 b16 b16' hsame b159 hgs;obtain⟨y0,y1,y2,y3,y4,y5,y6,y7,y8,y9,y10⟩:=eW Y16.out.blk;have z2:=G16.out.c2;have z3:=G16.out.c3;have z4:=G16.out.c4;refine hK.out _ _ (⟨z2,z3,z4,y6,y10⟩) (fun hHeld=>?_);clear hK K;refine bI ?_;refine aU 3 ?_;refine aU 4 ?_;refine aU 5 ?_;refine aU 6 ?_ (hy:=Or.inl ⟨by rfl,by (exact kN)⟩);refine aU 7 ?_;refine aU 8 ?_;refine aU 9 ?_;refine aU 10 ?_;refine aU 11 ?_;refine aU 12 ?_;refine aU 13 ?_ (hy:=Or.inl ⟨by rfl,by (exact kN)⟩);refine aU 14 ?_;refine aU 15 ?_;refine aU 16 ?_;refine aU 17 ?_ (hy:=Or.inl ⟨by rfl,by (exact kN)⟩);refine aU 18 ?_;refine aU 19 ?_;refine aU 20 ?_;refine aU 21 ?_;refine aU 22 ?_;refine aU 23 ?_;refine aU 24 ?_ (hy:=Or.inl ⟨by rfl,by (exact kN)⟩);refine aU 25 ?_;refine aU 26 ?_;refine aU 27 ?_;refine aU 28 ?_;refine aU 29 ?_;refine aU 30 ?_ (hy:=Or.inl ⟨by rfl,by (exact kN)⟩);refine aU 31 ?_;refine aU 32 ?_;refine aU 33 ?_;refine aU 34 ?_ (hy:=Or.inl ⟨by rfl,by (exact kN)⟩);refine aU 35 ?_;refine aU 36 ?_;refine wpAnyH_done bR ?_ _;have f7:=Y16.out.blk.frozen 7;have f8:=Y16.out.blk.frozen 8;have f9:=Y16.out.blk.frozen 9;have f10:=Y16.out.blk.frozen 10;go_wp2_with fail;have hfin:=back_set Y16.out O16.out I16.out;generalize (((w16.setCell ⟨gy,7,none⟩ (.pointer (some ⟨g,0,none⟩))).setCell ⟨gy,8,none⟩ (.slice Ai R.length ci)).setCell ⟨gy,9,none⟩ (.slice none 0 0)).setCell ⟨gy,10,none⟩ (I (R.length:Nat))=w17 at *;go_ret;exact⟨rfl,⟨g,Ai,R.length,ci,rep,R,hfin.1,hfin.2.1⟩,(B1.out.trans B16.out).trans hfin.2.2⟩
end
