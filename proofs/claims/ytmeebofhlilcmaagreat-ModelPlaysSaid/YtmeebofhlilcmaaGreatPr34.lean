/- Parts. -/
import Derived.Test.YtmeebofhlilcmaaGreatPr33
set_option linter.unusedVariables false
set_option linter.unusedSimpArgs false
set_option maxRecDepth 100000
set_option maxHeartbeats 0
namespace Go.Proofs.YtmeebofhlilcmaaGreat
variable {H m9:Nat} {pace9:Int}
open Go.RowKit
structure SeeIn (w0 w:World)(base gm g m:Nat)(q:bE)(D:aX)(y:PA)(p:PV)(pace:Int)(A:Option Addr)(n c:Nat)(S:List (List Int))(B:Option Addr)(k e:Nat)(T:List (List Int))(M:MV)(R:Option Addr)(r:Nat)(l:List Int)(ge gr:Nat)(v0 v1 v2 v3 z0 z1:Value):Prop where
 hX:MdX w base gm g y p A n c S B k e T (mdC g m pace A n c B k e M)
 hD:be w base q D
 hT:cB base q w0 w
 hL:cK w base R r l
 hE:Blk w ge 98 [v0,v1,v2,v3]
 hR:Blk w gr 100 [z0,z1]
 hs:base<=w.heap.size
def SeeC (w:World)(gm g m:Nat)(pace:Int)(A:Option Addr)(n c:Nat)(B:Option Addr)(k e:Nat)(M:MV)(ge gr:Nat)(v0 v1 v2 v3 z0 z1:Value):Prop :=
 (w.cell? ⟨gm,0,none⟩=some (.pointer (some ⟨g,0,none⟩))/\w.cell? ⟨gm,1,none⟩=some (I (m:Nat))/\w.cell? ⟨gm,2,none⟩=some (I pace)/\w.cell? ⟨gm,3,none⟩=some (.slice A n c)/\w.cell? ⟨gm,4,none⟩=some (.slice B k e)/\w.cell? ⟨gm,5,none⟩=some (I M.ran)/\w.cell? ⟨gm,6,none⟩=some (.bool M.armed)/\w.cell? ⟨gm,7,none⟩=some (.bool M.off)/\w.cell? ⟨gm,8,none⟩=some (.bool M.down)/\w.cell? ⟨gm,9,none⟩=some (.bool M.opn)) /\
  gm<w.heap.size/\w.frozen? ⟨gm,6,none⟩=false/\(w.cell? ⟨ge,0,none⟩=some v0/\w.cell? ⟨ge,1,none⟩=some v1/\w.cell? ⟨ge,2,none⟩=some v2/\w.cell? ⟨ge,3,none⟩=some v3)/\(w.cell? ⟨gr,0,none⟩=some z0/\w.cell? ⟨gr,1,none⟩=some z1)/\ge<w.heap.size/\gr<w.heap.size
section
variable {w0 w w':World} {base gm g m n c k e r ge gr:Nat} {q:bE} {D:aX} {y:PA} {p:PV} {pace:Int} {A B R:Option Addr} {S T:List (List Int)} {M:MV} {l:List Int} {v0 v1 v2 v3 z0 z1:Value}
theorem SeeIn.cells (h:SeeIn w0 w base gm g m q D y p pace A n c S B k e T M R r l ge gr v0 v1 v2 v3 z0 z1):SeeC w gm g m pace A n c B k e M ge gr v0 v1 v2 v3 z0 z1 :=
 ⟨fu h.hX.blk,h.hX.blk.lt,h.hX.blk.frozen 6,⟨h.hE.c0,h.hE.c1,h.hE.c2,h.hE.c3⟩,⟨h.hR.c0,h.hR.c1⟩,h.hE.lt,h.hR.lt⟩
theorem SeeIn.next (h:SeeIn w0 w base gm g m q D y p pace A n c S B k e T M R r l ge gr v0 v1 v2 v3 z0 z1)(b:Below w.heap.size w w'):SeeIn w0 w' base gm g m q D y p pace A n c S B k e T M R r l ge gr v0 v1 v2 v3 z0 z1 :=
 ⟨h.hX.below b,h.hD.below b,h.hT.trans (cB.of_below (q:=q) b h.hs),h.hL.below b,h.hE.below b h.hE.lt,h.hR.below b h.hR.lt,ae h.hs b.size⟩
theorem see_world {P:Program}{O:Code}{Q:Exit->Act->World->Prop}{a:Act}(h:MdX w base gm g y p A n c S B k e T (mdC g m pace A n c B k e M))(hd:be w base q D)(hs:base<=w.heap.size)(hl:cK w base R r l)(hk:∀ W,SeeIn w W base gm g m q D y p pace A n c S B k e T M R r l w.heap.size (w.heap.size+1) v0 v1 v2 v3 z0 z1->O.wp P Q a W) :
 O.wp P Q a ((w.alloc (.cells #[v0,v1,v2,v3] 98)).alloc (.cells #[z0,z1] 100)):=by
 have b1:Below w.heap.size w ((w.alloc (.cells #[v0,v1,v2,v3] 98)).alloc (.cells #[z0,z1] 100)):=bc;exact hk _ ⟨h.below b1,hd.below b1,cB.of_below (q:=q) b1 hs,hl.below b1,bI,bI,ae hs b1.size⟩
theorem scright_b {kd nn:Int}{C:Option Addr}{r' c1 c1':Nat}{b:Bool}(h:eZ kd nn r c1=b)(W:World):Ca 133 #[.agg #[I kd,I nn,.slice R r r',.slice C c1 c1']] W fun e w'=>e=.returned (.bool b)/\Below W.heap.size W w':=by
 rw[<- h];exact lX
end
section
variable {w w':World} {base gm m:Nat} {q:bE} {D:aX} {p:PV} {pace v z kd nn:Int} {R C:Option Addr} {M M':MV} {r r' c1 c1':Nat} {l:List Int}
theorem mdsee_any (h:MdSt w base gm p m pace M)(hd:be w base q D)(hs:base<=w.heap.size)(hl:cK w base R r l)(hr2:r<=100000)(hS:SeeR m p pace kd nn l c1 M v z M')(hr:0<=M.ran/\M.ran<=(M.sure.length:Int))(hn:M.sure.length<=100000)(hk:M.may.length<=100000)(hp:0<=pace/\pace<=100000) :
 Ca 59 #[.pointer (some ⟨gm,0,none⟩),.agg #[I kd,I nn,.slice R r r',.slice C c1 c1'],.agg #[I z,I v]] w fun e' w'=>e'=.returned (.bool true)/\MdSt w' base gm p m pace M'/\cB base q w w':=by
 obtain⟨g,y,A,n,c,B,k,e,h⟩:=h;have e1:l.length=r:=hl.1.1;have e2:M.sure.length=n:=h.sure.1;have e3:M.may.length=k:=h.may.1;have hr0:r<=maxLen:=hl.len;rw[e2] at hr hn;rw[e3] at hk;have hr9:0<=M.ran/\M.ran<=100000:=aS;unfold SeeR at hS;rw[e1,e2,e3] at hS;clear e1 e2 e3;rcases hS with ⟨hR,rfl,rfl,rfl⟩ | ⟨hR,rfl,rfl,h0,h1,rfl⟩ | ⟨hR,rfl,h0,rfl,rfl,rfl⟩ | ⟨hR,rfl,ho,rfl,rfl,rfl⟩ | ⟨hR,rfl | rfl | rfl,ho,hdn,rfl,rfl,rfl⟩ | ⟨hR,rfl | rfl | rfl,ho,hdn,hof,rfl,rfl,rfl⟩ | ⟨hR,ho,hdn,hof,⟨rfl,hf,rfl,rfl,rfl⟩ | ⟨rfl,hf,hnm,rfl,rfl,rfl⟩ | ⟨rfl,hf,hnm,rfl,rfl,rfl⟩ | ⟨rfl,hf,hnm,rfl,rfl,ha,rfl⟩ | ⟨rfl,rfl,hv,rfl⟩ | ⟨rfl,rfl,hv0,hv,ha,rfl⟩ | ⟨rfl,rfl,rfl,rfl⟩ | ⟨rfl,rfl,rfl,ha,rfl⟩⟩
 all_goals (
  (try have hnn:0<=nn:=by have:=jP.1 hR;omega)
  (try have ccr:=aT (fun (W:World) (X:MdX W base gm g y p A n c M.sure B k e M.may (mdC g m pace A n c B k e M)) (D9:be W base q D) (hs9:base<=W.heap.size)=>mdcrash_ok nn X D9 hs9 h0 h1 hr9 hn hk hp))
  (try have ccr:=aT (fun (W:World) (X:MdX W base gm g y p A n c M.sure B k e M.may (mdC g m pace A n c B k e M)) (D9:be W base q D) (hs9:base<=W.heap.size)=>mdcrash_pow nn X D9 hs9 h0 hr9 hn hk hp))
  (try have crn:=aT (fun (W:World) (X:MdX W base gm g y p A n c M.sure B k e M.may (mdC g m pace A n c B k e M)) (D9:be W base q D) (hs9:base<=W.heap.size)=>mdrun_ok nn X D9 hs9 hv aS hr9 hn))
  (try have crn:=aT (fun (W:World) (X:MdX W base gm g y p A n c M.sure B k e M.may (mdC g m pace A n c B k e M)) (D9:be W base q D) (hs9:base<=W.heap.size)=>mdrun_pow nn X D9 hs9 ha hv0 hv hr9 hn))
  have H:=aT h;have HD:=aT hd;have HL:=aT hl;have hsr:=fun W=>scright_b (R:=R) (r':=r') (C:=C) (c1':=c1') hR W
  have heq:=fun (a b c d:Int) W=>i9 W a b c d
  clear h hd hl hR
  (try clear h0)
  (try clear h1)
  (try clear hv)
  (try clear hv0)
  (try clear hnn)
  clear hr;go_enter Tryz.func59,Tryz.ntmps59;go_upto_region 1 with fail;refine see_world H.out HD.out hs HL.out (fun w1 h1=>?_);have I1:=aT h1;clear H HD HL h1;generalize w.heap.size+1=gr at *;generalize w.heap.size=ge at *;obtain⟨⟨a0,a1,a2,a3,a4,a5,a6,a7,a8,a9⟩,hgl,f6,⟨e0,e1,e2,e3⟩,⟨x0,x1⟩,el,xl⟩:=I1.out.cells;go_wp2_with (first | ((go_at_call 133;go_call (hsr _) as e9 w2 ⟨rfl,b2⟩);have I2:=aT (I1.out.next b2);clear b2 I1 a0 a1 a2 a3 a4 a5 a6 a7 a8 a9 hgl f6 e0 e1 e2 e3 x0 x1 xl el hsr;obtain⟨⟨a0,a1,a2,a3,a4,a5,a6,a7,a8,a9⟩,hgl,f6,⟨e0,e1,e2,e3⟩,⟨x0,x1⟩,el,xl⟩:=I2.out.cells;(try rw[ho] at a9);(try rw[hdn] at a8);(try rw[hof] at a7)) | ((go_at_call 136;go_call (ccr.out _ I2.out.hX I2.out.hD I2.out.hs) as e10 w3 ⟨rfl,x3,t3⟩);have X3:=aT x3;have T3:=aT (I2.out.hT.trans t3);clear x3 t3) | ((go_at_call 138;go_call (crn.out _ I2.out.hX I2.out.hD I2.out.hs) as e10 w3 ⟨rfl,x3,t3⟩);have X3:=aT x3;have T3:=aT (I2.out.hT.trans t3);clear x3 t3) | ((go_at_call 137;(with_reducible refine (mdsub_unfit I2.out.hX I2.out.hD I2.out.hs R r r' l I2.out.hL hr0 hf).mono ?_);rintro e10 w3 ⟨rfl,x3,t3⟩);have X3:=aT x3;have T3:=aT (I2.out.hT.trans t3);clear x3 t3) | ((go_at_call 137;(with_reducible refine (mdsub_full I2.out.hX I2.out.hD I2.out.hs R r r' l I2.out.hL hr0 hf hnm).mono ?_);rintro e10 w3 ⟨rfl,x3,t3⟩);have X3:=aT x3;have T3:=aT (I2.out.hT.trans t3);clear x3 t3) | ((go_at_call 137;(with_reducible refine (mdsub_told I2.out.hX I2.out.hD I2.out.hs R r r' l I2.out.hL hr0 hf hnm hn hr2).mono ?_);rintro e10 w3 ⟨rfl,A6,c6,x3,t3⟩);have X3:=aT x3;have T3:=aT (I2.out.hT.trans t3);clear x3 t3) | ((go_at_call 137;(with_reducible refine (mdsub_mayb I2.out.hX I2.out.hD I2.out.hs R r r' l I2.out.hL hr0 hf hnm hn hr2 ha).mono ?_);rintro e10 w3 ⟨rfl,B6,k6,c6,x3,t3⟩);have X3:=aT x3;have T3:=aT (I2.out.hT.trans t3);clear x3 t3) | ((go_at_call 139;go_call (oR (v:=0) (most:=0) I2.out.hX I2.out.hD I2.out.hs ha aS aS) as e10 w3 ⟨rfl,x3,t3,_,_⟩);have X3:=aT x3;have T3:=aT (I2.out.hT.trans t3);clear x3 t3) | fail);go_ret
  first | exact⟨rfl,⟨_,_,_,_,_,_,_,_,X3.out⟩,T3.out⟩ | exact⟨rfl,⟨_,_,_,_,_,_,_,_,I2.out.hX⟩,I2.out.hT⟩ | (obtain⟨x3,t3⟩:=I2.out.hX.set1 (q:=q) I2.out.hD I2.out.hs (Below.refl _ _) 6 (.bool true);exact⟨rfl,⟨_,_,_,_,_,_,_,_,x3⟩,I2.out.hT.trans t3⟩))
end
theorem mtick_row {m g base:Nat}{p:PV}{y:PA}{pace:Int}(G:Prg p H m pace){rows:List (List Int)}(hR:dN p.ins rows){t:Nat}(ht:t<rows.length){W:World}(h:fX W base g y p)(Ac:Option Addr)(n c:Nat)(hc:RI W Ac n (de p rows t))(Ai:Option Addr)(k d:Nat)(l:List Int)(hl0:rows[t]?=some l)(hl:RI W Ai k l)(hk:k<=maxLen) :
 Ca 170 #[.pointer (some ⟨g,0,none⟩),.slice Ac n c,.slice Ai k d] W fun e w'=>∃ A1 c1 A2 n2 c2 st,e=.returned (.tuple #[.slice A1 n c1,.slice A2 n2 c2,I st,I 0])/\Ow iv w' W.heap.size 3 A1 n c1 (de p rows (t+1))/\Ow iv w' W.heap.size 3 A2 n2 c2 (dH p rows t)/\Below W.heap.size W w':=by
 obtain⟨i1,i2⟩:=oL G hR t aS;obtain⟨m1,m2⟩:=mR ht;have hll:fQ rows t=l:=by rw[m1] at hl0;injection hl0
 rw[hll] at m2;have f1:=hR.fits _ m2;have f2:=oK (hR.ints _ m2);have hn:n<=100000:=by
  have h1:=(iV.1 i1).1;have h2:=hc.1;have h3:=(dV.1 G.may).2.2.2.2.1;omega
 have e1:eQ p (de p rows t) (fQ rows t)=((goV p (de p rows t) l 0 (eP p (de p rows t))).next,(goV p (de p rows t) l 0 (eP p (de p rows t))).out,(goV p (de p rows t) l 0 (eP p (de p rows t))).steps,0):=by
  rw[hll];unfold eQ;rw[if_pos (by rw[i1,f1];rfl)]
 refine (mtick_yes h G.hv G.hw Ac n c _ hc hn Ai k d l hl hk i2 f2 i1 f1).mono fun e w' ⟨A1,c1,A2,c2,h1,h2,h3,h4⟩=>⟨A1,c1,A2,y.n2,c2,_,h1,?_,?_,h4⟩
 · have:de p rows (t+1)=(eQ p (de p rows t) (fQ rows t)).1:=rfl;rw[this,e1];exact h2
 · have:dH p rows t=(eQ p (de p rows t) (fQ rows t)).2.1:=rfl;rw[this,e1];exact h3
theorem eqfunc_any (B C:Option Addr)(n m c d:Nat)(l a:List (List Int))(w:World)(hl:eT w B n l)(ha:eT w C m a)(hn:n<=maxLen)(hm:m<=maxLen) :
 Ca 218 #[.slice B n c,.slice C m d,.func (.func 171) #[] #[]] w fun e w'=>e=.returned (.bool (decide (l=a)))/\Below w.heap.size w w':=by
 have hln:=hl.1;have han:=ha.1;unfold maxLen at hn hm
 by_cases hnm:n=m
 · subst hnm;have hnn:(((n:Nat):Int) != (n:Int))=false:=by simp
   go_enter Tryz.func218,Tryz.ntmps218;go_wp2_with fail;go_loopw [17] (fun i wr=>∃ k:Nat,k<=n/\i=I (k:Nat)/\l.take k=a.take k/\Below w.heap.size w wr) (fun i _=>n - (intOf i).toNat)
   case atStart=>exact⟨0,aS,rfl,rfl,Below.refl _ _⟩
   case round=>
    obtain⟨k,hk,rfl,htk,hbel⟩:=hrel
    by_cases hlt:k<n
    · obtain⟨_,hs,hrd,hcell⟩:=hl.below hbel aW;obtain⟨_,ks,krd,kcell⟩:=ha.below hbel aW;have hsl:k<hs.length:=by rw[hrd.1];exact hlt
      have ksl:k<ks.length:=by rw[krd.1];omega
      have hll:k<l.length:=aS;have hal:k<a.length:=aS;obtain⟨r1,x1⟩:=hcell k _ _ (ap hsl) (ap hll);obtain⟨r2,x2⟩:=kcell k _ _ (ap ksl) (ap hal);obtain⟨b1,o1,hB1,hb1,c1⟩:=hrd.2.at_ hlt;obtain⟨b2,o2,hB2,hb2,c2⟩:=krd.2.at_ (show k<n by omega);rw[ik hs k hsl] at c1;rw[ik ks k ksl] at c2;have e1:Hid (l.take (k+1)=l.take k ++ [l[k]]):=aO hll;have e2:Hid (a.take (k+1)=a.take k ++ [a[k]]):=aO hal;have e3:Hid (l[k]?=some l[k]):=ap hll;have e4:Hid (a[k]?=some a[k]):=ap hal;generalize hs[k]=h1 at *;generalize ks[k]=h2 at *;generalize l[k]=L1 at *;generalize a[k]=L2 at *;obtain⟨A1,n1,d1⟩:=h1;obtain⟨A2,n2,d2⟩:=h2;simp only[slV] at c1 c2 r1 x1 r2 x2;have hsame:=eqints_any A1 A2 n1 n2 d1 d2 L1 L2 wr r1 r2 x1;have HT:=aT htk;have HL:=aT hlt;clear hcell kcell hrd krd htk;subst hB1 hB2
      by_cases hee:L1=L2
      · have hbn:decide (L1=L2)=true:=am hee;rw[hbn] at hsame;have hnx:Hid (l.take (k+1)=a.take (k+1)):=by show _=_;rw[e1.out,e2.out,HT.out,hee]
        clear hee;go_wp2_with (first | (go_at_call 171;go_call (hsame) as e w2 ⟨rfl,q2,rfl⟩) | fail);go_roundw
        case rel=>first
         | exact⟨k+1,aS,by go_num,hnx.out,below_drewN hbel _⟩
         | ((repeat apply Exists.intro);exact⟨⟨k+1,aS,by go_num,hnx.out,below_drewN hbel _⟩,rfl⟩)
        case measure=>simp[intOf];omega
      · have hbn:decide (L1=L2)=false:=aj hee;have hno:Hid (decide (l=a)=false):=by
         show decide (l=a)=false
         rw[aE];intro e;have h0:l[k]?=a[k]?:=by rw[e]
         rw[e3.out,e4.out] at h0;injection h0 with h0;exact hee h0
        rw[hbn] at hsame;clear hee;go_wp2_with (first | (go_at_call 171;go_call (hsame) as e w2 ⟨rfl,q2,rfl⟩) | fail);go_ret;exact⟨df hno.out.symm,below_drewN hbel _⟩
    · have hk9:k=n:=aS;subst hk9;have hla:Hid (decide (l=a)=true):=by
       show decide (l=a)=true
       rw[aq];rw[au aS,au aS] at htk;exact htk
      clear htk;go_wp2_with fail;go_ret;exact⟨df hla.out.symm,hbel⟩
 · have hnn:(((n:Nat):Int) != (m:Int))=true:=by rw[ag];omega
   have hno:Hid (decide (l=a)=false):=by
    show decide (l=a)=false
    rw[aE];rintro rfl;omega
   clear hnm;go_enter Tryz.func218,Tryz.ntmps218;go_wp2_with fail;go_ret;exact⟨df hno.out.symm,Below.refl _ _⟩
theorem mW (B C:Option Addr)(n m c d:Nat)(l a:List (List Int))(w:World)(hl:eT w B n l)(ha:eT w C m a)(hn:n<=maxLen)(hm:m<=maxLen) :
 Ca 144 #[.slice B n c,.slice C m d] w fun e w'=>e=.returned (.bool (decide (l=a)))/\Below w.heap.size w w':=by
 have hq:=eqfunc_any B C n m c d l a w hl ha hn hm;clear hl ha;go_enter Tryz.func144,Tryz.ntmps144;go_wp2_with (first | (go_at_call 218;go_call (hq) as e w2 ⟨rfl,b2⟩) | fail);go_ret;exact⟨rfl,b2⟩
def MTickSays (base g:Nat)(y:PA)(p:PV)(BV GV:Nat->List Int)(rows:List (List Int))(kk:Nat):Prop:=∀ (t:Nat),t<kk->∀ (W:World),fX W base g y p->∀ (Ac:Option Addr) (n c:Nat),RI W Ac n (BV t)->∀ (Ai:Option Addr) (k d:Nat) (l:List Int),rows[t]?=some l->RI W Ai k l->k<=maxLen ->
    Ca 170 #[.pointer (some ⟨g,0,none⟩),.slice Ac n c,.slice Ai k d] W fun e w'=>∃ A1 c1 A2 n2 c2 st,e=.returned (.tuple #[.slice A1 n c1,.slice A2 n2 c2,I st,I 0])/\Ow iv w' W.heap.size 3 A1 n c1 (BV (t+1))/\Ow iv w' W.heap.size 3 A2 n2 c2 (GV t)/\Below W.heap.size W w'
section
variable {w w':World} {base gm g m n c k e:Nat} {q:bE} {D:aX} {y:PA} {p:PV} {pace v most:Int} {A B:Option Addr} {S T:List (List Int)} {cs:List Value} {M:MV} {Mt:List TypeId} {inn:List (List Int)}
theorem qi (G:Prg p H m9 pace9)(hR:dN p.ins inn)(h:MdX w base gm g y p A n c S B k e T cs)(h0:cs[0]?=some (.pointer (some ⟨g,0,none⟩)))(B0:Option Addr)(kk d0:Nat)(hl:eT w B0 kk inn)(hk:kk<=1000000) :
 Ca 143 #[.pointer (some ⟨gm,0,none⟩),.slice B0 kk d0] w fun e' w'=>∃ A c,e'=.returned (.tuple #[.slice A kk c,.bool true])/\cL w' w.heap.size A kk c (cq p inn kk)/\Below w.heap.size w w':=by
 have hlen:=hl.1;have hn3:p.cells.length<=100000:=by have:=(dV.1 G.may).2.2.2.2.1;omega
 have htick:Hid (MTickSays base g y p (de p inn) (dH p inn) inn kk):=fun t ht W h Ac n c hc Ai kk d l hl0 hl hk=>mtick_row G hR (t:=t) aS h Ac n c hc Ai kk d l hl0 hl hk
 have hL:=aT hl;have hb0:de p inn 0=fq p:=rfl;have ho0:cq p inn 0=[]:=rfl;have HS:=aT (fun t=>og p inn t);have hfir:=pS h.mach hn3;have HM:=aT h.mach;have HY:=aT h.blk;rw[<- hb0] at hfir;have c0:w.cell? ⟨gm,0,none⟩=some (.pointer (some ⟨g,0,none⟩)):=(h.blk.cell 0).trans h0;have hgl:=h.blk.lt;clear hb0 h hl hlen;generalize de p inn=BV at *;generalize cq p inn=OV at *;generalize dH p inn=GV at *;go_enter Tryz.func143,Tryz.ntmps143;go_wp2_with (first | ((go_at_call 169;go_call (hfir) as e w2 ⟨A2,c2,rfl,o2,b2⟩);have O2:=aT o2;have B2:=aT b2;clear o2 b2) | fail);go_loopw [6,7,21] (fun ce ou t wr=>∃ (j:Nat) (A:Option Addr) (c:Nat) (A2:Option Addr) (n2 c2:Nat),j<=kk/\t=I (j:Nat)/\ou=.slice A j c/\ce=.slice A2 n2 c2/\Hid (cL wr w.heap.size A j c (OV j))/\Hid (Ow iv wr w.heap.size 3 A2 n2 c2 (BV j))/\Hid (Below w.heap.size w wr)) (fun _ _ t _=>kk - (intOf t).toNat)
 case atStart=>exact⟨0,none,0,A2,y.n3,c2,aS,rfl,rfl,rfl,(by rw[ho0];exact cL.nil _ _),O2.out,B2.out⟩
 case round=>
  clear O2 B2 c0;obtain⟨j,A,c,A2,n2,c2,hj,rfl,rfl,rfl,hO,hC,hB⟩:=hrel;have c0:wr.cell? ⟨gm,0,none⟩=some (.pointer (some ⟨g,0,none⟩)):=by
   have:=(HY.out.below hB.out hgl).cell 0;rw[this];exact h0
  have hbs:=hB.out.size;have lw:gm<wr.heap.size:=aS
  by_cases hlt:j<kk
  · obtain⟨b,o,Bi,ni,di,L,hBe,hbl,hcell,hrow,hri,hnm⟩:=(hL.out.below hB.out aW).at_ hlt;have ct:=htick.out j hlt wr (HM.out.below hB.out) A2 n2 c2 hC.out.rd.ri Bi ni di L hrow hri hnm;have HS9:=aT (HS.out j);clear hri hrow htick HS;subst hBe;go_upto_region 10 with (first | ((go_at_call 170;go_call (ct) as e w5 ⟨A1',c1',A2',n2',c2',st,rfl,o1',o2',b5⟩);have N5:=aT (o1'.rebase (base':=w.heap.size) hbs);have G5:=aT (o2'.rebase (base':=w.heap.size) hbs);have R5:=aT (hO.out.below b5);have B5:=aT (hB.out.trans (b5.mono hbs));clear b5 o1' o2') | fail);obtain⟨hs,how,happ⟩:=(R5.out.below (lQ w5 ⟨A2',n2',c2'⟩)).app (h:=⟨A2',n2',c2'⟩) (G5.out.below (lQ w5 ⟨A2',n2',c2'⟩) aW);have HOW:=aT how;have HAP:=aT happ;clear how happ;have ss5:w.heap.size<=w5.heap.size:=B5.out.size;go_wp2_with (first | (at_builtin;refine dR rfl rfl jx lI (s:=.tmp 40) (N:=j+1) (L:=hs ++ [⟨A2',n2',c2'⟩]) rfl HOW.out rfl (k:=[⟨A2',n2',c2'⟩]) (lP w5 ⟨A2',n2',c2'⟩) rfl rfl bQ aS (ae ss5 (lQ w5 ⟨A2',n2',c2'⟩).size) ?_;intro A6 c6 w6 hown6 hg6 hat6 hb6) | fail);have R6:=HAP.out A6 c6 w6 hown6 hg6;rw[HS9.out] at R6;have B6:=B5.out.trans (((lQ w5 ⟨A2',n2',c2'⟩).mono ss5).trans hb6);have N6:=(N5.out.below (lQ w5 ⟨A2',n2',c2'⟩) aW).other HOW.out aU hg6;go_roundw
    case rel=>first
     | exact⟨j+1,A6,c6,A1',n2,c1',aS,by go_num,rfl,rfl,R6,N6,B6⟩
     | ((repeat apply Exists.intro);exact⟨⟨j+1,A6,c6,A1',n2,c1',aS,by go_num,rfl,rfl,R6,N6,B6⟩,rfl⟩)
    case measure=>simp[intOf];omega
  · have hk9:j=kk:=aS;subst hk9;go_wp2_with fail;go_returns;exact⟨A,c,rfl,hO.out,hB.out⟩
theorem ql (h:MdX w base gm g y p A n c S B k e T (mdC g m pace A n c B k e M))(B0:Option Addr)(kk d0:Nat)(hl:eT w B0 kk inn)(hkd:kk<=d0)(hk:kk<=1000000)(more:Bool)(h1:n<=kk)(h2:inn.take n=S)(h3:kk=n\/(more=true/\inn.drop n=T)) :
 Ca 142 #[.pointer (some ⟨gm,0,none⟩),.slice B0 kk d0,.bool more] w fun e' w'=>e'=.returned (.bool true)/\Below w.heap.size w w':=by
 have H:=aT h;have HL:=aT hl;have hnm:n<=maxLen:=ae h.sure.cap.1 h.sure.cap.2;have hkm:k<=maxLen:=ae h.may.cap.1 h.may.cap.2;have hT:T.length=k:=h.may.1;have hI:inn.length=kk:=hl.1;have hgl:=h.blk.lt;have a3:w.cell? ⟨gm,3,none⟩=some (.slice A n c):=h.blk.c3;have hcutA:∀ W,(Instr.slice 57 (.slice B0 kk d0) none (some (I (n:Nat))) none).run Tryz.prog W=.ok (.slice B0 n d0) W:=fun W=>jM jx B0 kk d0 n aS W
 have b19:Below w.heap.size w w.drew:=Below.drew (Below.refl _ _);have hsame:=mW B0 A n n d0 c (inn.take n) S w.drew ((hl.below b19 aW).take_ h1) (h.below b19).sure.rd hnm hnm;rw[am h2] at hsame;have hd:decide (kk<n)=false:=aj aS;clear h hl;go_enter Tryz.func142,Tryz.ntmps142;go_upto_region 2 with fail;refine wp_region_held_drew (S:=fun w'=>w'.cell? ⟨gm,3,none⟩=some (.slice A n c)) bM a3 (fun hHeld=>?_);refine aV 0 ?_;refine aV 1 ?_;refine aV 2 ?_;refine aV 3 ?_;refine aV 4 ?_;refine aV 5 ?_;refine aV 6 ?_;refine aV 7 ?_;refine aV 8 ?_;refine aV 9 ?_;refine aV 10 ?_;refine aV 11 ?_;refine bR 12 (fun K hK=>?_);go_simp
 (go_at_call 144;go_call (hsame) as e9 w2 ⟨rfl,b2⟩)
 have B2:=aT (b19.trans b2);have X2:=aT (H.out.below B2.out);have L2:=aT (HL.out.below B2.out aW);have a3:w2.cell? ⟨gm,3,none⟩=some (.slice A n c):=X2.out.blk.c3;refine hK.out _ _ (a3) (fun hHeld=>?_);clear hK K;refine bJ ?_;refine aV 13 ?_;refine aV 14 ?_;refine wpAnyH_done bT ?_ _;clear hsame hcutA b19 hd b2
 by_cases hkn:kk=n
 · have hkb:(((kk:Nat):Int) == (n:Nat))=true:=by rw[beq_iff_eq];omega
   clear hkn h3;go_wp2_with fail;go_ret;exact⟨rfl,B2.out⟩
 · have hkb:(((kk:Nat):Int) == (n:Nat))=false:=by rw[af];omega
   obtain⟨hm,hdr⟩:more=true/\inn.drop n=T:=h3.resolve_left hkn;subst hm;have hkl:kk - n=k:=by rw[<- hT,<- hdr,aH,hI]
   obtain⟨A',hcutB,hrt⟩:=rowsTail L2.out hkd h1;rw[hdr] at hrt;have b29:Below w2.heap.size w2 w2.drew:=Below.drew (Below.refl _ _);have hsame:=mW A' B (kk - n) k (d0 - n) e T T w2.drew (hrt.below b29 aW) (X2.out.below b29).may.rd aS hkm;rw[am (rfl:T=T)] at hsame;have a4:w2.cell? ⟨gm,4,none⟩=some (.slice B k e):=X2.out.blk.c4;have hl2:=X2.out.blk.lt;clear hrt hkn h3 hdr hkl;go_upto_region 6 with fail;refine wp_region_held_drew (S:=fun w'=>w'.cell? ⟨gm,4,none⟩=some (.slice B k e)) bM a4 (fun hHeld=>?_);refine aV 0 ?_;refine aV 1 ?_;refine aV 2 ?_;refine aV 3 ?_;refine aV 4 ?_;refine aV 5 ?_;refine aV 6 ?_;refine aV 7 ?_;refine aV 8 ?_;refine bR 9 (fun K hK=>?_);go_simp
   (go_at_call 144;go_call (hsame) as e9 w3 ⟨rfl,b3⟩)
   have B3:=aT (B2.out.trans ((b29.trans b3).mono B2.out.size));have X3:=aT (X2.out.below (b29.trans b3));have a4:w3.cell? ⟨gm,4,none⟩=some (.slice B k e):=X3.out.blk.c4;refine hK.out _ _ (a4) (fun hHeld=>?_);clear hK K;refine bJ ?_;refine aV 10 ?_;refine aV 11 ?_;refine wpAnyH_done bT ?_ _;go_wp2_with fail;go_ret;exact⟨rfl,B3.out⟩
end
def ToldIn (w wr:World)(base gm g m:Nat)(y:PA)(p:PV)(pace:Int)(q:bE)(inn:List (List Int))(B0:Option Addr)(ko d0:Nat)(M9:MV)(j:Nat):Prop :=
 ∃ (A:Option Addr) (c:Nat) (D9:aX),MdX wr base gm g y p A j c (inn.take j) none 0 0 [] (mdC g m pace A j c none 0 0 M9)/\be wr base q D9/\cB base q w wr/\cL wr base B0 ko d0 inn/\∀ b,A.map (·.block)=some b->B0.map (·.block)≠some b
section
variable {w w':World} {base gm g m n c k e:Nat} {q:bE} {D:aX} {y:PA} {p:PV} {pace v most:Int} {A B:Option Addr} {S T:List (List Int)} {cs:List Value} {M:MV} {Mt:List TypeId} {inn out:List (List Int)}
theorem mdtold_on {off:Bool}(G:Prg p H m9 pace9)(hR:dN p.ins inn)(h:MdX w base gm g y p A n c S B k e T (mdC g m pace A n c B k e M))(hd:be w base q D)(hs:base<=w.heap.size)(B0:Option Addr)(kk d0:Nat)(hl:eT w B0 kk inn)(hkd:kk<=d0)(hk:kk<=100000)(B1:Option Addr)(ko d1:Nat)(hl1:eT w B1 ko out)(hdn:M.down=false)(hop:M.opn=false)(hof:M.off=off)(h1:n<=kk)(h2:inn.take n=S)(h3:kk=n\/(off=true/\inn.drop n=T))(hot:out=cq p inn ko)(hko:ko<=kk)(hlow:M.ran<=(ko:Int))(hhigh:off=true/\ko<=n\/off=false/\(ko:Int)<=M.ran) :
 Ca 62 #[.pointer (some ⟨gm,0,none⟩),.slice B0 kk d0,.slice B1 ko d1] w fun e' w'=>e'=.returned (.bool true)/\Below w.heap.size w w':=by
 rcases hhigh with ⟨rfl,hhigh⟩ | ⟨rfl,hhigh⟩
 all_goals (
  first | (have dd2:decide ((ko:Int) > M.ran)=false:=aj aS) | (have dd2:¬ n<ko:=aS)
  have HB:=aT h;have HD:=aT hd;have HL:=aT hl;have HDN:=aT hdn;have HOP:=aT hop;have HOF:=aT hof;have HL1:=aT hl1;have hkm:kk<=maxLen:=by unfold maxLen;omega
  have dd1:decide ((ko:Int)<M.ran)=false:=aj aS;have hcwe:=ql h B0 kk d0 hl hkd aS _ h1 h2 h3;obtain⟨a0,a1,a2,a3,a4,a5,a6,a7,a8,a9⟩:=fu h.blk;have hgl:=h.blk.lt;rw[HDN.out] at a8;rw[HOP.out] at a9;rw[HOF.out] at a7;have hcou:=aT (fun (W:World) (hb:Below w.heap.size w W)=>qi G hR (h.below hb) (by rfl) B0 kk d0 (hl.below hb aW) aS);have hcsa:=aT (fun (W:World) (A5:Option Addr) (c5:Nat) (hr:eT W A5 kk (cq p inn kk)) (hr1:eT W B1 ko out)=>by
   have:=mW B1 A5 ko ko d1 c5 out ((cq p inn kk).take ko) W hr1 (hr.take_ aS) aS aS;rw[mQ p inn (show ko<=kk by omega),am hot] at this;exact this)
  clear h hd hl hl1 h1 h2 h3 hot hdn hop hof hlow hhigh
  skip
  go_enter Tryz.func62,Tryz.ntmps62;go_upto_region 4 with (first | ((go_at_call 142;go_call (hcwe) as e9 w2 ⟨rfl,b2⟩);have B2:=aT b2;clear b2) | ((go_at_call 143;go_call (hcou.out _ B2.out) as e9 w3 ⟨A5,c5,rfl,r5,b3⟩);have B3:=aT (B2.out.trans (b3.mono B2.out.size));have R5:=aT r5;have hc5:=r5.cap;clear b3 r5) | fail);clear a0 a1 a2 a3 a4 a5 a6 a7 a8 a9 hgl;have X3:=aT (HB.out.below B3.out);obtain⟨a0,a1,a2,a3,a4,a5,a6,a7,a8,a9⟩:=fu X3.out.blk;have hgl:=X3.out.blk.lt;rw[HDN.out] at a8;rw[HOP.out] at a9;rw[HOF.out] at a7;go_big_quiet (fail);have b4:=below_drewN (Below.refl w3.heap.size w3) nq;have B4:=aT (B3.out.trans (b4.mono B3.out.size));have hsa:=hcsa.out _ A5 c5 (R5.out.below b4).rd (HL1.out.below B4.out aW);have hcut:∀ W,(Instr.slice 57 (.slice A5 kk c5) none (some (I (ko:Nat))) none).run Tryz.prog W=.ok (.slice A5 ko c5) W:=fun W=>jM jx A5 kk c5 ko aS W
  clear b4 hcwe hcou hcsa;go_wp2_with (first | ((go_at_call 144;go_call (hsa) as e9 w5 ⟨rfl,b5⟩);have B5:=aT (B4.out.trans (b5.mono B4.out.size));clear b5;have X5:=aT (HB.out.below B5.out);clear a0 a1 a2 a3 a4 a5 a6 a7 a8 a9 hgl;obtain⟨a0,a1,a2,a3,a4,a5,a6,a7,a8,a9⟩:=fu X5.out.blk;have hgl:=X5.out.blk.lt;rw[HOP.out] at a9) | fail);go_ret;exact⟨rfl,B5.out⟩)
theorem mdtold_open (G:Prg p H m9 pace9)(hR:dN p.ins inn)(h:MdX w base gm g y p A n c S B k e T (mdC g m pace A n c B k e M))(hd:be w base q D)(hs:base<=w.heap.size)(B0:Option Addr)(kk d0:Nat)(hLN:Hid (∀ L ∈ inn,L.length<=100000))(hl0:cL w base B0 kk d0 inn)(hkd:kk<=d0)(hk:kk<=100000)(B1:Option Addr)(ko d1:Nat)(hl1:eT w B1 ko out)(hdn:M.down=false)(hop:M.opn=true)(h1:n<=kk)(h2:inn.take n=S)(h3:kk=n\/(true=true/\inn.drop n=T))(hot:out=cq p inn ko)(hko:ko=kk) :
 Ca 62 #[.pointer (some ⟨gm,0,none⟩),.slice B0 kk d0,.slice B1 ko d1] w fun e' w'=>e'=.returned (.bool true)/\∃ A' c',MdX w' base gm g y p A' ko c' inn none 0 0 [] (mdC g m pace A' ko c' none 0 0 { M with sure:=inn,may:=[],ran:=(ko:Nat),opn:=false })/\cB base q w w':=by
 have hl:=hl0.rd;have HI0:=aT hl0;clear hl0;have HB:=aT h;have HD:=aT hd;have HL:=aT hl;have HDN:=aT hdn;have HOP:=aT hop;have HL1:=aT hl1;have hkm:kk<=maxLen:=by unfold maxLen;omega
 have hcwe:=ql h B0 kk d0 hl hkd aS true h1 h2 h3;obtain⟨a0,a1,a2,a3,a4,a5,a6,a7,a8,a9⟩:=fu h.blk;have hgl:=h.blk.lt;rw[HDN.out] at a8;rw[HOP.out] at a9;have hcou:=aT (fun (W:World) (hb:Below w.heap.size w W)=>qi G hR (h.below hb) (by rfl) B0 kk d0 (hl.below hb aW) aS);have hcsa:=aT (fun (W:World) (A5:Option Addr) (c5:Nat) (hr:eT W A5 kk (cq p inn kk)) (hr1:eT W B1 ko out)=>by
  have:=mW B1 A5 ko ko d1 c5 out ((cq p inn kk).take ko) W hr1 (hr.take_ aS) aS aS;rw[mQ p inn (show ko<=kk by omega),am hot] at this;exact this)
 clear h hd hl hl1 h1 h2 h3 hot hdn hop  ;subst hko;go_enter Tryz.func62,Tryz.ntmps62;go_upto_region 4 with (first | ((go_at_call 142;go_call (hcwe) as e9 w2 ⟨rfl,b2⟩);have B2:=aT b2;clear b2) | ((go_at_call 143;go_call (hcou.out _ B2.out) as e9 w3 ⟨A5,c5,rfl,r5,b3⟩);have B3:=aT (B2.out.trans (b3.mono B2.out.size));have R5:=aT r5;have hc5:=r5.cap;clear b3 r5) | fail);clear a0 a1 a2 a3 a4 a5 a6 a7 a8 a9 hgl;have X3:=aT (HB.out.below B3.out);obtain⟨a0,a1,a2,a3,a4,a5,a6,a7,a8,a9⟩:=fu X3.out.blk;have hgl:=X3.out.blk.lt;rw[HDN.out] at a8;rw[HOP.out] at a9;go_big_quiet (fail);have b4:=below_drewN (Below.refl w3.heap.size w3) nq;have B4:=aT (B3.out.trans (b4.mono B3.out.size));have hsa:=hcsa.out _ A5 c5 (R5.out.below b4).rd (HL1.out.below B4.out aW);have hcut:∀ W,(Instr.slice 57 (.slice A5 ko c5) none (some (I (ko:Nat))) none).run Tryz.prog W=.ok (.slice A5 ko c5) W:=fun W=>jM jx A5 ko c5 ko aS W
 clear b4 hcwe hcou hcsa;go_upto_region 13 with (first | ((go_at_call 144;go_call (hsa) as e9 w5 ⟨rfl,b5⟩);have B5:=aT (B4.out.trans (b5.mono B4.out.size));clear b5;have X5:=aT (HB.out.below B5.out);clear a0 a1 a2 a3 a4 a5 a6 a7 a8 a9 hgl;obtain⟨a0,a1,a2,a3,a4,a5,a6,a7,a8,a9⟩:=fu X5.out.blk;have hgl:=X5.out.blk.lt;rw[HOP.out] at a9;have f3:=X5.out.blk.frozen 3;have f4:=X5.out.blk.frozen 4;have f5:=X5.out.blk.frozen 5;have f9:=X5.out.blk.frozen 9) | fail);have hs5:base<=w5.heap.size:=ae hs B5.out.size;obtain⟨x9,t9⟩:=X5.out.set4 (q:=q) (HD.out.below B5.out) hs5 (Below.refl _ _) 3 4 5 9 (.slice none 0 0) (.slice none 0 0) (I (ko:Nat)) (.bool false);obtain⟨D9,d9⟩:∃ D9,be ((((w5.setCell ⟨gm,3,none⟩ (.slice none 0 0)).setCell ⟨gm,4,none⟩ (.slice none 0 0)).setCell ⟨gm,5,none⟩ (I (ko:Nat))).setCell ⟨gm,9,none⟩ (.bool false)) base q D9:=⟨_,X5.out.set4d (HD.out.below B5.out) 3 4 5 9 (.slice none 0 0) (.slice none 0 0) (I (ko:Nat)) (.bool false)⟩;have X9:Hid (MdX _ base gm g y p none 0 0 [] none 0 0 [] (mdC g m pace none 0 0 none 0 0 { M with sure:=inn,may:=[],ran:=(ko:Nat),opn:=false })):=aT ⟨x9.blk,x9.mach,cL.nil _ _,cL.nil _ _,x9.gb,fun b h=>by cases h⟩;have I9:=aT ((HI0.out.below B5.out).step (HD.out.below B5.out) (X5.out.set4o hs5 3 4 5 9 (.slice none 0 0) (.slice none 0 0) (I (ko:Nat)) (.bool false)) aU aU);have T9:=aT ((cB.of_below (q:=q) B5.out hs).trans t9);have d9:=aT d9;clear x9 t9 X5 a0 a1 a2 a3 a4 a5 a6 a7 a8 a9 hgl f3 f4 f5 f9 HB HD HL HL1 X3 R5 hcut hsa hkm HI0;generalize (((w5.setCell ⟨gm,3,none⟩ (.slice none 0 0)).setCell ⟨gm,4,none⟩ (.slice none 0 0)).setCell ⟨gm,5,none⟩ (I (ko:Nat))).setCell ⟨gm,9,none⟩ (.bool false)=w9 at *;obtain⟨M9,hM9⟩:∃ M9:MV,M9={ M with sure:=inn,may:=[],ran:=(ko:Nat),opn:=false }:=⟨_,rfl⟩;rw[<- hM9] at X9;have HM9:=aT hM9;clear hM9;have HT0:=aT (show inn.take 0=[] from rfl);go_wp2_with fail;go_loopw [120] (fun i wr=>∃ j:Nat,j<=ko/\i=I (j:Nat)/\Hid (ToldIn w wr base gm g m y p pace q inn B0 ko d0 M9 j)) (fun i _=>ko - (intOf i).toNat)
 case atStart=>exact⟨0,aS,rfl,⟨none,0,D9,(by rw[HT0.out];exact X9.out),d9.out,T9.out,I9.out,fun b h=>by cases h⟩⟩
 case round=>
  clear X9 d9 T9 I9 B2 B3 B4 B5 hs5 hc5;obtain⟨j,hj,rfl,hin⟩:=hrel;obtain⟨A,c,D9,hX1,hD1,hT1,hI1,hN1⟩:=hin.out;have hX:=aT hX1;have hD:=aT hD1;have hT:=aT hT1;have hI:=aT hI1;have hNE:=aT hN1;clear hX1 hD1 hT1 hI1 hN1 hin;have hsr:base<=wr.heap.size:=ae hs hT.out.size
  by_cases hlt:j<ko
  · obtain⟨b,o,Bi,ni,di,L,hBe,hbl,hcell,hrow,hri,hnm⟩:=hI.out.rd.at_ hlt;have hns:=aT (show inn.take j ++ [L]=inn.take (j+1) from by rw[List.take_add_one,hrow];rfl);have hLn:=hLN.out L (List.mem_of_getElem? hrow);rw[hri.1] at hLn;have b39:Below wr.heap.size wr wr.drew:=Below.drew (Below.refl _ _);have ck3:=iZ Bi ni di L wr.drew (hri.below b39 aW) hLn;have a3:wr.cell? ⟨gm,3,none⟩=some (.slice A j c):=hX.out.blk.c3;have hgl:=hX.out.blk.lt;clear hri hrow;subst hBe;go_upto_region 16 with (first | fail);go_region_law (first | (go_simp;(go_at_call 145;go_call (ck3) as e w4 ⟨A4,d4,rfl,o4,b4⟩);have b49:=b39.trans b4;have X4:=aT (hX.out.below b49);have D4:=aT (hD.out.below b49);have I4:=aT (hI.out.below b49);have sz4:=b4.size;have hs4:base<=w4.heap.size:=ae hsr sz4;have X5:=aT (X4.out.below (eE w4 ⟨A4,ni,d4⟩));have D5:=aT (D4.out.below (eE w4 ⟨A4,ni,d4⟩));have I5:=aT (I4.out.below (eE w4 ⟨A4,ni,d4⟩));have T5:=aT ((hT.out.trans (cB.of_below b49 hsr)).trans (cB.of_below (eE w4 ⟨A4,ni,d4⟩) hs4));have c43:=X4.out.blk.c3;have l43:=X4.out.blk.lt;obtain⟨hds,how,hap⟩:=X5.out.told D5.out (ae hs4 (eE w4 ⟨A4,ni,d4⟩).size) (o4.below (eE w4 ⟨A4,ni,d4⟩) aW |>.rebase hsr);have HOW:=aT how;have HAP:=aT hap;clear how hap) | (refine eF rfl rfl jx lI (s:=.tmp 128) (N:=j+1) (L:=hds ++ [⟨A4,ni,d4⟩]) rfl HOW.out rfl (k:=[⟨A4,ni,d4⟩]) (lP w4 ⟨A4,ni,d4⟩) rfl rfl bQ aS (ae hs4 (eE w4 ⟨A4,ni,d4⟩).size) ?_;intro A6 c6 w6 hown6 hg6 hat6 hb6;obtain⟨x6,d6,s6⟩:=HAP.out A6 c6 w6 hown6 hg6 hat6;have X6:=aT x6;have D6:=aT d6;have T6:=aT (T5.out.trans s6);have I6:=aT (I5.out.beside HOW.out hNE.out hg6);have N6:=aT (I5.out.apart hNE.out hat6);have c63:=X6.out.blk.c3;have l63:=X6.out.blk.lt;have f63:=X6.out.blk.frozen 3;clear x6 d6 s6) | fail)
    all_goals
     go_wp2_with fail;have hs6:base<=w6.heap.size:=Nat.le_of_lt (Nat.lt_of_le_of_lt X6.out.gb l63);obtain⟨x7,t7⟩:=X6.out.set1 (q:=q) D6.out hs6 (Below.refl _ _) 3 (.slice A6 (j+1) c6);have d7:=D6.out.other X6.out.blk aU (i:=3) (.slice A6 (j+1) c6);have i7:=I6.out.step D6.out (Step.one (M:=[213]) (dw (k:=3) (.slice A6 (j+1) c6)) X6.out.blk (aC ..) X6.out.gb hs6) aU aU;go_roundw
     case rel=>first
      | exact⟨j+1,aS,by go_num,⟨A6,c6,D9,(by rw[<- hns.out];exact x7),d7,T6.out.trans t7,i7,N6.out⟩⟩
      | ((repeat apply Exists.intro);exact⟨⟨j+1,aS,by go_num,⟨A6,c6,D9,(by rw[<- hns.out];exact x7),d7,T6.out.trans t7,i7,N6.out⟩⟩,rfl⟩)
     case measure=>simp[intOf];omega
  · have hk9:j=ko:=aS;subst hk9;go_wp2_with fail;go_ret;have hx:=hX.out;rw[au (by rw[hI.out.1];exact Nat.le_refl _)] at hx;have hM:=HM9.out;subst hM
    first
     | exact⟨rfl,A,c,hx,hT.out⟩
     | exact⟨rfl,⟨A,c,hx⟩,hT.out⟩
end
section
variable {w w':World} {base gm m:Nat} {q:bE} {D:aX} {p:PV} {pace:Int} {M:MV} {inn out:List (List Int)} {x:PA}
theorem qm (G:Prg p H m9 pace9)(h:MdSt w base gm p m pace M)(hd:be w base q D)(hs:base<=w.heap.size)(B0:Option Addr)(kk d0:Nat)(hl:cL w base B0 kk d0 inn)(hk:kk<=100000)(B1:Option Addr)(ko d1:Nat)(hl1:eT w B1 ko out)(hT:ToldOk p M inn out)(hran:M.ran<=(M.sure.length:Int))(hLN:∀ L ∈ inn,L.length<=100000) :
 Ca 62 #[.pointer (some ⟨gm,0,none⟩),.slice B0 kk d0,.slice B1 ko d1] w fun e' w'=>e'=.returned (.bool true)/\MdSt w' base gm p m pace (gT M inn)/\cB base q w w':=by
 obtain⟨g,y,A,n,c,B,k,e,hx⟩:=h;have hn:=hx.sure.1;have hki:inn.length=kk:=hl.1;have hko:out.length=ko:=hl1.1;obtain⟨t1,t2,t3,t4,t5,t6,t7,t8,t9,t10⟩:=hT;rw[hn] at t2 t3 t4 t9 hran;rw[hki] at t2 t4 t10;rw[hko] at t6 t7 t8 t9 t10;have hcap:=hl.cap.1
 cases hop:M.opn with
 | true=>
   have e9:gT M inn={ M with sure:=inn,may:=[],ran:=(ko:Nat),opn:=false }:=by
    unfold gT;rw[if_pos hop,hki,t10 hop]
   rw[e9];have h3:kk=n\/(true=true/\inn.drop n=M.may):=t4.imp id fun h=>⟨rfl,h.2⟩
   exact (mdtold_open G t5 hx hd hs B0 kk d0 hLN hl hcap hk B1 ko d1 hl1 t1 hop t2 t3 h3 t6 (t10 hop)).mono fun e' w' ⟨a,A',c',b,s⟩=>⟨a,⟨g,y,A',ko,c',none,0,0,b⟩,s⟩
 | false=>
   have e9:gT M inn=M:=by
    unfold gT;rw[if_neg (by rw[hop];simp)]
   rw[e9];have l7:=t7 hop
   cases hof:M.off with
   | true=>
     have l9:=t9 hop hof;have h3:kk=n\/(true=true/\inn.drop n=M.may):=t4.imp id fun h=>⟨rfl,h.2⟩
     exact (mdtold_on G t5 hx hd hs B0 kk d0 hl.rd hcap hk B1 ko d1 hl1 t1 hop hof t2 t3 h3 t6 aS l7 (.inl ⟨rfl,l9⟩)).mono fun e' w' ⟨a,b⟩=>⟨a,⟨g,y,A,n,c,B,k,e,hx.below b⟩,cB.of_below b hs⟩
   | false=>
     have l8:=t8 hop hof;have h3:kk=n\/(false=true/\inn.drop n=M.may):=t4.imp id fun h=>by
      rw[hop,hof] at h;simp at h
     exact (mdtold_on G t5 hx hd hs B0 kk d0 hl.rd hcap hk B1 ko d1 hl1 t1 hop hof t2 t3 h3 t6 aS l7 (.inr ⟨rfl,l8⟩)).mono fun e' w' ⟨a,b⟩=>⟨a,⟨g,y,A,n,c,B,k,e,hx.below b⟩,cB.of_below b hs⟩
theorem mdnew_x (V:dF p=true)(hw:eO p)(hx:cC w x p)(hm:1<=m/\m<=1024)(hp:1<=pace/\pace<=1024) :
 Ca 58 #[.agg #[.slice x.A1 x.n1 x.c1,.slice x.A2 x.n2 x.c2,I p.regs,.slice x.A3 x.n3 x.c3,.slice x.A4 x.n4 x.c4],I (m:Nat),I pace] w fun e' w'=>∃ gm g y,e'=.returned (.tuple #[.pointer (some ⟨gm,0,none⟩),I 0])/\(∀ b,b<=w.heap.size->MdX w' b gm g y p none 0 0 [] none 0 0 [] (mdC g m pace none 0 0 none 0 0 ⟨[],[],0,false,false,false,false⟩))/\Below w.heap.size w w':=by
 have O:=BoxIn.of hx;have hn:=fun {W:World} (h:cC W x p)=>vnew_yes W h hw V
 have d1:decide ((m:Int)<1)=false:=aj aS;have d2:decide ((m:Int) > 1024)=false:=aj aS;have d3:decide (pace<1)=false:=aj aS;have d4:decide (pace > 1024)=false:=aj aS;have d5:¬ 1024<m:=aS;have d6:¬ m<1:=aS;clear hx hw V hm hp;go_enter Tryz.func58,Tryz.ntmps58;go_upto_region 1 with fail;refine eG (fun W=>BoxIn w W w.heap.size x p) O ?_;clear O;intro W O;have HB:=aT O.bel;have HP:=aT O.rd;obtain⟨y0,y1,y2,y3,y4⟩:=blk5 O.b;have sz:=O.bel.size;clear O;go_wp2_with (first | ((go_at_call 106;go_call (hn HP.out) as e w2 ⟨g,y,rfl,m2,b2⟩);have M2:=aT m2;have B2:=aT b2;have sz2:=b2.size;clear m2 b2) | fail);go_ret2;have hb3:Below w2.heap.size w2 (w2.alloc (.cells #[.pointer (some ⟨g,0,none⟩),I (m:Nat),I pace,.slice none 0 0,.slice none 0 0,I 0,.bool false,.bool false,.bool false,.bool false] 213)):=(Below.refl _ _).alloc aW _;refine⟨w2.heap.size,g,y,rfl,fun b hb=>⟨Blk.top _ rfl rfl,((M2.out b (ae hb sz)).below hb3),cL.nil _ _,cL.nil _ _,ae hb (ae sz sz2),fun b h=>by cases h⟩,HB.out.trans ((B2.out.mono sz).trans (hb3.mono (ae sz sz2)))⟩
theorem mdnew_any (V:dF p=true)(hw:eO p)(hx:cC w x p)(hm:1<=m/\m<=1024)(hp:1<=pace/\pace<=1024) :
 Ca 58 #[.agg #[.slice x.A1 x.n1 x.c1,.slice x.A2 x.n2 x.c2,I p.regs,.slice x.A3 x.n3 x.c3,.slice x.A4 x.n4 x.c4],I (m:Nat),I pace] w fun e' w'=>∃ gm,e'=.returned (.tuple #[.pointer (some ⟨gm,0,none⟩),I 0])/\(∀ b,b<=w.heap.size->MdSt w' b gm p m pace ⟨[],[],0,false,false,false,false⟩)/\Below w.heap.size w w' :=
 (mdnew_x V hw hx hm hp).mono fun e' w' ⟨gm,g,y,he,h,hb⟩=>⟨gm,he,fun b hb=>⟨g,y,none,0,0,none,0,0,h b hb⟩,hb⟩
end
section
variable {w w':World} {base gm g m:Nat} {y:PA} {p:PV} {pace:Int} {M:MV}
def M0At (w:World)(gm g m:Nat)(pace:Int):Prop:=Blk w gm 213 [.pointer (some ⟨g,0,none⟩),I (m:Nat),I pace,.slice none 0 0,.slice none 0 0,I 0,.bool false,.bool false,.bool false,.bool false]
theorem m0pow (z v most:Int)(h:M0At w gm g m pace):Ca 139 #[.pointer (some ⟨gm,0,none⟩),.agg #[I z,I v],I most] w fun e w'=>e=.returned (.bool false)/\Below w.heap.size w w':=mdpower_no z h rfl
theorem m0run_no (z v:Int)(h:M0At w gm g m pace)(hne:decide (z=0/\v=0)=false) :
 Ca 138 #[.pointer (some ⟨gm,0,none⟩),I 3,.agg #[I z,I v]] w fun e w'=>e=.returned (.bool false)/\Below w.heap.size w w':=by
 have c3:=h.c3;have c5:=h.c5;have hl:=h.lt;have H:=aT h;have HP:=aT (fun (W:World) (hb:Below w.heap.size w W) (most:Int)=>m0pow z v most (w:=W) (H.out.below hb hl));have heq:=fun W=>(show (Op.equalIn 10000 100 (.agg #[I z,I v]) (.agg #[I 0,I 0])).run Tryz.prog W=.ok false W from by rw[i9,hne])
 clear h hne;go_enter Tryz.func138,Tryz.ntmps138;go_upto_region 1 with fail;go_big_quiet (fail);go_wp2_with (first | ((go_at_call 139;go_call (HP.out _ bc 0) as e w2 ⟨rfl,b2⟩);have B2:=aT b2) | fail);go_ret;exact⟨rfl,bO (a:=w) (B:=w.heap.size) bc B2.out br⟩
theorem m0run_ok (h:M0At w gm g m pace)(hb:base<=gm)(hs:base<=w.heap.size) :
 Ca 138 #[.pointer (some ⟨gm,0,none⟩),I 3,.agg #[I 0,I 0]] w fun e w'=>e=.returned (.bool true)/\Below base w w':=by
 have c3:=h.c3;have c5:=h.c5;have f5:=h.frozen 5;have hl:=h.lt;have heq:=fun (a b c d:Int) W=>i9 W a b c d
 clear h;go_enter Tryz.func138,Tryz.ntmps138;go_upto_region 1 with fail;go_big_quiet (fail);go_upto_region 4 with fail;refine nw 9 bM bM ?_;simp only[List.take_succ_cons,List.take_zero,List.drop_succ_cons,aG]
 repeat (go_big_quiet_step (fail))
 refine wpQuiet_nil ?_;go_wp2_with fail;go_ret;exact⟨rfl,bc⟩
theorem m0right (W:World):Ca 133 #[.agg #[I 2,I 3,.slice none 0 0,.slice none 0 0]] W fun e w'=>e=.returned (.bool true)/\Below W.heap.size W w':=by
 have:=lX (k:=2) (n:=3) (r:=0) (r':=0) (c:=0) (c':=0) (R:=none) (C:=none) (w:=W)
 rwa [show eZ 2 3 0 0=true from by decide] at this
theorem m0see_no (z v:Int)(h:M0At w gm g m pace)(hne:decide (z=0/\v=0)=false) :
 Ca 59 #[.pointer (some ⟨gm,0,none⟩),.agg #[I 2,I 3,.slice none 0 0,.slice none 0 0],.agg #[I z,I v]] w fun e w'=>e=.returned (.bool false)/\Below w.heap.size w w':=by
 have H:=aT h;have hr:=aT (fun (W:World) (hb:Below w.heap.size w W)=>m0run_no z v (w:=W) (H.out.below hb H.out.lt) hne);have c0:=h.c0;have hl:=h.lt;clear h hne;go_enter Tryz.func59,Tryz.ntmps59;go_upto_region 1 with fail;refine eG (fun W=>Below w.heap.size w W/\Blk W w.heap.size 98 [I 2,I 3,.slice none 0 0,.slice none 0 0]/\Blk W (w.heap.size+1) 100 [I z,I v]) ⟨bc,bI,bI⟩ ?_;rintro w1 ⟨b1,e1,r1⟩;have B1:=aT b1;have E1:=aT e1;have R1:=aT r1;have X1:=aT (H.out.below b1 hl);clear b1 e1 r1 c0;have c0:=X1.out.c0;have e0:=E1.out.c0;have e1:=E1.out.c1;have e2:=E1.out.c2;have e3:=E1.out.c3;go_wp2_with (first | ((go_at_call 133;go_call (m0right _) as e9 w2 ⟨rfl,b2⟩);have B2:=aT (B1.out.trans (b2.mono B1.out.size));have R2:=aT (R1.out.below b2 R1.out.lt);have E2:=aT (E1.out.below b2 E1.out.lt);have X2:=aT (X1.out.below b2 X1.out.lt);clear b2 c0 e0 e1 e2 e3;have c0:=X2.out.c0;have c6:=X2.out.c6;have c7:=X2.out.c7;have c8:=X2.out.c8;have c9:=X2.out.c9;have hl2:=X2.out.lt;have e0:=E2.out.c0;have e1:=E2.out.c1;have e2:=E2.out.c2;have e3:=E2.out.c3;have x0:=R2.out.c0;have x1:=R2.out.c1) | ((go_at_call 138;go_call (hr.out _ B2.out) as e10 w3 ⟨rfl,b3⟩);have B3:=aT (B2.out.trans (b3.mono B2.out.size));clear b3) | fail);go_ret;exact⟨rfl,B3.out⟩
theorem m0see_ok (h:M0At w gm g m pace)(hb:base<=gm)(hs:base<=w.heap.size) :
 Ca 59 #[.pointer (some ⟨gm,0,none⟩),.agg #[I 2,I 3,.slice none 0 0,.slice none 0 0],.agg #[I 0,I 0]] w fun e w'=>e=.returned (.bool true)/\Below base w w':=by
 have H:=aT h;have hr:=aT (fun (W:World) (hb9:Below w.heap.size w W)=>m0run_ok (base:=base) (w:=W) (H.out.below hb9 H.out.lt) hb (ae hs hb9.size));have c0:=h.c0;have hl:=h.lt;clear h;go_enter Tryz.func59,Tryz.ntmps59;go_upto_region 1 with fail;refine eG (fun W=>Below w.heap.size w W/\Blk W w.heap.size 98 [I 2,I 3,.slice none 0 0,.slice none 0 0]/\Blk W (w.heap.size+1) 100 [I 0,I 0]) ⟨bc,bI,bI⟩ ?_;rintro w1 ⟨b1,e1,r1⟩;have B1:=aT b1;have E1:=aT e1;have R1:=aT r1;have X1:=aT (H.out.below b1 hl);clear b1 e1 r1 c0;have c0:=X1.out.c0;have e0:=E1.out.c0;have e1:=E1.out.c1;have e2:=E1.out.c2;have e3:=E1.out.c3;go_wp2_with (first | ((go_at_call 133;go_call (m0right _) as e9 w2 ⟨rfl,b2⟩);have B2:=aT (B1.out.trans (b2.mono B1.out.size));have R2:=aT (R1.out.below b2 R1.out.lt);have E2:=aT (E1.out.below b2 E1.out.lt);have X2:=aT (X1.out.below b2 X1.out.lt);clear b2 c0 e0 e1 e2 e3;have c0:=X2.out.c0;have c6:=X2.out.c6;have c7:=X2.out.c7;have c8:=X2.out.c8;have c9:=X2.out.c9;have hl2:=X2.out.lt;have e0:=E2.out.c0;have e1:=E2.out.c1;have e2:=E2.out.c2;have e3:=E2.out.c3;have x0:=R2.out.c0;have x1:=R2.out.c1) | ((go_at_call 138;go_call (hr.out _ B2.out) as e10 w3 ⟨rfl,b3⟩);have B3:=aT ((B2.out.mono hs).trans b3);clear b3) | fail);go_ret;exact⟨rfl,B3.out⟩
theorem M0At.down (h:M0At w gm g m pace)(hb:Below w.heap.size w w'):M0At w' gm g m pace:=Blk.below h hb (Blk.lt h)
theorem m0see_a (h:M0At w gm g m pace):Ca 59 #[.pointer (some ⟨gm,0,none⟩),.agg #[I 2,I 3,.slice none 0 0,.slice none 0 0],.agg #[I 0,I 1]] w fun e w'=>e=.returned (.bool false)/\Below w.heap.size w w':=m0see_no 0 1 h aU
theorem m0see_b (h:M0At w gm g m pace):Ca 59 #[.pointer (some ⟨gm,0,none⟩),.agg #[I 2,I 3,.slice none 0 0,.slice none 0 0],.agg #[I 50,I 0]] w fun e w'=>e=.returned (.bool false)/\Below w.heap.size w w':=m0see_no 50 0 h aU
theorem awake41 (w:World):Ca 57 #[] w fun e w'=>e=.returned (.bool true)/\Below w.heap.size w w':=by
 have cD:=fun (W:World)=>delay_any W
 have cN:=fun {W:World} {x:PA} (hx:cC W x ky)=>(show Ca 58 #[.agg #[.slice x.A1 x.n1 x.c1,.slice x.A2 x.n2 x.c2,I ky.regs,.slice x.A3 x.n3 x.c3,.slice x.A4 x.n4 x.c4],I 9,I 2] W fun e' w'=>∃ gm g,e'=.returned (.tuple #[.pointer (some ⟨gm,0,none⟩),I 0])/\M0At w' gm g 9 2/\W.heap.size<=gm/\Below W.heap.size W w' from
  (mdnew_x (m:=9) (pace:=2) delay_right delay_wf hx aS aS).mono fun e' w' ⟨gm,g,y,he,hm,hb⟩=>⟨gm,g,he,(hm _ aW).blk,(hm _ aW).gb,hb⟩)
 generalize ky=P at *;go_enter Tryz.func57,Tryz.ntmps57;go_upto_region 3 with (first | ((go_at_call 26;go_call (cD _) as e w1 ⟨x1,rfl,px1,bx1⟩);have B1:=aT bx1;have P1:=aT px1;clear px1 bx1) | ((go_at_call 58;go_call (cN (P1.out 0).rd) as e w2 ⟨gm,g,rfl,m2,hg2,b2⟩);have M2:=aT m2;have B2:=aT (B1.out.trans (b2.mono B1.out.size));have hg3:=ae B1.out.size hg2;clear m2 b2) | fail);refine eG (fun W=>Below w2.heap.size w2 W/\Blk W w2.heap.size 98 [I 2,I 3,.slice none 0 0,.slice none 0 0]) ⟨bc,bI⟩ ?_;rintro w3 ⟨b3,e3⟩;have B3:=aT (B2.out.trans (b3.mono B2.out.size));have M3:=aT (M0At.down M2.out b3);have E3:=aT e3;clear b3 e3;generalize w2.heap.size=ge at *;have e0:=E3.out.c0;have e1:=E3.out.c1;have e2:=E3.out.c2;have e3:=E3.out.c3;go_wp2_with (first | ((go_at_call 59;(with_reducible refine (m0see_a M3.out).mono ?_);rintro e w4 ⟨rfl,b4⟩);have B4:=aT (B3.out.trans (b4.mono B3.out.size));have M4:=aT (M0At.down M3.out b4);have E4:=aT (E3.out.below b4 E3.out.lt);clear b4 e0 e1 e2 e3 M3;have e0:=E4.out.c0;have e1:=E4.out.c1;have e2:=E4.out.c2;have e3:=E4.out.c3) | ((go_at_call 59;(with_reducible refine (m0see_b M4.out).mono ?_);rintro e w5 ⟨rfl,b5⟩);have B5:=aT (B4.out.trans (b5.mono B4.out.size));have M5:=aT (M0At.down M4.out b5);have E5:=aT (E4.out.below b5 E4.out.lt);clear b5 e0 e1 e2 e3 M4;have e0:=E5.out.c0;have e1:=E5.out.c1;have e2:=E5.out.c2;have e3:=E5.out.c3) | ((go_at_call 59;(with_reducible refine (m0see_ok M5.out hg3 B5.out.size).mono ?_);rintro e w6 ⟨rfl,b6⟩);have B6:=aT (B5.out.trans b6);clear b6) | fail);go_ret;exact⟨rfl,B6.out⟩
end
theorem fGetV_off {D:aX}(h:D.off=true)(f m:Nat)(kind:Int)(next:Nat)(ts:List Int)(n:Int):(dm D f m kind next ts n).2.2≠0/\(dm D f m kind next ts n).1=D:=by
 have hm:∀ n,mayV D n≠0:=fun n e=>by have:=(kT e).1;rw[h] at this;cases this
 have hr:∀ n,(bN D f m n).2.2≠0/\(bN D f m n).1=D:=fun n=>by
  unfold bN
  split
  · exact⟨by show (51:Int)≠0;decide,rfl⟩
  · unfold eW;rw[if_pos (hm _)];exact⟨hm _,rfl⟩
 have ht:∀ n,(cP D f m n kind).2.2≠0:=fun n=>by
  unfold cP;rw[if_pos (hr n).1];exact (hr n).1
 have hj:(eX D f m kind next n).2.2≠0/\(eX D f m kind next n).1=D:=by
  unfold eX
  split
  · exact⟨by show (54:Int)≠0;decide,rfl⟩
  · rw[if_pos (ht n)];exact⟨ht n,(hr n).2⟩
 unfold dm;rw[if_pos hj.1];exact hj
section
variable {w w':World} {base gy g m cc many k0:Nat} {q:bE} {x:PA} {p:PV} {pace ran:Int} {all:List (List Int)}
theorem t_inputO (V:Env p m pace many)(h:dx w base q g p m cc pace many k0 all ran)(n:Int) :
 Ca 141 #[.pointer (some ⟨g,0,none⟩),I n] w fun e' w'=>∃ B k d z,e'=.returned (.tuple #[.slice B k d,I z])/\z≠0/\dx w' base q g p m cc pace many k0 all ran/\Step mutE base q w w':=by
 have hs:=h.hs;obtain⟨D,E,e,hd,hi,ok,ho,hdo,hm,hw,hmay,h1,h2⟩:=h.ex;obtain⟨f1,f2⟩:=fGetV_off hdo 11 m 3 E.nIn p.ins n;have:=V.big;refine (input_any hi ok V.w hd hs aS n).mono fun e' w' ⟨B,k,d,h3,_,h4⟩=>⟨B,k,d,_,h3,f1,⟨ae hs h4.s.size,D,E,e,?_,h4.i,ok,ho,hdo,hm,hw,hmay,h1,h2⟩,h4.s⟩
 have:=h4.d
 rwa [f2] at this
theorem t_outputO (V:Env p m pace many)(h:dx w base q g p m cc pace many k0 all ran)(n:Int) :
 Ca 98 #[.pointer (some ⟨g,0,none⟩),I n] w fun e' w'=>∃ B k d z,e'=.returned (.tuple #[.slice B k d,I z])/\z≠0/\dx w' base q g p m cc pace many k0 all ran/\Step mutE base q w w':=by
 have hs:=h.hs;obtain⟨D,E,e,hd,hi,ok,ho,hdo,hm,hw,hmay,h1,h2⟩:=h.ex;obtain⟨f1,f2⟩:=fGetV_off hdo (11+m) m 4 E.nOut p.outs n;have:=V.big;refine (qg hi ok V.w hd hs aS n).mono fun e' w' ⟨B,k,d,h3,_,h4⟩=>⟨B,k,d,_,h3,f1,⟨ae hs h4.s.size,D,E,e,?_,h4.i,ok,ho,hdo,hm,hw,hmay,h1,h2⟩,h4.s⟩
 have:=h4.d
 rwa [f2] at this
theorem t_statO (h:dx w base q g p m cc pace many k0 all ran) :
 Ca 29 #[.pointer (some ⟨g,0,none⟩)] w fun e' w'=>∃ (a b:Nat) (c d e f:Int),e'=.returned (.agg #[I (a:Nat),I (b:Nat),I c,I d,I e,I f])/\k0<=a/\Below w.heap.size w w':=by
 obtain⟨D,E,e,hd,hi,ok,ho,hdo,hm,hw,hmay,h1,h2⟩:=h.ex;exact (estat_any hi ok.kl).mono fun e' w' ⟨h3,h4⟩=>⟨_,_,_,_,_,_,h3,h1,h4⟩
theorem plrowsOI_any (V:Env p m pace many)(h:dx w base q g p m cc pace many k0 all ran)(a:Nat) :
 Ca 140 #[I (a:Nat),.func (.func 141) #[.pointer (some ⟨g,0,none⟩)] #[]] w fun e' w'=>∃ z,e'=.returned (.tuple #[.slice none 0 0,I z])/\(z=0->a=0)/\dx w' base q g p m cc pace many k0 all ran/\Step mutE base q w w':=by
 have ct:=t_inputO V h 0;have H:=aT h;clear h;go_enter Tryz.func140,Tryz.ntmps140;go_wp2_with fail;go_loopw [6,11] (fun v i wr=>v=.slice none 0 0/\i=I 0/\wr=w) (fun _ _ _=>0)
 case atStart=>exact⟨rfl,rfl,rfl⟩
 case round=>
  obtain⟨rfl,rfl,rfl⟩:=hrel
  by_cases h0:a=0
  · have hp:¬ (0:Int)<(a:Nat):=aS;have H0:=aT h0;clear h0;go_wp2_with fail;go_returns;exact⟨0,rfl,fun _=>H0.out,H.out,Step.refl _ _ _ _⟩
  · have hp:(0:Int)<(a:Nat):=aS;go_upto_region 6 with (first | ((go_at_call 141;go_call (ct) as e w5 ⟨B,k,d,z,rfl,hz,o5,s5⟩);have O5:=aT o5;have S5:=aT s5;clear o5 s5) | fail);have hzb:(z != 0)=true:=by rw[ag];exact hz
    have HZ:=aT hz;clear hz ct;go_wp2_with fail;go_ret2;exact⟨z,rfl,fun e=>absurd e HZ.out,O5.out,S5.out⟩
theorem plrowsOO_any (V:Env p m pace many)(h:dx w base q g p m cc pace many k0 all ran)(a:Nat) :
 Ca 140 #[I (a:Nat),.func (.func 98) #[.pointer (some ⟨g,0,none⟩)] #[]] w fun e' w'=>∃ z,e'=.returned (.tuple #[.slice none 0 0,I z])/\dx w' base q g p m cc pace many k0 all ran/\Step mutE base q w w':=by
 have ct:=t_outputO V h 0;have H:=aT h;clear h;go_enter Tryz.func140,Tryz.ntmps140;go_wp2_with fail;go_loopw [6,11] (fun v i wr=>v=.slice none 0 0/\i=I 0/\wr=w) (fun _ _ _=>0)
 case atStart=>exact⟨rfl,rfl,rfl⟩
 case round=>
  obtain⟨rfl,rfl,rfl⟩:=hrel
  by_cases h0:a=0
  · have hp:¬ (0:Int)<(a:Nat):=aS;clear h0;go_wp2_with fail;go_returns
    first
     | exact⟨0,rfl,H.out,Step.refl _ _ _ _⟩
     | exact⟨⟨0,rfl⟩,H.out,Step.refl _ _ _ _⟩
  · have hp:(0:Int)<(a:Nat):=aS;go_upto_region 6 with (first | ((go_at_call 98;go_call (ct) as e w5 ⟨B,k,d,z,rfl,hz,o5,s5⟩);have O5:=aT o5;have S5:=aT s5;clear o5 s5) | fail);have hzb:(z != 0)=true:=by rw[ag];exact hz
    clear hz ct;go_wp2_with fail;go_ret2;exact⟨z,rfl,O5.out,S5.out⟩
theorem plinputs_off (V:Env p m pace many)(hp:PlIn w base gy q x p pace (some ⟨g,0,none⟩))(h:dx w base q g p m cc pace many k0 all ran) :
 Ca 60 #[.pointer (some ⟨gy,0,none⟩)] w fun e w'=>∃ z,e=.returned (.tuple #[.slice none 0 0,I z])/\(z=0->k0=0)/\dx w' base q g p m cc pace many k0 all ran/\Step mutE base q w w':=by
 have hs:=h.hs;have ce:=kQ hp.blk;have cA:=t_statO h;have hfd:=fun (a b:Nat) c d e f W=>statf0 (a:Nat) (b:Nat) c d e f W
 have cr:=aT (fun (W:World) (h:dx W base q g p m cc pace many k0 all ran) (a:Nat)=>plrowsOI_any V h a);have H:=aT h;clear h hp V;go_enter Tryz.func60,Tryz.ntmps60;go_wp2_with (first | (go_at_call 46;go_call (ce) as e1 w1 ⟨rfl,rfl⟩) | ((go_at_call 29;go_call (cA) as e2 w2 ⟨a,b,c9,d9,e9,f9,rfl,ha,b2⟩);have H2:=aT (H.out.below b2);have B2:=aT b2;clear b2) | ((go_at_call 140;go_call (cr.out _ H2.out a) as e3 w3 ⟨z,rfl,hz,o3,s3⟩);have O3:=aT o3;have S3:=aT s3;have HZ:=aT hz;clear o3 s3 hz) | fail);go_ret2;exact⟨z,rfl,fun e=>by have:=HZ.out e;omega,O3.out,(Step.of_below B2.out hs).trans S3.out⟩
theorem ploutputs_off (V:Env p m pace many)(hp:PlIn w base gy q x p pace (some ⟨g,0,none⟩))(h:dx w base q g p m cc pace many k0 all ran) :
 Ca 61 #[.pointer (some ⟨gy,0,none⟩)] w fun e w'=>∃ z,e=.returned (.tuple #[.slice none 0 0,I z])/\dx w' base q g p m cc pace many k0 all ran/\Step mutE base q w w':=by
 have hs:=h.hs;have ce:=kQ hp.blk;have cA:=t_statO h;have hfd:=fun (a b:Nat) c d e f W=>statf1 (a:Nat) (b:Nat) c d e f W
 have cr:=aT (fun (W:World) (h:dx W base q g p m cc pace many k0 all ran) (a:Nat)=>plrowsOO_any V h a);have H:=aT h;clear h hp V;go_enter Tryz.func61,Tryz.ntmps61;go_wp2_with (first | (go_at_call 46;go_call (ce) as e1 w1 ⟨rfl,rfl⟩) | ((go_at_call 29;go_call (cA) as e2 w2 ⟨a,b,c9,d9,e9,f9,rfl,ha,b2⟩);have H2:=aT (H.out.below b2);have B2:=aT b2;clear b2) | ((go_at_call 140;go_call (cr.out _ H2.out b) as e3 w3 ⟨z,rfl,o3,s3⟩);have O3:=aT o3;have S3:=aT s3;clear o3 s3) | fail);go_ret2;exact⟨z,rfl,O3.out,(Step.of_below B2.out hs).trans S3.out⟩
end
open Go.RowKit Go.WideShapes Go.ChangeShapes Go.Deep Go.Joins
section
variable {H:Type} {enc:TypeId × Value→H} {w:World} {base b0:Nat} {held:Bool} {r:Reach} {v:Value} {d:DataW H} {ps:List MemPlace}
theorem args_set40 (hval:Value.okWide Tryz.prog w r b0 92 v)(hd:DataW.Trod enc Tryz.prog w base (fun _=>true) held 92 v d ps) :
 ∃ s r c:Nat,v=.agg #[.int .u8 s,.int .u8 r,.int .u8 c]/\s<256/\r<256/\c<256:=by
 obtain⟨vs,n,rfl,hlen,hf⟩:=open_agg Tryz.underlying92 bM bM hval hd
 match vs,hlen with
 | [v0,v1,v2],_=>
   obtain⟨u0,y0,e0,t0⟩:=hf 0 _ rfl;obtain⟨u1,y1,e1,t1⟩:=hf 1 _ rfl;obtain⟨u2,y2,e2,t2⟩:=hf 2 _ rfl;injection e0 with e0;injection e1 with e1;injection e2 with e2;subst e0 e1 e2;obtain⟨z0,hz0,_,hw0⟩:=DataW.trod_int Tryz.underlying5 t0;obtain⟨z1,hz1,_,hw1⟩:=DataW.trod_int Tryz.underlying5 t1;obtain⟨z2,hz2,_,hw2⟩:=DataW.trod_int Tryz.underlying5 t2;have hz0:v0=.int .u8 z0:=by simpa using hz0
   have hz1:v1=.int .u8 z1:=by simpa using hz1
   have hz2:v2=.int .u8 z2:=by simpa using hz2
   subst hz0 hz1 hz2;have b0:=bounds_u8 hw0;have b1:=bounds_u8 hw1;have b2:=bounds_u8 hw2;exact⟨z0.toNat,z1.toNat,z2.toNat,by rw[Int.toNat_of_nonneg b0.1,Int.toNat_of_nonneg b1.1,Int.toNat_of_nonneg b2.1],aS,by omega,aS⟩
end
section
variable {s r c:Nat}
theorem of40_any (w:World)(h0:s<256)(h1:r<256)(h2:c<256):Ca 50 #[.agg #[.int .u8 (s:Nat),.int .u8 (r:Nat),.int .u8 (c:Nat)]] w fun e w'=>e=.returned (.agg #[I ((s:Int) % 16+31),I ((s:Int) % 16+31 - (r:Int) % 4),I ((c:Int) % 5+1)])/\Below w.heap.size w w':=by
 go_enter Tryz.func50,Tryz.ntmps50;go_wp2;refine bodyPost_ret (v:=.agg #[I ((s:Int) % 16+31),I ((s:Int) % 16+31 - (r:Int) % 4),I ((c:Int) % 5+1)]) (by simp[results,Tryz.results50,go_sem]) rfl ?_;exact⟨rfl,bc⟩
end
def few28 (x:PA):Prop:=x.n1<=20/\x.n2<=20/\x.n3<=80/\x.n4<=60
theorem few28_yes (x:PA)(r:Int)(w:World)(hf:few28 x):Ca 15 #[.agg #[.slice x.A1 x.n1 x.c1,.slice x.A2 x.n2 x.c2,I r,.slice x.A3 x.n3 x.c3,.slice x.A4 x.n4 x.c4]] w fun e w'=>e=.returned (.bool true)/\Below w.heap.size w w':=by
 obtain⟨h1,h2,h3,h4⟩:=hf;go_enter Tryz.func15,Tryz.ntmps15;go_wp2;go_ret;exact⟨df lj,bc⟩
theorem few28_no (x:PA)(p:PV)(w:World)(hr:cC w x p)(hf:¬ few28 x):Ca 15 #[.agg #[.slice x.A1 x.n1 x.c1,.slice x.A2 x.n2 x.c2,I p.regs,.slice x.A3 x.n3 x.c3,.slice x.A4 x.n4 x.c4]] w fun e w'=>e=.returned (.bool false)/\Below w.heap.size w w':=by
 obtain⟨_,_,_,_,k1,k2,k3,k4⟩:=hr;unfold maxLen at k1 k2 k3 k4;unfold few28 at hf
 by_cases h1:x.n1<=20
 · by_cases h2:x.n2<=20
   · by_cases h3:x.n3<=80
     · have h4:¬ x.n4<=60:=fun h=>hf ⟨h1,h2,h3,h⟩
       clear hf;go_enter Tryz.func15,Tryz.ntmps15;go_wp2;go_ret;exact⟨df lj,bc⟩
     · clear hf;go_enter Tryz.func15,Tryz.ntmps15;go_wp2;go_ret;exact⟨df lj,bc⟩
   · clear hf;go_enter Tryz.func15,Tryz.ntmps15;go_wp2;go_ret;exact⟨df lj,bc⟩
 · clear hf;go_enter Tryz.func15,Tryz.ntmps15;go_wp2;go_ret;exact⟨df lj,bc⟩
