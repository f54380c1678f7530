/- Parts. -/
import Derived.Test.YtmeebofhlilcmaaGreatPr15
set_option linter.unusedVariables false
set_option linter.unusedSimpArgs false
set_option maxRecDepth 100000
set_option maxHeartbeats 0
namespace Go.Proofs.YtmeebofhlilcmaaGreat
variable {f base ga m:Nat} {w w':World} {kind:Int} {D:aY} {L:List UInt8}
open Go.RowKit
def sumL (l:List UInt8):List UInt8:=le4 (fv [l])
def cu (n:Nat):Nat:=(n+127) / 128
def ge (now:List UInt8)(f:Nat):Nat->List UInt8
 | 0=>[]
 | k+1=>ge now f k ++ cj now ((f+(1+k):Nat):Int)
theorem bodyL_len {now:List UInt8}{s:Nat}(h:now.length=s * 128):∀ k,f+(1+k)<=s->(ge now f k).length=k * 128:=by
 intro k
 induction k with
 | zero=>intro _;rfl
 | succ k ih=>
   intro hk;unfold ge;rw[az,ih aS,ir h aS aS];omega
def fx (L:List UInt8):Int:=sg (getL (L.take 8))
def ch (D:aY)(f m:Nat):aY × List UInt8 × Int × Int :=
 if (cX D f m 0 2).2.2≠0 then ((bN D f m 0).1,[],0,(cX D f m 0 2).2.2)
 else if (cX D f m 0 2).2.1.length≠12 then ((bN D f m 0).1,[],0,53)
 else if fx (cX D f m 0 2).2.1<0\/512<fx (cX D f m 0 2).2.1 then ((bN D f m 0).1,[],0,53)
 else if sumL ((ge D.now f (cu (fx (cX D f m 0 2).2.1).toNat)).take (fx (cX D f m 0 2).2.1).toNat)=(cX D f m 0 2).2.1.drop 8
 then (rdK (bN D f m 0).1 (cu (fx (cX D f m 0 2).2.1).toNat),(ge D.now f (cu (fx (cX D f m 0 2).2.1).toNat)).take (fx (cX D f m 0 2).2.1).toNat,(cX D f m 0 2).1,0)
 else (rdK (bN D f m 0).1 (cu (fx (cX D f m 0 2).2.1).toNat),[],0,53)
structure SlV3 where
 now:Nat
 number:Int
 load:List UInt8
def dv (D:aY)(fl ml fr mr:Nat):aY × SlV3 × Int :=
 if (ch D fl ml).2.2.2≠0/\(ch D fl ml).2.2.2≠53 then ((ch D fl ml).1,⟨2,0,[]⟩,(ch D fl ml).2.2.2)
 else if (ch (ch D fl ml).1 fr mr).2.2.2≠0/\(ch (ch D fl ml).1 fr mr).2.2.2≠53 then ((ch (ch D fl ml).1 fr mr).1,⟨2,0,[]⟩,(ch (ch D fl ml).1 fr mr).2.2.2)
 else if (ch D fl ml).2.2.2=0/\((ch (ch D fl ml).1 fr mr).2.2.2≠0\/(ch (ch D fl ml).1 fr mr).2.2.1<=(ch D fl ml).2.2.1) then ((ch (ch D fl ml).1 fr mr).1,⟨0,(ch D fl ml).2.2.1,(ch D fl ml).2.1⟩,0)
 else if (ch (ch D fl ml).1 fr mr).2.2.2=0 then ((ch (ch D fl ml).1 fr mr).1,⟨1,(ch (ch D fl ml).1 fr mr).2.2.1,(ch (ch D fl ml).1 fr mr).2.1⟩,0)
 else ((ch (ch D fl ml).1 fr mr).1,⟨2,0,[]⟩,0)
def padL (load:List UInt8)(i:Nat):List UInt8:=(load.drop (i * 128)).take 128 ++ List.replicate (128 - ((load.drop (i * 128)).take 128).length) 0
theorem nH (load:List UInt8)(i:Nat):(padL load i).length=128:=by
 unfold padL;rw[az,List.length_replicate,aA];omega
def eD (D:aY)(f m:Nat)(load:List UInt8):Nat->Nat->aY × Int
 | _,0=>(D,0)
 | i,k+1=>if (bL D f m ((1+i:Nat):Int) (padL load i)).2≠0 then bL D f m ((1+i:Nat):Int) (padL load i) else eD (bL D f m ((1+i:Nat):Int) (padL load i)).1 f m load (i+1) k
def dY (D:aY)(f m:Nat)(load:List UInt8):aY × Int :=
 if (eD D f m load 0 (cu load.length)).2≠0 then eD D f m load 0 (cu load.length) else bI (eD D f m load 0 (cu load.length)).1
def dR (load:List UInt8):List UInt8:=putL (un load.length) ++ sumL load
def eb (D:aY)(f m:Nat)(number:Int)(load:List UInt8):aY × Int :=
 if (bL D f m 0 bw).2≠0 then bL D f m 0 bw
 else if (bI (bL D f m 0 bw).1).2≠0 then bI (bL D f m 0 bw).1
 else if (dY (bI (bL D f m 0 bw).1).1 f m load).2≠0 then dY (bI (bL D f m 0 bw).1).1 f m load
 else if (cK (dY (bI (bL D f m 0 bw).1).1 f m load).1 f m 0 2 number (dR load)).2≠0 then cK (dY (bI (bL D f m 0 bw).1).1 f m load).1 f m 0 2 number (dR load)
 else bI (cK (dY (bI (bL D f m 0 bw).1).1 f m load).1 f m 0 2 number (dR load)).1
def dr (D:aY)(fl ml fr mr:Nat)(s:SlV3)(load:List UInt8):aY × SlV3 × Int :=
 if 512<load.length\/s.number=9223372036854775807 then (D,s,3)
 else if (eb D (if s.now=0 then fr else fl) (if s.now=0 then mr else ml) (s.number+1) load).2≠0 then ((eb D (if s.now=0 then fr else fl) (if s.now=0 then mr else ml) (s.number+1) load).1,s,(eb D (if s.now=0 then fr else fl) (if s.now=0 then mr else ml) (s.number+1) load).2)
 else ((eb D (if s.now=0 then fr else fl) (if s.now=0 then mr else ml) (s.number+1) load).1,⟨if s.now=0 then 1 else 0,s.number+1,load⟩,0)
theorem writeV_many (D:aY)(n:Int)(b:List UInt8):(eL D n b).1.many=D.many/\(eL D n b).1.waits.length<=D.waits.length+1:=by
 unfold eL
 split
 · exact⟨rfl,by simp⟩
 · split
   · exact⟨rfl,by simp⟩
   · exact⟨rfl,by simp[ez,putD]⟩
theorem i8 (D:aY)(f m:Nat)(n:Int)(b:List UInt8):(bL D f m n b).1.many=D.many/\(bL D f m n b).1.waits.length<=D.waits.length+1:=by
 unfold bL
 split
 · exact⟨rfl,by simp⟩
 · exact writeV_many _ _ _
def dS (D:aY)(f m:Nat):List Int->aY × Int
 | []=>(D,0)
 | n :: l=>if (bL D f m n bw).2≠0 then bL D f m n bw else dS (bL D f m n bw).1 f m l
def el (D:aY)(f m:Nat)(kind:Int):aY × Int:=dS (rdK D m) f m (ca D.now f kind m).2.2
def bP (D:aY)(f m:Nat)(kind:Int):aY × Nat × Int :=
 if kind<1\/255<kind then (D,0,2)
 else if D.off=true then (D,0,50)
 else if (el D f m kind).2≠0 then ((el D f m kind).1,0,(el D f m kind).2)
 else if (ca D.now f kind m).2.2=[] then ((el D f m kind).1,(ca D.now f kind m).2.1,0)
 else if (bI (el D f m kind).1).2≠0 then ((bI (el D f m kind).1).1,0,(bI (el D f m kind).1).2)
 else ((bI (el D f m kind).1).1,(ca D.now f kind m).2.1,0)
def gJ (w:World)(base ga:Nat)(kind:Int)(p:bJ)(R:aY × Nat × Int)(e:Ending)(w':World):Prop :=
 ∃ P,e=.returned (.tuple #[.pointer P,I R.2.2])/\(R.2.2≠0->P=none)/\(R.2.2=0->∃ gj,P=some ⟨gj,0,none⟩/\w.heap.size<=gj/\dh w' gj ga kind R.2.1)/\br w' base p R.1/\Step mutD base p w w'
theorem gJ.no {z:Int}{p:bJ}(hz:z≠0)(hd:br w' base p D)(hs:Step mutD base p w w'):gJ w base ga kind p (D,0,z) (.returned (.tuple #[.pointer none,I z])) w' :=
 ⟨none,rfl,fun _=>rfl,fun e=>absurd e hz,hd,hs⟩
theorem gJ.yes {gj next:Nat}{p:bJ}(hg:w.heap.size<=gj)(hj:dh w' gj ga kind next)(hd:br w' base p D)(hs:Step mutD base p w w'):gJ w base ga kind p (D,next,0) (.returned (.tuple #[.pointer (some ⟨gj,0,none⟩),I 0])) w' :=
 ⟨_,rfl,fun e=>absurd rfl e,fun _=>⟨gj,rfl,hg,hj⟩,hd,hs⟩
section
variable {w w':World} {base ga f m:Nat} {kind:Int} {p:bJ} {D:aY}
theorem jopen_kind (ha:bE w ga p.d f m)(hm:1<=m)(hd:br w base p D)(h:kind<1\/255<kind):Ca 253 #[.pointer (some ⟨ga,0,none⟩),I kind] w (gJ w base ga kind p (D,0,2)):=by
 have hmany:=iu ha;have hc:kind<1\/(1<=kind/\255<kind):=aS;have hmz:((m:Int) == 0)=false:=by rw[ae];omega
 have HD:=aT hd;clear h hd ha;rcases hc with h1 | ⟨h1,h2⟩
 all_goals
  go_enter Tryz.func253,Tryz.ntmps253;go_wp2_with (first | (go_at_call 113;go_call (hmany) as e w1 ⟨rfl,rfl⟩) | fail);go_ret2;exact gJ.no bj HD.out (Step.refl _ _ _ _)
theorem jrn_new (w:World)(ga:Nat)(kind:Int):dh (w.alloc (.cells #[.pointer (some ⟨ga,0,none⟩),I kind,I 0] 363)) w.heap.size ga kind 0:=Blk.top _ rfl rfl
theorem jopen_off (ha:bE w ga p.d f m)(hm:1<=m)(hd:br w base p D)(hs:base<=w.heap.size)(h1:1<=kind)(h2:kind<=255)(hfm:f+m<=D.many)(hoff:D.off=true)(hok:D.Ok) :
 Ca 253 #[.pointer (some ⟨ga,0,none⟩),I kind] w (gJ w base ga kind p (D,0,50)):=by
 have hmany:=iu ha;have hmz:((m:Int) == 0)=false:=by rw[ae];omega
 have bA:Below w.heap.size w (w.alloc (.cells #[.pointer (some ⟨ga,0,none⟩),I kind,I 0] 363)):=(Below.refl _ _).alloc aV _;have hrd:=jread_off (jrn_new w ga kind) (hd.below bA) (by have:=bA.size;omega) (ha.below bA) hm hfm hoff hok;have BA:=aT bA;clear ha hd hok bA;go_enter Tryz.func253,Tryz.ntmps253;go_wp2_with (first | (go_at_call 113;go_call (hmany) as e w1 ⟨rfl,rfl⟩) | ((go_at_call 293;go_call (hrd) as e w2 ⟨rfl,h2,s2⟩)) | fail);go_ret2;exact gJ.no bj h2 ((Step.of_below BA.out hs).trans s2)
theorem lc {n:Int}{l:List Int}(h:(bL D f m n bw).2=0):dS D f m (n :: l)=dS (bL D f m n bw).1 f m l:=by
 show (if (bL D f m n bw).2≠0 then _ else _)=_
 rw[if_neg aS]
theorem lf {n:Int}{l:List Int}(h:(bL D f m n bw).2≠0):dS D f m (n :: l)=bL D f m n bw:=by
 show (if (bL D f m n bw).2≠0 then _ else _)=_
 rw[if_pos h]
theorem jopen_on (ha:bE w ga p.d f m)(hm:1<=m)(hd:br w base p D)(hs:base<=w.heap.size)(h1:1<=kind)(h2:kind<=255)(hfm:f+m<=D.many)(hoff:D.off=false)(hok:D.Ok)(hwt:D.waits.length<900000) :
 Ca 253 #[.pointer (some ⟨ga,0,none⟩),I kind] w (gJ w base ga kind p (bP D f m kind)):=by
 have hmany:=iu ha;have hmz:((m:Int) == 0)=false:=by rw[ae];omega
 have bA:Below w.heap.size w (w.alloc (.cells #[.pointer (some ⟨ga,0,none⟩),I kind,I 0] 363)):=(Below.refl _ _).alloc aV _;have hrd:=jread_on (jrn_new w ga kind) (hd.below bA) (by have:=bA.size;omega) hs (ha.below bA) hfm hoff hok;have hm4:f+m<=4096:=by have:=hok.many1;omega
 have hle:=lZ D.now f kind m;have hun:bP D f m kind=if (el D f m kind).2≠0 then ((el D f m kind).1,0,(el D f m kind).2)
  else if (ca D.now f kind m).2.2=[] then ((el D f m kind).1,(ca D.now f kind m).2.1,0)
  else if (bI (el D f m kind).1).2≠0 then ((bI (el D f m kind).1).1,0,(bI (el D f m kind).1).2)
  else ((bI (el D f m kind).1).1,(ca D.now f kind m).2.1,0):=by
  unfold bP;rw[if_neg aS,if_neg (by rw[hoff];simp)]
 unfold el at hun;obtain⟨o,eo⟩:=gI D m;have hm1:(rdK D m).many=D.many:=by rw[eo]
 have hw1:(rdK D m).waits.length=D.waits.length:=by rw[eo]
 generalize bP D f m kind=R at *;generalize ca D.now f kind m=sc at *;obtain⟨op,nx,dl⟩:=sc;generalize rdK D m=D1 at *;simp only at hun hle hrd;have BA:=aT bA;have HA:=aT ha;have HD:=aT hd;have HUN:=aT hun;clear ha hd hok bA eo hun;go_enter Tryz.func253,Tryz.ntmps253;go_wp2_with (first | (go_at_call 113;go_call (hmany) as e w1 ⟨rfl,rfl⟩) | ((go_at_call 293;go_call (hrd) as e w2 ⟨B,N,c,rfl,o2,h2,j2,s2,t2⟩);have O2:=aT o2;have H2:=aT h2;have J2:=aT j2;have S2:=aT (Step.noJrn BA.out s2 t2 aV hs);clear o2 h2 j2 s2 t2) | fail);have hNl:=O2.out.1;have sz2:=S2.out.size;have hA2:=HD.out.area HA.out S2.out.tch aU;have HA2:=aT hA2;clear hA2;go_loopw [10,11,38] (fun _ _ i wr=>∃ (j:Nat) (Dj:aY),j<=N/\i=I (j:Nat)/\dS D1 f m dl=dS Dj f m (dl.drop j)/\Dj.many=D.many/\Dj.waits.length<=D.waits.length+j/\br wr base p Dj/\Step mutD base p w2 wr) (fun _ _ i _=>N - (intOf i).toNat)
 case atStart=>exact⟨0,D1,aS,rfl,rfl,hm1,aS,H2.out,Step.refl _ _ _ _⟩
 case round=>
  obtain⟨j,Dj,hj,rfl,hwk,hmj,hwj,hdj,hst⟩:=hrel;have hsts:=hst.size;have hjj:dh wr w.heap.size ga kind nx:=H2.out.blk J2.out hst.tch aU;have haj:=H2.out.area HA2.out hst.tch aU;have hoj:=H2.out.ow O2.out hst.tch aU;have HWK:=aT hwk;have HDJ:=aT hdj;have HST:=aT hst
  by_cases hlt:j<N
  · obtain⟨b,o,hB,hb,hcell⟩:=hoj.rd.2.at_ hlt;have hjl:j<dl.length:=aS;have hdr:=aR hjl;have hval:wr.cell? ⟨b,o+j,none⟩=some (I dl[j]):=by rw[hcell,gX dl j hjl];rfl
    have hwp:=s_awipe hdj aS haj (by rw[hmj];exact hfm) dl[j] aS;obtain⟨q1,q2⟩:=i8 Dj f m dl[j] bw;rw[hdr] at hwk
    by_cases he:(bL Dj f m dl[j] bw).2=0
    · rw[lc he] at hwk;rw[he] at hwp;generalize (bL Dj f m dl[j] bw).1=Dn at *;generalize dl[j]=nn at *;have HW2:=aT hwk;clear hwk hdj he hdr hoj hcell;subst hB;go_wp2_with (first | (go_at_call 198;go_call (hwp) as e w3 ⟨rfl,h3,s3⟩) | fail);go_roundw
      case rel=>first
       | exact⟨j+1,Dn,aS,by go_num,HW2.out,aS,by omega,h3,HST.out.trans s3⟩
       | ((repeat apply Exists.intro);exact⟨⟨j+1,Dn,aS,by go_num,HW2.out,aS,by omega,h3,HST.out.trans s3⟩,rfl⟩)
      case measure=>simp[intOf];omega
    · rw[lf he] at hwk;have hR:=HUN.out;rw[hwk,if_pos he] at hR;subst hR;generalize bL Dj f m dl[j] bw=P at *;obtain⟨Dn,z⟩:=P;simp only at hwp he;generalize dl[j]=nn at *;have hne:(z != 0)=true:=by rw[af];exact he
      have HE:=aT he;clear hwk hdj he hdr hoj hcell HUN HWK q1 q2;subst hB;go_wp2_with (first | (go_at_call 198;go_call (hwp) as e w3 ⟨rfl,h3,s3⟩) | fail);go_ret2;exact gJ.no HE.out h3 ((S2.out.trans HST.out).trans s3)
  · have hjN:j=N:=aS;subst hjN;have hdr:dl.drop j=[]:=aP aS;rw[hdr] at hwk;have hR:=HUN.out;rw[hwk,show dS Dj f m []=(Dj,0) from rfl,if_neg bj] at hR;simp only at hR
    by_cases hd0:dl=[]
    · rw[if_pos hd0] at hR;have hj0:j=0:=by rw[<- hNl,hd0];rfl
      subst hj0 hR;have HJJ:=aT hjj;clear hwk hdj hdr hoj HUN HWK hjj haj;go_wp2;go_ret2;exact gJ.yes aV HJJ.out HDJ.out (S2.out.trans HST.out)
    · rw[if_neg hd0] at hR;have hj0:0<j:=by
       rcases aH j with q | q
       · exact absurd (List.eq_nil_of_length_eq_zero aS) hd0
       · exact q
      have hfl:=jO hdj aS haj;generalize bI Dj=FV at *;obtain⟨Df,z⟩:=FV;simp only at hR hfl;have HJJ:=aT hjj
      by_cases hz:z=0
      · subst hz;rw[if_neg bj] at hR;subst hR;clear hwk hdj hdr hoj HUN HWK hjj haj hd0;go_wp2_with (first | (go_at_call 116;go_call (hfl) as e w3 ⟨rfl,h3,s3⟩) | fail);go_ret2;exact gJ.yes aV (HDJ.out.blk HJJ.out s3.tch aU) h3 ((S2.out.trans HST.out).trans s3)
      · rw[if_pos hz] at hR;subst hR;have hne:(z != 0)=true:=by rw[af];exact hz
        have HZ:=aT hz;clear hwk hdj hdr hoj HUN HWK hjj haj hd0 hz;go_wp2_with (first | (go_at_call 116;go_call (hfl) as e w3 ⟨rfl,h3,s3⟩) | fail);go_ret2;exact gJ.no HZ.out h3 ((S2.out.trans HST.out).trans s3)
theorem jopen_any (ha:bE w ga p.d f m)(hm:1<=m)(hd:br w base p D)(hs:base<=w.heap.size)(hfm:f+m<=D.many)(hwt:D.waits.length<900000) :
 Ca 253 #[.pointer (some ⟨ga,0,none⟩),I kind] w (gJ w base ga kind p (bP D f m kind)):=by
 have hok:D.Ok:=by obtain⟨A,c,h⟩:=hd;exact h.ok
 by_cases hk:kind<1\/255<kind
 · have:bP D f m kind=(D,0,2):=by unfold bP;rw[if_pos hk]
   rw[this];exact jopen_kind ha hm hd hk
 · cases ho:D.off with
   | true=>
     have:bP D f m kind=(D,0,50):=by unfold bP;rw[if_neg hk,if_pos ho]
     rw[this];exact jopen_off ha hm hd hs aS aS hfm ho hok
   | false=>exact jopen_on ha hm hd hs aS aS hfm ho hok hwt
end
theorem secOf_splice {l b:List UInt8}{n k many:Nat}(hl:l.length=many * 128)(hb:b.length=128)(hn:n<many)(hk:k<many):cj (splice l (n * 128) b) (k:Int)=if k=n then b else cj l (k:Int):=by
 have h1:(cj (splice l (n * 128) b) (k:Int)).length=128:=ir (s:=many) (by rw[iX (by rw[hl,hb];omega),hl]) aS aS;have h2:(cj l (k:Int)).length=128:=ir (s:=many) hl aS aS;have ext:∀ {x y:List UInt8},x.length=128->y.length=128->(∀ i,i<128->bC x i=bC y i)->x=y:=by
  intro x y hx hy h;apply List.ext_getElem aS;intro i q1 q2;have:=h i aS;unfold bC at this;rw[ag,ag,ap q1,ap q2] at this;exact UInt8.toNat_inj.1 this
 split
 · rename_i e;subst e;refine ext h1 hb (fun i hi=>?_);rw[jL hi,iZ (by rw[hl,hb];omega),if_pos (by rw[hb];omega),Nat.add_sub_cancel_left]
 · rename_i e;refine ext h1 h2 (fun i hi=>?_);rw[jL hi,jL hi,iZ (by rw[hl,hb];omega),if_neg (by rw[hb];omega)]
theorem byte_ext {x y:List UInt8}(hx:x.length=y.length)(h:∀ i,i<y.length->bC x i=bC y i):x=y:=by
 apply List.ext_getElem aS;intro i q1 q2;have:=h i aS;unfold bC at this;rw[ag,ag,ap q1,ap q2] at this;exact UInt8.toNat_inj.1 this
section
variable {w w':World} {base ga gj f m next:Nat} {kind:Int} {p:bJ} {D:aY}
theorem dh.below (h:dh w gj ga kind next)(hb:Below w.heap.size w w'):dh w' gj ga kind next:=Blk.below h hb h.lt
theorem s_anew (h:br w base p D)(hs:base<=w.heap.size)(f m:Nat)(h1:1<=m)(h2:f+m<=D.many) :
 Ca 109 #[.pointer (some ⟨p.d,0,none⟩),.agg #[I (f:Int),I (m:Int)]] w fun e w'=>∃ ga,e=.returned (.tuple #[.pointer (some ⟨ga,0,none⟩),I 0])/\bE w' ga p.d f m/\w.heap.size<=ga/\br w' base p D/\Step mutD base p w w':=by
 obtain⟨A,c,h⟩:=h;exact (anew_ok h f m h1 h2).mono fun e w' ⟨ga,h1,h2,h3,h4⟩=>⟨ga,h1,h2,h3,(h.below h4).s,Step.of_below h4 hs⟩
end
structure SlV where
 a:Option Addr
 n:Nat
 c:Nat
variable {h:SlV}
def slV (h:SlV):Value:=.slice h.a h.n h.c
theorem slV_one (h:SlV):(slV h).oneCell'=true:=rfl
open Go.RowKit Go.WideShapes Go.ChangeShapes Go.Deep Go.Joins
def fU (w:World)(base:Nat)(t:TypeId)(A:Option Addr):Prop:=∀ g,A.map (·.block)=some g->g<base\/∃ cs,Blk w g t cs
def fy (w:World)(base:Nat)(h:SlV)(L:List UInt8):Prop:=RB w h.a h.n L/\h.n<=maxLen/\(0<h.n->fU w base 5 h.a)
theorem Row.sameB {A:Option Addr}{n:Nat}{f:Nat->Value}(h:Row w A n f)(hs:w.heap.size<=w'.heap.size)(hF:∀ b,A.map (·.block)=some b->b<w.heap.size->w'.heap[b]?=w.heap[b]?):Row w' A n f:=fun h0=>by
 obtain⟨b,o,rfl,hb,hc⟩:=h h0;refine⟨b,o,rfl,Nat.lt_of_lt_of_le hb hs,fun i hi=>?_⟩;rw[<- hc i hi];have:=hF b rfl hb;simp only[World.cell?,this]
section
variable {M:List TypeId} {w w':World} {base:Nat} {p:bJ} {D:aY} {t:TypeId} {A:Option Addr} {n:Nat}
theorem fU.step (h:fU w base t A)(hd:br w base p D)(k:Step M base p w w')(ht:t ∉ 4 :: M):fU w' base t A:=fun g hg=>by
 rcases h g hg with q | ⟨cs,q⟩
 · exact .inl q
 · exact .inr ⟨cs,hd.blk q k.tch ht⟩
theorem fU.heap (h:fU w base t A)(hd:br w base p D)(k:Step M base p w w')(ht:t ∉ 4 :: M):∀ b,A.map (·.block)=some b->b<w.heap.size->w'.heap[b]?=w.heap[b]?:=fun b hb _=>by
 rcases h b hb with q | ⟨cs,q⟩
 · exact k.bel.block b q
 · exact Eq.trans (hd.blk q k.tch ht) (Eq.symm q)
theorem Row.stepR {f:Nat->Value}(h:Row w A n f)(hr:0<n->fU w base t A)(hd:br w base p D)(k:Step M base p w w')(ht:t ∉ 4 :: M):Row w' A n f:=fun h0=>(h.sameB k.size ((hr h0).heap hd k ht)) h0
theorem fy.step (H:fy w base h L)(hd:br w base p D)(k:Step M base p w w')(ht:5 ∉ 4 :: M):fy w' base h L :=
 ⟨⟨H.1.1,H.1.2.stepR H.2.2 hd k ht⟩,H.2.1,fun h0=>(H.2.2 h0).step hd k ht⟩
theorem fy.below (H:fy w base h L)(hb:Below w.heap.size w w'):fy w' base h L :=
 ⟨H.1.below hb aV,H.2.1,fun h0 g hg=>by
  rcases H.2.2 h0 g hg with q | ⟨cs,q⟩
  · exact .inl q
  · exact .inr ⟨cs,q.below hb q.lt⟩⟩
theorem Ow.blk {α:Type}{enc:α->Value}{c:Nat}{l:List α}(h:Ow enc w base t A n c l){g:Nat}(hg:A.map (·.block)=some g):∃ cs,Blk w g t cs:=by
 rcases h.2.2 with ⟨hv,_⟩ | ⟨g',cap,cur,hv,_,hh,_⟩
 · injection hv with hv;subst hv;cases hg
 · injection hv with hv;subst hv;simp only[Option.map_some,Option.some.injEq] at hg;subst hg;exact⟨cur.toList,by unfold Blk;rw[hh]⟩
theorem fy.of_ob {b:Nat}(H:OB w b 5 h.a h.n h.c L):fy w base h L :=
 ⟨H.rd.rb,by have:=H.cap;omega,fun _ g hg=>.inr (H.blk hg)⟩
theorem Rd.take_ {α:Type}{enc:α->Value}{l:List α}(h:Rd enc w A n l)(hm:m<=n):Rd enc w A m (l.take m) :=
 ⟨by rw[aA,h.1];omega,(h.2.take hm).congr fun i hi=>by
  show (l.map enc).getD i undef=((l.take m).map enc).getD i undef
  rw[ag,ag,List.map_take,aK,if_pos hi]⟩
end
