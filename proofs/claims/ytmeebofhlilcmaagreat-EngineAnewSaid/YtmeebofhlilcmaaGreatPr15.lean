/- Parts: PlainSlots, JrnC, PlainArea, DiskO, JrnD, Lists. -/
import Derived.Test.YtmeebofhlilcmaaGreatPr14
set_option linter.unusedVariables false
set_option linter.unusedSimpArgs false
set_option maxRecDepth 100000
set_option maxHeartbeats 0
namespace Go.Proofs.YtmeebofhlilcmaaGreat
variable {f base ga m k many c:Nat} {w w':World} {kind:Int} {p:bw} {D:aX} {img L:List UInt8} {A:Option Addr}
open Go.RowKit
def sumL (l:List UInt8):List UInt8:=le4 (fh [l])
def bZ (n:Nat):Nat:=(n+127) / 128
def fT (now:List UInt8)(f:Nat):Nat->List UInt8
 | 0=>[]
 | k+1=>fT now f k ++ bM now ((f+(1+k):Nat):Int)
theorem bodyL_len {now:List UInt8}{s:Nat}(h:now.length=s * 128):∀ k,f+(1+k)<=s->(fT now f k).length=k * 128:=by
 intro k
 induction k with
 | zero=>intro _;rfl
 | succ k ih=>
   intro hk;unfold fT;rw[ay,ih aS,gF h aS aS];omega
def fp (L:List UInt8):Int:=sg (getL (L.take 8))
def bU (D:aX)(f m:Nat):aX × List UInt8 × Int × Int :=
 if (cN D f m 0 2).2.2≠0 then ((bG D f m 0).1,[],0,(cN D f m 0 2).2.2)
 else if (cN D f m 0 2).2.1.length≠12 then ((bG D f m 0).1,[],0,53)
 else if fp (cN D f m 0 2).2.1<0\/512<fp (cN D f m 0 2).2.1 then ((bG D f m 0).1,[],0,53)
 else if sumL ((fT D.now f (bZ (fp (cN D f m 0 2).2.1).toNat)).take (fp (cN D f m 0 2).2.1).toNat)=(cN D f m 0 2).2.1.drop 8
 then (rdK (bG D f m 0).1 (bZ (fp (cN D f m 0 2).2.1).toNat),(fT D.now f (bZ (fp (cN D f m 0 2).2.1).toNat)).take (fp (cN D f m 0 2).2.1).toNat,(cN D f m 0 2).1,0)
 else (rdK (bG D f m 0).1 (bZ (fp (cN D f m 0 2).2.1).toNat),[],0,53)
structure SlV3 where
 now:Nat
 number:Int
 load:List UInt8
def dg (D:aX)(fl ml fr mr:Nat):aX × SlV3 × Int :=
 if (bU D fl ml).2.2.2≠0/\(bU D fl ml).2.2.2≠53 then ((bU D fl ml).1,⟨2,0,[]⟩,(bU D fl ml).2.2.2)
 else if (bU (bU D fl ml).1 fr mr).2.2.2≠0/\(bU (bU D fl ml).1 fr mr).2.2.2≠53 then ((bU (bU D fl ml).1 fr mr).1,⟨2,0,[]⟩,(bU (bU D fl ml).1 fr mr).2.2.2)
 else if (bU D fl ml).2.2.2=0/\((bU (bU D fl ml).1 fr mr).2.2.2≠0\/(bU (bU D fl ml).1 fr mr).2.2.1<=(bU D fl ml).2.2.1) then ((bU (bU D fl ml).1 fr mr).1,⟨0,(bU D fl ml).2.2.1,(bU D fl ml).2.1⟩,0)
 else if (bU (bU D fl ml).1 fr mr).2.2.2=0 then ((bU (bU D fl ml).1 fr mr).1,⟨1,(bU (bU D fl ml).1 fr mr).2.2.1,(bU (bU D fl ml).1 fr mr).2.1⟩,0)
 else ((bU (bU D fl ml).1 fr mr).1,⟨2,0,[]⟩,0)
def padL (load:List UInt8)(i:Nat):List UInt8:=(load.drop (i * 128)).take 128 ++ List.replicate (128 - ((load.drop (i * 128)).take 128).length) 0
theorem nj (load:List UInt8)(i:Nat):(padL load i).length=128:=by
 unfold padL;rw[ay,List.length_replicate,aA];omega
def eu (D:aX)(f m:Nat)(load:List UInt8):Nat->Nat->aX × Int
 | _,0=>(D,0)
 | i,k+1=>if (bC D f m ((1+i:Nat):Int) (padL load i)).2≠0 then bC D f m ((1+i:Nat):Int) (padL load i) else eu (bC D f m ((1+i:Nat):Int) (padL load i)).1 f m load (i+1) k
def dO (D:aX)(f m:Nat)(load:List UInt8):aX × Int :=
 if (eu D f m load 0 (bZ load.length)).2≠0 then eu D f m load 0 (bZ load.length) else bu (eu D f m load 0 (bZ load.length)).1
def dG (load:List UInt8):List UInt8:=putL (un load.length) ++ sumL load
def dV (D:aX)(f m:Nat)(number:Int)(load:List UInt8):aX × Int :=
 if (bC D f m 0 be).2≠0 then bC D f m 0 be
 else if (bu (bC D f m 0 be).1).2≠0 then bu (bC D f m 0 be).1
 else if (dO (bu (bC D f m 0 be).1).1 f m load).2≠0 then dO (bu (bC D f m 0 be).1).1 f m load
 else if (cy (dO (bu (bC D f m 0 be).1).1 f m load).1 f m 0 2 number (dG load)).2≠0 then cy (dO (bu (bC D f m 0 be).1).1 f m load).1 f m 0 2 number (dG load)
 else bu (cy (dO (bu (bC D f m 0 be).1).1 f m load).1 f m 0 2 number (dG load)).1
def dc (D:aX)(fl ml fr mr:Nat)(s:SlV3)(load:List UInt8):aX × SlV3 × Int :=
 if 512<load.length\/s.number=9223372036854775807 then (D,s,3)
 else if (dV D (if s.now=0 then fr else fl) (if s.now=0 then mr else ml) (s.number+1) load).2≠0 then ((dV D (if s.now=0 then fr else fl) (if s.now=0 then mr else ml) (s.number+1) load).1,s,(dV D (if s.now=0 then fr else fl) (if s.now=0 then mr else ml) (s.number+1) load).2)
 else ((dV D (if s.now=0 then fr else fl) (if s.now=0 then mr else ml) (s.number+1) load).1,⟨if s.now=0 then 1 else 0,s.number+1,load⟩,0)
theorem writeV_many (D:aX)(n:Int)(b:List UInt8):(eE D n b).1.many=D.many/\(eE D n b).1.waits.length<=D.waits.length+1:=by
 unfold eE
 split
 · exact⟨rfl,by simp⟩
 · split
   · exact⟨rfl,by simp⟩
   · exact⟨rfl,by simp[ep,putD]⟩
theorem iV (D:aX)(f m:Nat)(n:Int)(b:List UInt8):(bC D f m n b).1.many=D.many/\(bC D f m n b).1.waits.length<=D.waits.length+1:=by
 unfold bC
 split
 · exact⟨rfl,by simp⟩
 · exact writeV_many _ _ _
def dH (D:aX)(f m:Nat):List Int->aX × Int
 | []=>(D,0)
 | n :: l=>if (bC D f m n be).2≠0 then bC D f m n be else dH (bC D f m n be).1 f m l
def ee (D:aX)(f m:Nat)(kind:Int):aX × Int:=dH (rdK D m) f m (bS D.now f kind m).2.2
def bJ (D:aX)(f m:Nat)(kind:Int):aX × Nat × Int :=
 if kind<1\/255<kind then (D,0,2)
 else if D.off=true then (D,0,50)
 else if (ee D f m kind).2≠0 then ((ee D f m kind).1,0,(ee D f m kind).2)
 else if (bS D.now f kind m).2.2=[] then ((ee D f m kind).1,(bS D.now f kind m).2.1,0)
 else if (bu (ee D f m kind).1).2≠0 then ((bu (ee D f m kind).1).1,0,(bu (ee D f m kind).1).2)
 else ((bu (ee D f m kind).1).1,(bS D.now f kind m).2.1,0)
def gw (w:World)(base ga:Nat)(kind:Int)(p:bw)(R:aX × Nat × Int)(e:Ending)(w':World):Prop :=
 ∃ P,e=.returned (.tuple #[.pointer P,I R.2.2])/\(R.2.2≠0->P=none)/\(R.2.2=0->∃ gj,P=some ⟨gj,0,none⟩/\w.heap.size<=gj/\cV w' gj ga kind R.2.1)/\bc w' base p R.1/\Step mutD base p w w'
theorem gw.no {z:Int}(hz:z≠0)(hd:bc w' base p D)(hs:Step mutD base p w w'):gw w base ga kind p (D,0,z) (.returned (.tuple #[.pointer none,I z])) w' :=
 ⟨none,rfl,fun _=>rfl,fun e=>absurd e hz,hd,hs⟩
theorem gw.yes {gj next:Nat}(hg:w.heap.size<=gj)(hj:cV w' gj ga kind next)(hd:bc w' base p D)(hs:Step mutD base p w w'):gw w base ga kind p (D,next,0) (.returned (.tuple #[.pointer (some ⟨gj,0,none⟩),I 0])) w' :=
 ⟨_,rfl,fun e=>absurd rfl e,fun _=>⟨gj,rfl,hg,hj⟩,hd,hs⟩
section
variable {w w':World} {base ga f m:Nat} {kind:Int} {p:bw} {D:aX}
theorem jopen_kind (ha:br w ga p.d f m)(hm:1<=m)(hd:bc w base p D)(h:kind<1\/255<kind):Ca 253 #[.pointer (some ⟨ga,0,none⟩),I kind] w (gw w base ga kind p (D,0,2)):=by
 have hmany:=ic ha;have hc:kind<1\/(1<=kind/\255<kind):=aS;have hmz:((m:Int) == 0)=false:=by rw[ae];omega
 have HD:=aT hd;clear h hd ha;rcases hc with h1 | ⟨h1,h2⟩
 all_goals
  go_enter Tryz.func253,Tryz.ntmps253;go_wp2_with (first | (go_at_call 113;go_call (hmany) as e w1 ⟨rfl,rfl⟩) | fail);go_ret2;exact gw.no a8 HD.out (Step.refl _ _ _ _)
theorem jrn_new (w:World)(ga:Nat)(kind:Int):cV (w.alloc (.cells #[.pointer (some ⟨ga,0,none⟩),I kind,I 0] 363)) w.heap.size ga kind 0:=Blk.top _ rfl rfl
theorem jopen_off (ha:br w ga p.d f m)(hm:1<=m)(hd:bc w base p D)(hs:base<=w.heap.size)(h1:1<=kind)(h2:kind<=255)(hfm:f+m<=D.many)(hoff:D.off=true)(hok:D.Ok) :
 Ca 253 #[.pointer (some ⟨ga,0,none⟩),I kind] w (gw w base ga kind p (D,0,50)):=by
 have hmany:=ic ha;have hmz:((m:Int) == 0)=false:=by rw[ae];omega
 have bA:Below w.heap.size w (w.alloc (.cells #[.pointer (some ⟨ga,0,none⟩),I kind,I 0] 363)):=(Below.refl _ _).alloc aW _;have hrd:=jread_off (jrn_new w ga kind) (hd.below bA) (by have:=bA.size;omega) (ha.below bA) hm hfm hoff hok;have BA:=aT bA;clear ha hd hok bA;go_enter Tryz.func253,Tryz.ntmps253;go_wp2_with (first | (go_at_call 113;go_call (hmany) as e w1 ⟨rfl,rfl⟩) | ((go_at_call 293;go_call (hrd) as e w2 ⟨rfl,h2,s2⟩)) | fail);go_ret2;exact gw.no a8 h2 ((Step.of_below BA.out hs).trans s2)
theorem kM {n:Int}{l:List Int}(h:(bC D f m n be).2=0):dH D f m (n :: l)=dH (bC D f m n be).1 f m l:=by
 show (if (bC D f m n be).2≠0 then _ else _)=_
 rw[if_neg aS]
theorem kN {n:Int}{l:List Int}(h:(bC D f m n be).2≠0):dH D f m (n :: l)=bC D f m n be:=by
 show (if (bC D f m n be).2≠0 then _ else _)=_
 rw[if_pos h]
theorem jopen_on (ha:br w ga p.d f m)(hm:1<=m)(hd:bc w base p D)(hs:base<=w.heap.size)(h1:1<=kind)(h2:kind<=255)(hfm:f+m<=D.many)(hoff:D.off=false)(hok:D.Ok)(hwt:D.waits.length<900000) :
 Ca 253 #[.pointer (some ⟨ga,0,none⟩),I kind] w (gw w base ga kind p (bJ D f m kind)):=by
 have hmany:=ic ha;have hmz:((m:Int) == 0)=false:=by rw[ae];omega
 have bA:Below w.heap.size w (w.alloc (.cells #[.pointer (some ⟨ga,0,none⟩),I kind,I 0] 363)):=(Below.refl _ _).alloc aW _;have hrd:=jread_on (jrn_new w ga kind) (hd.below bA) (by have:=bA.size;omega) hs (ha.below bA) hfm hoff hok;have hm4:f+m<=4096:=by have:=hok.many1;omega
 have hle:=lQ D.now f kind m;have hun:bJ D f m kind=if (ee D f m kind).2≠0 then ((ee D f m kind).1,0,(ee D f m kind).2)
  else if (bS D.now f kind m).2.2=[] then ((ee D f m kind).1,(bS D.now f kind m).2.1,0)
  else if (bu (ee D f m kind).1).2≠0 then ((bu (ee D f m kind).1).1,0,(bu (ee D f m kind).1).2)
  else ((bu (ee D f m kind).1).1,(bS D.now f kind m).2.1,0):=by
  unfold bJ;rw[if_neg aS,if_neg (by rw[hoff];simp)]
 unfold ee at hun;obtain⟨o,eo⟩:=gv D m;have hm1:(rdK D m).many=D.many:=by rw[eo]
 have hw1:(rdK D m).waits.length=D.waits.length:=by rw[eo]
 generalize bJ D f m kind=R at *;generalize bS D.now f kind m=sc at *;obtain⟨op,nx,dl⟩:=sc;generalize rdK D m=D1 at *;simp only at hun hle hrd;have BA:=aT bA;have HA:=aT ha;have HD:=aT hd;have HUN:=aT hun;clear ha hd hok bA eo hun;go_enter Tryz.func253,Tryz.ntmps253;go_wp2_with (first | (go_at_call 113;go_call (hmany) as e w1 ⟨rfl,rfl⟩) | ((go_at_call 293;go_call (hrd) as e w2 ⟨B,N,c,rfl,o2,h2,j2,s2,t2⟩);have O2:=aT o2;have H2:=aT h2;have J2:=aT j2;have S2:=aT (Step.noJrn BA.out s2 t2 aW hs);clear o2 h2 j2 s2 t2) | fail);have hNl:=O2.out.1;have sz2:=S2.out.size;have hA2:=HD.out.area HA.out S2.out.tch aU;have HA2:=aT hA2;clear hA2;go_loopw [10,11,38] (fun _ _ i wr=>∃ (j:Nat) (Dj:aX),j<=N/\i=I (j:Nat)/\dH D1 f m dl=dH Dj f m (dl.drop j)/\Dj.many=D.many/\Dj.waits.length<=D.waits.length+j/\bc wr base p Dj/\Step mutD base p w2 wr) (fun _ _ i _=>N - (intOf i).toNat)
 case atStart=>exact⟨0,D1,aS,rfl,rfl,hm1,aS,H2.out,Step.refl _ _ _ _⟩
 case round=>
  obtain⟨j,Dj,hj,rfl,hwk,hmj,hwj,hdj,hst⟩:=hrel;have hsts:=hst.size;have hjj:cV wr w.heap.size ga kind nx:=H2.out.blk J2.out hst.tch aU;have haj:=H2.out.area HA2.out hst.tch aU;have hoj:=H2.out.ow O2.out hst.tch aU;have HWK:=aT hwk;have HDJ:=aT hdj;have HST:=aT hst
  by_cases hlt:j<N
  · obtain⟨b,o,hB,hb,hcell⟩:=hoj.rd.2.at_ hlt;have hjl:j<dl.length:=aS;have hdr:=aR hjl;have hval:wr.cell? ⟨b,o+j,none⟩=some (I dl[j]):=by rw[hcell,gO dl j hjl];rfl
    have hwp:=s_awipe hdj aS haj (by rw[hmj];exact hfm) dl[j] aS;obtain⟨q1,q2⟩:=iV Dj f m dl[j] be;rw[hdr] at hwk
    by_cases he:(bC Dj f m dl[j] be).2=0
    · rw[kM he] at hwk;rw[he] at hwp;generalize (bC Dj f m dl[j] be).1=Dn at *;generalize dl[j]=nn at *;have HW2:=aT hwk;clear hwk hdj he hdr hoj hcell;subst hB;go_wp2_with (first | (go_at_call 198;go_call (hwp) as e w3 ⟨rfl,h3,s3⟩) | fail);go_roundw
      case rel=>first
       | exact⟨j+1,Dn,aS,by go_num,HW2.out,aS,by omega,h3,HST.out.trans s3⟩
       | ((repeat apply Exists.intro);exact⟨⟨j+1,Dn,aS,by go_num,HW2.out,aS,by omega,h3,HST.out.trans s3⟩,rfl⟩)
      case measure=>simp[intOf];omega
    · rw[kN he] at hwk;have hR:=HUN.out;rw[hwk,if_pos he] at hR;subst hR;generalize bC Dj f m dl[j] be=P at *;obtain⟨Dn,z⟩:=P;simp only at hwp he;generalize dl[j]=nn at *;have hne:(z != 0)=true:=by rw[ag];exact he
      have HE:=aT he;clear hwk hdj he hdr hoj hcell HUN HWK q1 q2;subst hB;go_wp2_with (first | (go_at_call 198;go_call (hwp) as e w3 ⟨rfl,h3,s3⟩) | fail);go_ret2;exact gw.no HE.out h3 ((S2.out.trans HST.out).trans s3)
  · have hjN:j=N:=aS;subst hjN;have hdr:dl.drop j=[]:=aO aS;rw[hdr] at hwk;have hR:=HUN.out;rw[hwk,show dH Dj f m []=(Dj,0) from rfl,if_neg a8] at hR;simp only at hR
    by_cases hd0:dl=[]
    · rw[if_pos hd0] at hR;have hj0:j=0:=by rw[<- hNl,hd0];rfl
      subst hj0 hR;have HJJ:=aT hjj;clear hwk hdj hdr hoj HUN HWK hjj haj;go_wp2;go_ret2;exact gw.yes aW HJJ.out HDJ.out (S2.out.trans HST.out)
    · rw[if_neg hd0] at hR;have hj0:0<j:=by
       rcases aI j with q | q
       · exact absurd (List.eq_nil_of_length_eq_zero aS) hd0
       · exact q
      have hfl:=jG hdj aS haj;generalize bu Dj=FV at *;obtain⟨Df,z⟩:=FV;simp only at hR hfl;have HJJ:=aT hjj
      by_cases hz:z=0
      · subst hz;rw[if_neg a8] at hR;subst hR;clear hwk hdj hdr hoj HUN HWK hjj haj hd0;go_wp2_with (first | (go_at_call 116;go_call (hfl) as e w3 ⟨rfl,h3,s3⟩) | fail);go_ret2;exact gw.yes aW (HDJ.out.blk HJJ.out s3.tch aU) h3 ((S2.out.trans HST.out).trans s3)
      · rw[if_pos hz] at hR;subst hR;have hne:(z != 0)=true:=by rw[ag];exact hz
        have HZ:=aT hz;clear hwk hdj hdr hoj HUN HWK hjj haj hd0 hz;go_wp2_with (first | (go_at_call 116;go_call (hfl) as e w3 ⟨rfl,h3,s3⟩) | fail);go_ret2;exact gw.no HZ.out h3 ((S2.out.trans HST.out).trans s3)
theorem jopen_any (ha:br w ga p.d f m)(hm:1<=m)(hd:bc w base p D)(hs:base<=w.heap.size)(hfm:f+m<=D.many)(hwt:D.waits.length<900000) :
 Ca 253 #[.pointer (some ⟨ga,0,none⟩),I kind] w (gw w base ga kind p (bJ D f m kind)):=by
 have hok:D.Ok:=by obtain⟨A,c,h⟩:=hd;exact h.ok
 by_cases hk:kind<1\/255<kind
 · have:bJ D f m kind=(D,0,2):=by unfold bJ;rw[if_pos hk]
   rw[this];exact jopen_kind ha hm hd hk
 · cases ho:D.off with
   | true=>
     have:bJ D f m kind=(D,0,50):=by unfold bJ;rw[if_neg hk,if_pos ho]
     rw[this];exact jopen_off ha hm hd hs aS aS hfm ho hok
   | false=>exact jopen_on ha hm hd hs aS aS hfm ho hok hwt
end
theorem secOf_splice {l b:List UInt8}{n:Nat}(hl:l.length=many * 128)(hb:b.length=128)(hn:n<many)(hk:k<many):bM (splice l (n * 128) b) (k:Int)=if k=n then b else bM l (k:Int):=by
 have h1:(bM (splice l (n * 128) b) (k:Int)).length=128:=gF (s:=many) (by rw[iF (by rw[hl,hb];omega),hl]) aS aS;have h2:(bM l (k:Int)).length=128:=gF (s:=many) hl aS aS;have ext:∀ {x y:List UInt8},x.length=128->y.length=128->(∀ i,i<128->bj x i=bj y i)->x=y:=by
  intro x y hx hy h;apply List.ext_getElem aS;intro i q1 q2;have:=h i aS;unfold bj at this;rw[af,af,ap q1,ap q2] at this;exact UInt8.toNat_inj.1 this
 split
 · rename_i e;subst e;refine ext h1 hb (fun i hi=>?_);rw[js hi,iG (by rw[hl,hb];omega),if_pos (by rw[hb];omega),Nat.add_sub_cancel_left]
 · rename_i e;refine ext h1 h2 (fun i hi=>?_);rw[js hi,js hi,iG (by rw[hl,hb];omega),if_neg (by rw[hb];omega)]
def imgK (img:List UInt8)(many k:Nat):List UInt8:=img.take (k * 128) ++ List.replicate (many * 128 - min img.length (k * 128)) 0
def gG (many k:Nat):List Bool:=List.replicate k true ++ List.replicate (many - k) false
def ig (many:Nat)(room:Int)(img:List UInt8)(k:Nat):aX:={ newV many room with kept:=imgK img many k,now:=imgK img many k,inuse:=gG many k,might:=gG many k }
def gH (img:List UInt8):Nat:=(img.length+127) / 128
theorem iW (h:img.length<=many * 128):(imgK img many k).length=many * 128:=by
 unfold imgK;rw[ay,aA,List.length_replicate];omega
theorem lR (h:k<=many):(gG many k).length=many:=by unfold gG;rw[ay,List.length_replicate,List.length_replicate];omega
theorem trueK_succ (h:k<many):(gG many k).set k true=gG many (k+1):=by
 unfold gG;rw[List.set_append_right _ _ a8,List.length_replicate,Nat.sub_self,show many - k=(many - (k+1))+1 by omega,List.replicate_succ,List.set_cons_zero,List.replicate_succ'];simp
theorem imgK_zero (img:List UInt8)(many:Nat):imgK img many 0=List.replicate (many * 128) 0:=by simp[imgK]
theorem loadD_zero (many:Nat)(room:Int)(img:List UInt8):ig many room img 0=newV many room:=by
 unfold ig;rw[imgK_zero];have:gG many 0=List.replicate many false:=by simp[gG]
 rw[this];rfl
theorem imgK_succ (h:img.length<=many * 128)(hk:k * 128<img.length):splice (imgK img many k) (k * 128) ((img.drop (k * 128)).take 128)=imgK img many (k+1):=by
 unfold splice imgK;have h1:(img.take (k * 128)).length=k * 128:=by rw[aA];omega
 have h2:((img.drop (k * 128)).take 128).length=min 128 (img.length - k * 128):=by rw[aA,aG]
 rw[List.take_append_of_le_length aS,au aS,h2,List.drop_append,h1,aO (show (img.take (k * 128)).length<=k * 128+min 128 (img.length - k * 128) by omega),List.nil_append,List.drop_replicate,<- aM]
 congr 1
 · rw[show (k+1) * 128=k * 128+128 by omega,List.take_add]
 · congr 1;omega
theorem imgK_byte {q:Nat}(h:img.length<=many * 128)(hq:q<many * 128):bj (imgK img many k) q=if q<k * 128 then bj img q else 0:=by
 unfold bj imgK;rw[af,af]
 by_cases h1:q<min img.length (k * 128)
 · rw[aP jV,aH,if_pos aS,if_pos aS]
 · rw[aK jV,List.getElem?_replicate,aA];have e0:∀ b:Bool,((if b=true then some (0:UInt8) else none).getD 0).toNat=0:=fun b=>by cases b <;> rfl
   have e1:=e0 (decide (q - min (k * 128) img.length<many * 128 - min img.length (k * 128)));simp only[aq] at e1;rw[e1]
   split
   · rw[aE aS];rfl
   · rfl
theorem nm {x y:List UInt8}(hx:x.length=y.length)(h:∀ i,i<y.length->bj x i=bj y i):x=y:=by
 apply List.ext_getElem aS;intro i q1 q2;have:=h i aS;unfold bj at this;rw[af,af,ap q1,ap q2] at this;exact UInt8.toNat_inj.1 this
theorem imgK_sec (h:img.length<=many * 128)(hk:k<many):splice (imgK img many k) (k * 128) (bM (imgK img many (k+1)) (k:Int))=imgK img many (k+1):=by
 have hs:(bM (imgK img many (k+1)) (k:Int)).length=128:=gF (iW h) aS aS;have hl:=iW (k:=k) h;have hl1:=iW (k:=k+1) h;refine nm (by rw[iF aS,hl,hl1]) (fun i hi=>?_);rw[hl1] at hi;rw[iG aS,hs]
 split
 · rename_i hq;rw[js aS,show k * 128+(i - k * 128)=i by omega]
 · rename_i hq;rw[imgK_byte h hi,imgK_byte h hi]
   by_cases q:i<k * 128
   · rw[if_pos q,if_pos aS]
   · rw[if_neg q,if_neg aS]
theorem loadD_ok {room:Int}(h0:1<=many)(h1:many<=4096)(r0:0<=room)(r1:room<=many)(h:img.length<=many * 128)(hk:k<=many):(ig many room img k).Ok :=
 ⟨h0,h1,iW h,iW h,lR hk,lR hk,fun p hp=>(by cases hp),⟨r0,r1⟩,⟨by show (-1:Int)<=-1;omega,by show (-1:Int)<=_;omega⟩,by show 0<=1000000;omega⟩
theorem bq.ldS (h:bq w base p A c D) :
 w.cell? ⟨p.d,0,none⟩=some (.slice (some ⟨p.gk,0,none⟩) D.many D.many)/\w.cell? ⟨p.d,1,none⟩=some (.slice (some ⟨p.gn,0,none⟩) D.many D.many)/\w.cell? ⟨p.d,2,none⟩=some (.slice (some ⟨p.gi,0,none⟩) D.many D.many) /\
  w.cell? ⟨p.d,3,none⟩=some (.slice (some ⟨p.gm,0,none⟩) D.many D.many)/\w.rangeAt p.gk (k * 128) ((bM D.kept (k:Int)).map bv) :=
 ⟨h.cells.1,h.cells.2.1,h.cells.2.2.1,h.cells.2.2.2.1,h.bk.range (n:=128) (by unfold bM;rw[ax,List.map_take,List.map_drop])⟩
theorem bq.setMight' (h:bq w base p A c D)(n:Nat)(b:Bool){L:List Bool}(hL:D.might.set n b=L):bq (w.setCell ⟨p.gm,n,none⟩ (.bool b)) base p A c { D with might:=L }:=by subst hL;exact h.setMight n b
theorem bq.setIn' (h:bq w base p A c D)(n:Nat)(b:Bool){L:List Bool}(hL:D.inuse.set n b=L):bq (w.setCell ⟨p.gi,n,none⟩ (.bool b)) base p A c { D with inuse:=L }:=by subst hL;exact h.setIn n b
def LdPost (w:World)(D:aX)(e:Ending)(w':World):Prop:=∃ p,e=.returned (.tuple #[.pointer (some ⟨p.d,0,none⟩),I 0])/\bc w' w.heap.size p D/\Below w.heap.size w w'
theorem load_ok (B:Option Addr)(n d:Nat)(img:List UInt8)(many:Nat)(room:Int)(w:World)(hr:RB w B n img)(hnd:n<=d)(h0:1<=many)(h1:many<=4096)(r0:0<=room)(r1:room<=many)(hl:n<=many * 128)(hu:(gH img:Int)<=room) :
 Ca 41 #[.slice B n d,I (many:Int),I room] w (LdPost w (ig many room img (gH img))):=by
 have hnew:=new_ok many room w h0 h1 r0 r1;rw[<- loadD_zero many room img] at hnew;have hlen:=hr.1;have hus:gH img=(n+127) / 128:=by unfold gH;rw[hlen]
 obtain⟨N,hN⟩:∃ N,N=gH img:=⟨_,rfl⟩;rw[<- hN] at hu hus ⊢;have HN:=aT hN;have hNm:N<=many:=aS;have hq:((n:Int)+127) / 128=(N:Int):=aS;clear hN;go_enter Tryz.func41,Tryz.ntmps41;go_wp2_with (first | ((go_at_call 28;go_call (hnew) as e w1 ⟨p,rfl,hd1,hb1⟩);have H1:=aT hd1;have s1:=hb1.size;clear hd1) | fail);go_loopw [11,37] (fun _ i wr=>∃ k:Nat,k<=N/\i=I (k:Nat)/\bq wr w.heap.size p none 0 (ig many room img k)/\Below w.heap.size w wr) (fun _ i _=>N - (intOf i).toNat)
 case atStart=>exact⟨0,aS,rfl,H1.out,hb1⟩
 case round=>
  obtain⟨k,hk,rfl,hX,hbel⟩:=hrel
  by_cases hlt:k<N
  · have hkn:k * 128<n:=aS;have hkm:k<many:=aS;have hkI2:(k:Int)<many:=aS;have hbs:=hbel.size;obtain⟨X,hXe⟩:∃ X,X=(if d=k * 128 then B else B.map (·.add (k * 128))):=⟨_,rfl⟩;obtain⟨C,hC⟩:∃ C,C=d - k * 128:=⟨_,rfl⟩;have hcut:∀ W:World,(Instr.slice 27 (.slice B n d) (some (I ((k:Int) * 128))) none none).run Tryz.prog W=.ok (.slice X (n - k * 128) C) W:=fun W=>by
     have:=jx (P:=Tryz.prog) cu B n d (k * 128) aS W;rw[Nat.mul_one,<- hXe,<- hC] at this;rw[<- this];rfl
    have hrX:RB wr X (n - k * 128) (img.drop (k * 128)):=by
     have hrw:=hr.below hbel aW;refine⟨by rw[aG,hlen],?_⟩;rw[hXe];exact (Row.cut hrw.2 aS hnd).congr fun i hi=>by
      unfold bj;rw[af,af,List.getElem?_drop]
    have hfirst:=aT (imgK_succ (many:=many) (k:=k) jZ (by rw[hlen];exact hkn));have hsec:=aT (imgK_sec (img:=img) (many:=many) (k:=k) jZ hkm);have htr:=aT (trueK_succ hkm);have hli:=aT (iW (img:=img) (many:=many) (k:=k+1) jZ);have e0:=hX.cells.1;have hcut1:=fun o=>lP (P:=Tryz.prog) Tryz.underlying205 bO p.gk o
    have hwr:Hid (IntKind.i64.wrap ((k:Int) * 128)=(k:Int) * 128):=by show _=_;go_arith
    have HX:=aT hX;have HR:=aT hrX;have Hi:=aT (zero_of_info dq).2
    change wr.cell? _=some (.slice (some ⟨p.gk,0,none⟩) many many) at e0
    clear hX hXe hC hrX hus;go_wp2;refine wp_region_held_drew (S:=fun w'=>w'.cell? ⟨p.d,0,none⟩=some (.slice (some ⟨p.gk,0,none⟩) many many)) bO e0 (fun hHeld=>?_);refine aV 0 ?_;refine aV 1 ?_;refine aV 2 ?_;refine aV 3 ?_;refine aV 4 ?_;refine aV 5 ?_;refine aV 6 ?_;refine aV 7 ?_;refine aV 8 ?_;refine aV 9 ?_ (hy:=Or.inl ⟨by rfl,by (intro w hSw;(try dsimp only at hSw);go_simp;simp only[hwr.out];rfl)⟩);refine aV 10 ?_;refine bL 11 (fun K hK=>?_);have HXd:=aT (HX.out.drewN 1:bq wr.drew w.heap.size p none 0 _);refine jT rfl rfl cu cY (dLen:=128) (dCap:=128) (off:=k * 128) (l:=imgK img many k) (k:=img.drop (k * 128)) (L:=imgK img many (k+1)) rfl rfl (fun _=>rfl) HXd.out.bk (Rd.drew' HR.out.rd) (by rw[iW jZ];omega) hfirst.out ?_;intro w2 hb2 hg2 hs2;have h2:=HXd.out.turnKept (w':=w2) (Keep.one hg2) hb2 hli.out;have b2:=(Below.drew hbel).trans (HXd.out.belowK ((Keep.one hg2).mono (fun g _ e=>.inr (.inl e))) hbs);have e02:=h2.cells.1
    change w2.cell? _=some (.slice (some ⟨p.gk,0,none⟩) many many) at e02
    have H2:=aT h2;clear h2;refine hK.out _ _ (e02) (fun hHeld=>?_);clear hK K;refine bB ?_;refine wpAnyH_done bP ?_ _;obtain⟨f0,f1,f2,f3,f4⟩:=H2.out.ldS (k:=k);have hsl:Hid (((bM (imgK img many (k+1)) (k:Int)).map bv).length=128):=by show _=_;rw[av,gF (s:=many) hli.out aS aS]
    have hsm:=aT (eh (l:=bM (imgK img many (k+1)) (k:Int)))
    change w2.cell? _=some (.slice (some ⟨p.gk,0,none⟩) many many) at f0
    change w2.cell? _=some (.slice (some ⟨p.gn,0,none⟩) many many) at f1
    change w2.cell? _=some (.slice (some ⟨p.gi,0,none⟩) many many) at f2
    change w2.cell? _=some (.slice (some ⟨p.gm,0,none⟩) many many) at f3
    change w2.rangeAt p.gk (k * 128) ((bM (imgK img many (k+1)) (k:Int)).map bv) at f4
    obtain⟨SV,hSV⟩:∃ SV,SV=(bM (imgK img many (k+1)) (k:Int)).map bv:=⟨_,rfl⟩;rw[<- hSV] at hsl hsm f4;have HSV:=aT hSV;clear hSV;go_wp2;refine wp_region_held_drew (S:=fun w'=>w'.cell? ⟨p.d,0,none⟩=some (.slice (some ⟨p.gk,0,none⟩) many many)/\w'.cell? ⟨p.d,1,none⟩=some (.slice (some ⟨p.gn,0,none⟩) many many)/\w'.cell? ⟨p.d,2,none⟩=some (.slice (some ⟨p.gi,0,none⟩) many many)/\w'.cell? ⟨p.d,3,none⟩=some (.slice (some ⟨p.gm,0,none⟩) many many)/\w'.rangeAt p.gk (k * 128) SV) bO ⟨f0,f1,f2,f3,f4⟩ (fun hHeld=>?_);refine aV 0 ?_;refine aV 1 ?_;refine aV 2 ?_;refine aV 3 ?_ (hy:=Or.inl ⟨by rfl,by (exact lq)⟩);refine aV 4 ?_;refine aV 5 ?_;refine aV 6 ?_;refine aV 7 ?_;refine aV 8 ?_ (hy:=Or.inl ⟨by rfl,by (exact lq)⟩);refine aV 9 ?_;refine aV 10 ?_;refine aV 11 ?_;refine aV 12 ?_;refine aV 13 ?_ (hy:=Or.inl ⟨by rfl,by (exact lq)⟩);refine aV 14 ?_;refine aV 15 ?_;refine aV 16 ?_;refine aV 17 ?_;refine aV 18 ?_ (hy:=Or.inl ⟨by rfl,by (exact lq)⟩);refine aV 19 ?_;refine aV 20 ?_;refine wpAnyH_take (i:=21) (v:=_) rfl bP bP bP (fun _ _ _ h=>h) (yieldsIf_load_mid (by rfl) _ _ rfl _ _ rfl SV _ (fun _ h=>h.2.2.2.2) Tryz.underlying205 rfl (by rw[hsl.out];exact Hi.out)) gq ?_;refine bB ?_;refine aV 22 ?_;refine bL 23 (fun K hK=>?_);rw[if_pos (by rfl)];refine wp_store_mid 205 (.tmp 74) (.tmp 73) rfl p.gn (k * 128) SV.toArray rfl rfl (by rw[List.size_toArray,hsl.out];exact (H2.out.drewN 1).bn.there (k * 128) 128 (by rw[av];show k * 128+128<=(imgK img many k).length;rw[iW jZ];omega)) (by rw[List.size_toArray,hsl.out];exact Hi.out) (all_oneCell_toArray hsm.out) ?_;have hD3:bq w2.drew w.heap.size p none 0 _:=H2.out.drewN 1;have hbn3:=Blk.setCells SV (k * 128) w2.drew _ hD3.bn (by rw[av,hsl.out];show k * 128+128<=(imgK img many k).length;rw[iW jZ];omega);have kn3:Keep (·=p.gn) w2.drew (w2.drew.setCells p.gn (k * 128) SV):=Keep.one (ll _ _ _ _);rw[HSV.out] at hbn3;have hspl:splice (((imgK img many k)).map bv) (k * 128) ((bM (imgK img many (k+1)) (k:Int)).map bv)=(imgK img many (k+1)).map bv:=by rw[mC,hsec.out]
    have h3:=bq.turnNow (w':=w2.drew.setCells p.gn (k * 128) SV) (l:=imgK img many (k+1)) hD3 kn3 (by rw[HSV.out];unfold BlkB;rw[<- hspl];exact hbn3) hli.out;obtain⟨f0,f1,f2,f3,f4⟩:=h3.ldS (k:=k)
    change (w2.drew.setCells p.gn (k * 128) SV).rangeAt p.gk (k * 128) ((bM (imgK img many (k+1)) (k:Int)).map bv) at f4
    rw[<- HSV.out] at f4;have b3:=(Below.drew b2).trans (hD3.belowK (kn3.mono (fun g _ e=>.inr (.inr (.inl e)))) (show w.heap.size<=w2.heap.size from b2.size));have H3:=aT h3;have B3:=aT b3;simp only[List.toList_toArray];clear h3 b3 hbn3 hspl;generalize w2.drew.setCells p.gn (k * 128) SV=w3 at *;refine hK.out _ _ (⟨f0,f1,f2,f3,f4⟩) (fun hHeld=>?_);clear hK K;refine bB ?_;refine aV 24 ?_;refine bL 25 (fun K hK=>?_);have ei:=iU H3.out.bi k (show k<(gG many k).length by rw[lR aS];omega);have fi:=H3.out.bi.frozen k;go_simp;have h4:=H3.out.setIn' k true (L:=gG many (k+1)) htr.out;obtain⟨f0,f1,f2,f3,f4⟩:=h4.ldS (k:=k)
    change (w3.setCell ⟨p.gi,k,none⟩ (.bool true)).rangeAt p.gk (k * 128) ((bM (imgK img many (k+1)) (k:Int)).map bv) at f4
    rw[<- HSV.out] at f4;have H4:=aT h4;have hg0:=H3.out.bs p.gi (.inr (.inr (.inr (.inl rfl))));have B4:=aT (Below.setCell B3.out (p:=⟨p.gi,k,none⟩) hg0 (.bool true));clear h4;refine hK.out _ _ (⟨f0,f1,f2,f3,f4⟩) (fun hHeld=>?_);clear hK K;refine bB ?_;refine aV 26 ?_;refine bL 27 (fun K hK=>?_);have em:=iU H4.out.bm k (show k<(gG many k).length by rw[lR aS];omega);have fm:=H4.out.bm.frozen k;go_simp;have h5:=H4.out.setMight' k true (L:=gG many (k+1)) htr.out;obtain⟨f0,f1,f2,f3,f4⟩:=h5.ldS (k:=k)
    change ((w3.setCell ⟨p.gi,k,none⟩ (.bool true)).setCell ⟨p.gm,k,none⟩ (.bool true)).rangeAt p.gk (k * 128) ((bM (imgK img many (k+1)) (k:Int)).map bv) at f4
    rw[<- HSV.out] at f4;have h6:bq ((w3.setCell ⟨p.gi,k,none⟩ (.bool true)).setCell ⟨p.gm,k,none⟩ (.bool true)) w.heap.size p none 0 (ig many room img (k+1)):=h5;have H6:=aT h6;have hg1:=H3.out.bs p.gm (.inr (.inr (.inr (.inr (.inl rfl)))));have B6:=aT (Below.setCell B4.out (p:=⟨p.gm,k,none⟩) hg1 (.bool true));clear h5 h6;refine hK.out _ _ (⟨f0,f1,f2,f3,f4⟩) (fun hHeld=>?_);clear hK K;refine bB ?_;refine wpAnyH_done bP ?_ _;go_wp2;go_roundw
    case rel=>first
     | exact⟨k+1,aS,by go_num,H6.out,B6.out⟩
     | ((repeat apply Exists.intro);exact⟨⟨k+1,aS,by go_num,H6.out,B6.out⟩,rfl⟩)
    case measure=>simp[intOf];omega
  · have hk9:k=N:=aS;subst hk9;have HX:=aT hX;clear hX hus;go_wp2;go_ret2;exact⟨p,rfl,HX.out.s,hbel⟩
section
variable {w w':World} {base ga gj f m next:Nat} {kind:Int} {p:bw} {D:aX}
theorem cV.below (h:cV w gj ga kind next)(hb:Below w.heap.size w w'):cV w' gj ga kind next:=Blk.below h hb h.lt
theorem s_anew (h:bc w base p D)(hs:base<=w.heap.size)(f m:Nat)(h1:1<=m)(h2:f+m<=D.many) :
 Ca 109 #[.pointer (some ⟨p.d,0,none⟩),.agg #[I (f:Int),I (m:Int)]] w fun e w'=>∃ ga,e=.returned (.tuple #[.pointer (some ⟨ga,0,none⟩),I 0])/\br w' ga p.d f m/\w.heap.size<=ga/\bc w' base p D/\Step mutD base p w w':=by
 obtain⟨A,c,h⟩:=h;exact (anew_ok h f m h1 h2).mono fun e w' ⟨ga,h1,h2,h3,h4⟩=>⟨ga,h1,h2,h3,(h.below h4).s,Step.of_below h4 hs⟩
end
structure SlV where
 a:Option Addr
 n:Nat
 c:Nat
variable {h:SlV}
def slV (h:SlV):Value:=.slice h.a h.n h.c
theorem slV_one (h:SlV):(slV h).oneCell'=true:=rfl
open Go.RowKit Go.WideShapes Go.ChangeShapes Go.Deep Go.Joins
def fD (w:World)(base:Nat)(t:TypeId)(A:Option Addr):Prop:=∀ g,A.map (·.block)=some g->g<base\/∃ cs,Blk w g t cs
def fq (w:World)(base:Nat)(h:SlV)(L:List UInt8):Prop:=RB w h.a h.n L/\h.n<=maxLen/\(0<h.n->fD w base 5 h.a)
theorem Row.sameB {n:Nat}{f:Nat->Value}(h:Row w A n f)(hs:w.heap.size<=w'.heap.size)(hF:∀ b,A.map (·.block)=some b->b<w.heap.size->w'.heap[b]?=w.heap[b]?):Row w' A n f:=fun h0=>by
 obtain⟨b,o,rfl,hb,hc⟩:=h h0;refine⟨b,o,rfl,Nat.lt_of_lt_of_le hb hs,fun i hi=>?_⟩;rw[<- hc i hi];have:=hF b rfl hb;simp only[World.cell?,this]
section
variable {M:List TypeId} {w w':World} {base:Nat} {p:bw} {D:aX} {t:TypeId} {A:Option Addr} {n:Nat}
theorem fD.step (h:fD w base t A)(hd:bc w base p D)(k:Step M base p w w')(ht:t ∉ 4 :: M):fD w' base t A:=fun g hg=>by
 rcases h g hg with q | ⟨cs,q⟩
 · exact .inl q
 · exact .inr ⟨cs,hd.blk q k.tch ht⟩
theorem fD.heap (h:fD w base t A)(hd:bc w base p D)(k:Step M base p w w')(ht:t ∉ 4 :: M):∀ b,A.map (·.block)=some b->b<w.heap.size->w'.heap[b]?=w.heap[b]?:=fun b hb _=>by
 rcases h b hb with q | ⟨cs,q⟩
 · exact k.bel.block b q
 · exact Eq.trans (hd.blk q k.tch ht) (Eq.symm q)
theorem Row.stepR {f:Nat->Value}(h:Row w A n f)(hr:0<n->fD w base t A)(hd:bc w base p D)(k:Step M base p w w')(ht:t ∉ 4 :: M):Row w' A n f:=fun h0=>(h.sameB k.size ((hr h0).heap hd k ht)) h0
theorem fq.step (H:fq w base h L)(hd:bc w base p D)(k:Step M base p w w')(ht:5 ∉ 4 :: M):fq w' base h L :=
 ⟨⟨H.1.1,H.1.2.stepR H.2.2 hd k ht⟩,H.2.1,fun h0=>(H.2.2 h0).step hd k ht⟩
theorem fq.below (H:fq w base h L)(hb:Below w.heap.size w w'):fq w' base h L :=
 ⟨H.1.below hb aW,H.2.1,fun h0 g hg=>by
  rcases H.2.2 h0 g hg with q | ⟨cs,q⟩
  · exact .inl q
  · exact .inr ⟨cs,q.below hb q.lt⟩⟩
theorem Ow.blk {α:Type}{enc:α->Value}{l:List α}(h:Ow enc w base t A n c l){g:Nat}(hg:A.map (·.block)=some g):∃ cs,Blk w g t cs:=by
 rcases h.2.2 with ⟨hv,_⟩ | ⟨g',cap,cur,hv,_,hh,_⟩
 · injection hv with hv;subst hv;cases hg
 · injection hv with hv;subst hv;simp only[Option.map_some,Option.some.injEq] at hg;subst hg;exact⟨cur.toList,by unfold Blk;rw[hh]⟩
theorem fq.of_ob {b:Nat}(H:OB w b 5 h.a h.n h.c L):fq w base h L :=
 ⟨H.rd.rb,by have:=H.cap;omega,fun _ g hg=>.inr (H.blk hg)⟩
theorem Rd.take_ {α:Type}{enc:α->Value}{l:List α}(h:Rd enc w A n l)(hm:m<=n):Rd enc w A m (l.take m) :=
 ⟨by rw[aA,h.1];omega,(h.2.take hm).congr fun i hi=>by
  show (l.map enc).getD i undef=((l.take m).map enc).getD i undef
  rw[af,af,List.map_take,aH,if_pos hi]⟩
end
end Go.Proofs.YtmeebofhlilcmaaGreat
