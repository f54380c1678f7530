/- Parts. -/
import Derived.Test.YtmeebofhlilcmaaGreatPr24
set_option linter.unusedVariables false
set_option linter.unusedSimpArgs false
set_option maxRecDepth 100000
set_option maxHeartbeats 0
namespace Go.Proofs.YtmeebofhlilcmaaGreat
variable {W w:World} {gf:Nat} {v8 v6 va v9 v7 v4 v3 v11 vg:Value} {z1 z2 z3 z4:Int}
open Go.RowKit
theorem qb (now:List UInt8)(f a:Nat):∀ k,(ee now f a k).length<=k:=by
 intro k
 induction k with
 | zero=>exact Nat.le_refl _
 | succ k ih=>
   unfold ee
   split
   · omega
   · rw[aw,aJ];omega
section
variable {w w':World} {base ga f m:Nat} {p:bE} {D:aX}
theorem wipe_off (ha:bD w ga p.d f m)(hd:be w base p D)(hs:base<=w.heap.size)(hfm:f+m<=D.many)(hoff:D.off=true)(a k:Nat)(h0:0<k)(hak:a+k<=m) :
 Ca 111 #[.pointer (some ⟨ga,0,none⟩),I (a:Nat),I ((a+k:Nat):Int)] w fun e w'=>e=.returned (I 50)/\be w' base p D/\Step mutD base p w w':=by
 have hm4:f+m<=4096:=by have:=hd.many0;omega
 have hon:bN D f m (a:Int)=(D,bw,50):=by
  have hmay:mayV D ((f:Int)+(a:Int))=50:=by unfold mayV;rw[hoff];rfl
  unfold bN eW;rw[if_neg aS,hmay,if_pos aZ]
 have hrd:=lD hd hs ha hfm (a:Int);rw[hon] at hrd;simp only at hrd;have hz:=(zero_of_info dy).1;have Hi:=aT (zero_of_info dy).2;have hlz:Hid ((bw.map bv).length=128):=by show _=_;simp[dI]
 have HZm:=aT (ew (l:=bw));have hlt:(a:Int)<((a+k:Nat):Int):=aS;clear hd ha hon;unfold aggB at *;generalize bw.map bv=Z at *;generalize a+k=b at *;go_enter Tryz.func111,Tryz.ntmps111;go_wp2_with fail;go_loopw [7,8] (fun _ i wr=>i=I (a:Nat)/\wr=w) (fun _ i _=>b - (intOf i).toNat)
 case atStart=>exact⟨rfl,rfl⟩
 case round=>
  obtain⟨rfl,rfl⟩:=hrel;go_wp2_with (first | ((go_at_call 162;(with_reducible refine (hrd).mono ?_);rintro e w2 ⟨rfl,h2,s2⟩);have H2:=aT h2;clear h2) | (refine eu rfl (x:=.tmp 9) (y:=.tmp 24) rfl rfl rfl (t:=205) (cs:=Z) (xs:=Z) (Blk.top _ rfl rfl) Hi.out hlz.out gu HZm.out ?_;intro w3 hb3 hg3 hs3;rw[dS _ _ rfl] at hb3;have b3:=et ((Below.refl w2.heap.size w2).alloc aW _) hg3 br br) | fail);go_ret;exact⟨rfl,H2.out.below b3,s2.trans (Step.of_below b3 lm)⟩
theorem wipe_on (ha:bD w ga p.d f m)(hd:be w base p D)(hs:base<=w.heap.size)(hfm:f+m<=D.many)(hoff:D.off=false)(a k:Nat)(hak:a+k<=m)(hwt:D.waits.length<700000) :
 Ca 111 #[.pointer (some ⟨ga,0,none⟩),I (a:Nat),I ((a+k:Nat):Int)] w fun e w'=>e=.returned (I (cQ D f m a k).2)/\be w' base p (cQ D f m a k).1/\Step mutD base p w w':=by
 have hm4:f+m<=4096:=by have:=hd.many0;omega
 have hok:D.now.length=D.many * 128:=by obtain⟨A,c,h⟩:=hd;exact h.ok.now
 have hz:=(zero_of_info dy).1;have Hi:=aT (zero_of_info dy).2;have hlz:Hid ((bw.map bv).length=128):=by show _=_;simp[dI]
 have HFIN:=aT (show cQ D f m a k=wipeW (ee D.now f a k) (dL (rdK D k) f m (ee D.now f a k)) by unfold cQ;rw[if_neg (by rw[hoff];simp)]);generalize cQ D f m a k=FIN at *;have HD:=aT hd;have HA:=aT ha;have HOK:=aT hok;clear ha hd hok;unfold aggB at *;generalize hZ:bw.map bv=Z at *;have HZ:=aT hZ;clear hZ;obtain⟨b,hb⟩:∃ b,a+k=b:=⟨_,rfl⟩;have HB:=aT hb;have hb4:b<=4096:=aS;rw[hb];clear hb;go_enter Tryz.func111,Tryz.ntmps111;go_wp2_with fail;go_loopw [7,8] (fun v i wr=>∃ (j:Nat) (B:Option Addr) (N c:Nat) (n:Nat),j<=k/\Hid (n=a+j)/\i=I (n:Nat)/\v=.slice B N c/\Ow iv wr w.heap.size 3 B N c (ee D.now f a j)/\be wr base p (rdK D j)/\Step mutD base p w wr) (fun _ i _=>b - (intOf i).toNat)
 case atStart=>exact⟨0,none,0,0,a,aS,aT rfl,rfl,rfl,Ow.nil _ _ _ _,HD.out,Step.refl _ _ _ _⟩
 case round=>
  obtain⟨j,B,N,c,n,hj,hn,rfl,rfl,hown,hdj,hst⟩:=hrel;have hst0:=aT hst;have hsz:=hst.size;have haj:=HD.out.area HA.out hst.tch aU;have hNl:=hown.1;have hdl:=qb D.now f a j;have hnn:=hn.out;have hbb:=HB.out
  by_cases hlt:n<b
  · have hjk:j<k:=aS;obtain⟨o,eo⟩:=gO D j;have hon:bN (rdK D j) f m (n:Int)=(rdK D (j+1),ch D.now ((f+(a+j):Nat):Int),0):=by
     rw[kU (by rw[eo];exact hoff) kK aS,hnn]
     show (rdK D (j+1),ch (rdK D j).now _,(0:Int))=_
     rw[eo]
    have hrd:=lD hdj aS haj kK (n:Int);rw[hon] at hrd;simp only at hrd;have hsl0:(ch D.now ((f+(a+j):Nat):Int)).length=128:=iC HOK.out aS aS;have hbl:=fun w=>blank_any (ch D.now ((f+(a+j):Nat):Int)) w hsl0
    have hnx:Hid (ee D.now f a (j+1)=if ch D.now ((f+(a+j):Nat):Int)=bw then ee D.now f a j else ee D.now f a j ++ [((a+j:Nat):Int)]):=rfl;generalize ch D.now ((f+(a+j):Nat):Int)=S at *;generalize ee D.now f a j=dl at *;have hsl:Hid ((S.map bv).length=128):=by show _=_;rw[az];exact hsl0
    have hsm:=aT (ew (l:=S));have HDk:=aT hdj;have Hown:=aT hown;unfold aggB at hrd hbl;have HSV:Hid (S.map bv=S.map bv):=rfl;generalize S.map bv=SV at *;have hltI:(n:Int)<(b:Int):=aS;clear hdj hown hsl0 hon eo hst hnn hbb
    by_cases hS0:S=bw
    · have hbl':∀ w,Ca 164 #[.agg SV.toArray] w fun e w'=>e=.returned (.bool true)/\Below w.heap.size w w':=fun w=>(hbl w).mono fun e w' ⟨q1,q2⟩=>⟨by rw[q1,am hS0],q2⟩
      have HN:Hid (ee D.now f a (j+1)=dl):=by show _=_;rw[hnx.out,if_pos hS0]
      clear hbl hS0 hnx;go_upto_region 8 with (first | ((go_at_call 162;(with_reducible refine (hrd).mono ?_);rintro e w2 ⟨rfl,h2,s2⟩);have H2:=aT h2;have o2:=aT (HDk.out.ow Hown.out s2.tch aU);have sz2:=s2.size;clear h2) | (refine eu rfl (x:=.tmp 9) (y:=.tmp 24) rfl rfl rfl (t:=205) (cs:=Z) (xs:=SV) (Blk.top _ rfl rfl) Hi.out hsl.out gu hsm.out ?_;intro w3 hb3 hg3 hs3;rw[dS _ _ (hlz.out.trans hsl.out.symm)] at hb3;have b3:=et ((Below.refl w2.heap.size w2).alloc aW _) hg3 br br;have H3:=aT (H2.out.below b3);have o3:=aT (o2.out.below b3 aW);have sz3:=b3.size) | fail);go_upto_region 9 with (first | (refine fi rfl (x:=.tmp 9) rfl rfl hb3 Tryz.underlying205 Hi.out hsl.out fS ?_) | (go_at_call 164;(with_reducible refine (hbl' _).mono ?_);rintro e w5 ⟨rfl,hb5⟩) | fail);go_roundw
      case rel=>
       exact⟨j+1,B,N,c,n+1,aS,aT (by rw[hn.out];rfl),by go_num,rfl,by rw[HN.out];exact o3.out.below hb5 aW,H3.out.below hb5,(hst0.out.trans (s2.trans (Step.of_below b3 lm))).trans (Step.of_below hb5 nu)⟩
      case measure=>simp[intOf];omega
    · have hbl':∀ w,Ca 164 #[.agg SV.toArray] w fun e w'=>e=.returned (.bool false)/\Below w.heap.size w w':=fun w=>(hbl w).mono fun e w' ⟨q1,q2⟩=>⟨by rw[q1,aj hS0],q2⟩
      have HN:Hid (dl ++ [(n:Int)]=ee D.now f a (j+1)):=by show _=_;rw[hnx.out,if_neg hS0,hn.out]
      clear hbl hS0 hnx;go_upto_region 8 with (first | ((go_at_call 162;(with_reducible refine (hrd).mono ?_);rintro e w2 ⟨rfl,h2,s2⟩);have H2:=aT h2;have o2:=aT (HDk.out.ow Hown.out s2.tch aU);have sz2:=s2.size;clear h2) | (refine eu rfl (x:=.tmp 9) (y:=.tmp 24) rfl rfl rfl (t:=205) (cs:=Z) (xs:=SV) (Blk.top _ rfl rfl) Hi.out hsl.out gu hsm.out ?_;intro w3 hb3 hg3 hs3;rw[dS _ _ (hlz.out.trans hsl.out.symm)] at hb3;have b3:=et ((Below.refl w2.heap.size w2).alloc aW _) hg3 br br;have H3:=aT (H2.out.below b3);have o3:=aT (o2.out.below b3 aW);have sz3:=b3.size) | fail);go_upto_region 9 with (first | (refine fi rfl (x:=.tmp 9) rfl rfl hb3 Tryz.underlying205 Hi.out hsl.out fS ?_) | (go_at_call 164;(with_reducible refine (hbl' _).mono ?_);rintro e w5 ⟨rfl,hb5⟩) | fail);have o5:=o3.out.below hb5 aW;have b5s:=hb5.size;go_wp2_with (first | (at_builtin;refine dR rfl rfl fF gq (s:=.tmp 32) (N:=N+1) (L:=ee D.now f a (j+1)) rfl (o5.below (b:=w5.heap.size) bc br) rfl (k:=[(n:Int)]) (Rd.of_block (l:=[(n:Int)]) (dP _ _ aZ) rfl) rfl (HN.out) bQ aS br ?_;intro A6 c6 w6 hown6 hg6 hat6 hb6) | fail);go_roundw
      case rel=>
       have o5a:=o5.below (b:=w5.heap.size) ((Below.refl w5.heap.size w5).alloc aW (.cells #[I (n:Int)] 3)) aW;have bA:Below w5.heap.size w5 (w5.alloc (.cells #[I (n:Int)] 3)):=(Below.refl w5.heap.size w5).alloc aW _;have f2:=((H3.out.below hb5).below bA).grown o5a hg6 aU;have f4:=(((hst0.out.trans (s2.trans (Step.of_below b3 lm))).trans (Step.of_below hb5 nu)).trans (Step.of_below bA nu)).then_below hb6 hs;exact⟨j+1,A6,N+1,c6,n+1,aS,aT (by rw[hn.out];rfl),by go_num,rfl,hown6,f2,f4⟩
      case measure=>simp[intOf];omega
  · have hnb:n=b:=aS;have hjk:j=k:=aS;have hge:¬ ((n:Int)<(b:Int)):=aS;subst hjk;obtain⟨o,eo⟩:=gO D j;have hm1:(rdK D j).many=D.many:=by rw[eo]
    have hw1:(rdK D j).waits.length=D.waits.length:=by rw[eo]
    generalize ee D.now f a j=dl at *;generalize rdK D j=D1 at *;have O2:=aT hown;have H2:=aT hdj;have HA2:=aT haj;clear eo hown hdj hst haj hnn hbb;go_wp2_with fail;go_loopw [12,13,38] (fun _ _ i wr2=>∃ (j2:Nat) (Dj:aX),j2<=N/\i=I (j2:Nat)/\Hid (dL D1 f m dl=dL Dj f m (dl.drop j2))/\Hid (Dj.many=D.many)/\Dj.waits.length<=D.waits.length+j2/\be wr2 base p Dj/\Step mutD base p wr wr2) (fun _ _ i _=>N - (intOf i).toNat)
    case atStart=>exact⟨0,D1,aS,rfl,aT rfl,aT hm1,aS,H2.out,Step.refl _ _ _ _⟩
    case round=>
     obtain⟨j2,Dj,hj2,rfl,hwk,hmj,hwj,hdj,hst⟩:=hrel;have hwk:=hwk.out;have hmj:=hmj.out;have hsts:=hst.size;have haj:=H2.out.area HA2.out hst.tch aU;have hoj:=H2.out.ow O2.out hst.tch aU;have HDJ:=aT hdj;have HST:=aT hst;have hN:N<=4096:=aS
     by_cases hlt:j2<N
     · obtain⟨bb,o2,hB,hbb,hcell⟩:=hoj.rd.2.at_ hlt;have hjl:j2<dl.length:=aS;have hdr:=aQ hjl;have hval:wr.cell? ⟨bb,o2+j2,none⟩=some (I dl[j2]):=by rw[hcell,ik dl j2 hjl];rfl
       have hwp:=s_awipe hdj aS haj (by rw[hmj];exact hfm) dl[j2] aS;obtain⟨q1,q2⟩:=jm Dj f m dl[j2] bw;rw[hdr] at hwk
       by_cases he:(bK Dj f m dl[j2] bw).2=0
       · rw[lG he] at hwk;rw[he] at hwp;generalize (bK Dj f m dl[j2] bw).1=Dn at *;generalize dl[j2]=nn at *;have HW2:=aT hwk;have HMN:=aT (q1.trans hmj);clear hwk hdj he hdr hoj hcell hmj q1 hst;subst hB;go_wp2_with (first | (go_at_call 198;(with_reducible refine (hwp).mono ?_);rintro e w3 ⟨rfl,h3,s3⟩) | fail);go_roundw
         case rel=>first | exact⟨⟨_,_,_,⟨j2+1,Dn,aS,by go_num,HW2,HMN,aS,h3,HST.out.trans s3⟩,rfl,rfl,rfl⟩⟩ | exact⟨j2+1,Dn,aS,by go_num,HW2,HMN,aS,h3,HST.out.trans s3⟩
         case measure=>simp[intOf];omega
       · rw[lH he] at hwk;have hR:=HFIN.out;unfold wipeW at hR;rw[hwk,if_pos he] at hR;clear hwk HFIN;generalize bK Dj f m dl[j2] bw=P at *;obtain⟨Dn,z⟩:=P;simp only at hwp he;subst hR;generalize dl[j2]=nn at *;have hne:(z != 0)=true:=by rw[ag];exact he
         clear hdj he hdr hoj hcell q1 q2 hmj hst;subst hB;go_wp2_with (first | (go_at_call 198;(with_reducible refine (hwp).mono ?_);rintro e w3 ⟨rfl,h3,s3⟩) | fail);go_ret;exact⟨rfl,h3,(hst0.out.trans HST.out).trans s3⟩
     · have hjN:j2=N:=aS;subst hjN;have hdr:dl.drop j2=[]:=aP aS;rw[hdr] at hwk;have hR:=HFIN.out;unfold wipeW at hR;rw[hwk,show dL Dj f m []=(Dj,0) from rfl,if_neg aZ] at hR;simp only at hR
       by_cases hd0:dl=[]
       · rw[if_pos hd0] at hR;have hj0:j2=0:=by rw[<- hNl,hd0];rfl
         subst hj0 hR;clear hwk hdj hdr hoj HFIN haj hmj hst;go_wp2_with fail;go_ret;exact⟨rfl,HDJ.out,hst0.out.trans HST.out⟩
       · rw[if_neg hd0] at hR;have hj0:0<j2:=by
          rcases aI j2 with q | q
          · exact absurd (List.eq_nil_of_length_eq_zero aS) hd0
          · exact q
         have hjz:(((j2:Nat):Int) == 0)=false:=by rw[af];omega
         have hfl:=j7 hdj aS haj;generalize bH Dj=FV at *;obtain⟨Df,z⟩:=FV;simp only at hfl;subst hR;clear hwk hdj hdr hoj HFIN haj hd0 hmj hst;go_wp2_with (first | (go_at_call 116;(with_reducible refine (hfl).mono ?_);rintro e w3 ⟨rfl,h3,s3⟩) | fail);go_ret;exact⟨rfl,h3,(hst0.out.trans HST.out).trans s3⟩
end
section
variable {w w':World} {base ga f m:Nat} {q:bE} {D:aX} {p:PV} {x:PA}
theorem wipe_any (ha:bD w ga q.d f m)(hd:be w base q D)(hs:base<=w.heap.size)(hfm:f+m<=D.many)(a k:Nat)(h0:0<k)(hak:a+k<=m)(hwt:D.waits.length<700000) :
 Ca 111 #[.pointer (some ⟨ga,0,none⟩),I (a:Nat),I ((a+k:Nat):Int)] w fun e w'=>e=.returned (I (cQ D f m a k).2)/\be w' base q (cQ D f m a k).1/\Step mutD base q w w':=by
 cases ho:D.off with
 | true=>
   have e:cQ D f m a k=(D,50):=by unfold cQ;rw[if_pos ⟨ho,h0⟩]
   rw[e];exact wipe_off ha hd hs hfm ho a k h0 hak
 | false=>exact wipe_on ha hd hs hfm ho a k hak hwt
theorem owned_any (hd:be w base q D)(hs:base<=w.heap.size)(hash:Int) :
 Ca 102 #[.pointer (some ⟨q.d,0,none⟩),.agg #[I 0,I 1],I hash] w fun e w'=>e=.returned (I (jp hash (cP D 0 1 0 1)))/\be w' base q (bN D 0 1 0).1/\Step mutD base q w w':=by
 have hm:=hd.many0;have hb:Below w.heap.size w (w.alloc (.cells #[I 0,I 1] 120)):=(Below.refl _ _).alloc aW _;have hnw:=(show Ca 109 #[.pointer (some ⟨q.d,0,none⟩),.agg #[I 0,I 1]] (w.alloc (.cells #[I 0,I 1] 120)) _ from s_anew (hd.below hb) cR 0 1 aS aS);have htk:=fun (W:World) (g1:Nat) (h1:be W base q D) (h2:bD W g1 q.d 0 1) (h3:base<=W.heap.size)=>s_atake h1 h3 h2 aS 0 1
 have BW:=aT (Step.of_below (M:=mutD) (p:=q) hb hs);generalize cP D 0 1 0 1=T at *;generalize (bN D 0 1 0).1=D1 at *;obtain⟨tn,tl,tz⟩:=T;unfold jp;simp only at htk ⊢;clear hm hd hb
 by_cases h53:tz=53
 · subst h53;rw[if_pos rfl];go_enter Tryz.func102,Tryz.ntmps102;go_wp2_with (first | ((go_at_call 109;(with_reducible refine (hnw).mono ?_);rintro e w2 ⟨g2,rfl,a2,gl2,d2,s2⟩);have b2:=s2.size;simp at b2;have htk2:=htk w2 g2 d2 a2 aS;clear a2 d2) | ((go_at_call 158;(with_reducible refine (htk2).mono ?_);rintro e w3 ⟨B3,k3,c3,rfl,o3,d3,s3⟩);have X3:=aT d3;clear d3) | fail);go_ret;exact⟨rfl,X3.out,BW.out.trans (s2.trans s3)⟩
 rw[if_neg h53];have b53:(tz == 53)=false:=by rw[af];exact h53
 by_cases hz:tz=0
 · subst hz;rw[if_neg aZ]
   by_cases hh:tn=hash
   · subst hh;rw[if_neg aZ];have bh:(tn != tn)=false:=by simp
     clear h53;go_enter Tryz.func102,Tryz.ntmps102;go_wp2_with (first | ((go_at_call 109;(with_reducible refine (hnw).mono ?_);rintro e w2 ⟨g2,rfl,a2,gl2,d2,s2⟩);have b2:=s2.size;simp at b2;have htk2:=htk w2 g2 d2 a2 aS;clear a2 d2) | ((go_at_call 158;(with_reducible refine (htk2).mono ?_);rintro e w3 ⟨B3,k3,c3,rfl,o3,d3,s3⟩);have X3:=aT d3;clear d3) | fail);go_ret;exact⟨rfl,X3.out,BW.out.trans (s2.trans s3)⟩
   · rw[if_pos hh];have bh:(tn != hash)=true:=by rw[ag];exact hh
     clear h53 hh;go_enter Tryz.func102,Tryz.ntmps102;go_wp2_with (first | ((go_at_call 109;(with_reducible refine (hnw).mono ?_);rintro e w2 ⟨g2,rfl,a2,gl2,d2,s2⟩);have b2:=s2.size;simp at b2;have htk2:=htk w2 g2 d2 a2 aS;clear a2 d2) | ((go_at_call 158;(with_reducible refine (htk2).mono ?_);rintro e w3 ⟨B3,k3,c3,rfl,o3,d3,s3⟩);have X3:=aT d3;clear d3) | fail);go_ret;exact⟨rfl,X3.out,BW.out.trans (s2.trans s3)⟩
 · rw[if_pos hz];have bz:(tz != 0)=true:=by rw[ag];exact hz
   clear h53 hz;go_enter Tryz.func102,Tryz.ntmps102;go_wp2_with (first | ((go_at_call 109;(with_reducible refine (hnw).mono ?_);rintro e w2 ⟨g2,rfl,a2,gl2,d2,s2⟩);have b2:=s2.size;simp at b2;have htk2:=htk w2 g2 d2 a2 aS;clear a2 d2) | ((go_at_call 158;(with_reducible refine (htk2).mono ?_);rintro e w3 ⟨B3,k3,c3,rfl,o3,d3,s3⟩);have X3:=aT d3;clear d3) | fail);go_ret;exact⟨rfl,X3.out,BW.out.trans (s2.trans s3)⟩
end
def fmtSt (R1 R2 R3 R4:World->Prop)(z1 z2 z3 z4:Int)(w:World)(k:Nat)(wr:World):Prop:=(k=0/\wr=w)\/(k=1/\z1=0/\R1 wr)\/(k=2/\z1=0/\z2=0/\R2 wr)\/(k=3/\z1=0/\z2=0/\z3=0/\R3 wr)\/(k=4/\z1=0/\z2=0/\z3=0/\z4=0/\R4 wr)
def fmtPost (R1 R2 R3 R4:World->Prop)(z1 z2 z3 z4:Int)(e:Ending)(w':World):Prop:=(z1≠0/\e=.returned (I z1)/\R1 w')\/(z1=0/\z2≠0/\e=.returned (I z2)/\R2 w')\/(z1=0/\z2=0/\z3≠0/\e=.returned (I z3)/\R3 w')\/(z1=0/\z2=0/\z3=0/\e=.returned (I z4)/\R4 w')
def fmtL (v8 v6 va:Value):List Value:=[.func (.func 110) #[] #[v8],.func (.func 112) #[] #[v8],.func (.func 114) #[] #[v8,v6],.func (.func 116) #[va] #[]]
theorem mN (h:Blk W gf 61 (fmtL v8 v6 va)):W.cell? ⟨gf,0,none⟩=some (.func (.func 110) #[] #[v8])/\W.cell? ⟨gf,1,none⟩=some (.func (.func 112) #[] #[v8])/\W.cell? ⟨gf,2,none⟩=some (.func (.func 114) #[] #[v8,v6])/\W.cell? ⟨gf,3,none⟩=some (.func (.func 116) #[va] #[]):=⟨h.cell 0,h.cell 1,h.cell 2,h.cell 3⟩
theorem first_fmt {R1 R2 R3 R4:World->Prop}(p0:Blk w gf 61 (fmtL v8 v6 va))
 (p1:∀ W,R1 W->Blk W gf 61 (fmtL v8 v6 va))
 (p2:∀ W,R2 W->Blk W gf 61 (fmtL v8 v6 va))
 (p3:∀ W,R3 W->Blk W gf 61 (fmtL v8 v6 va))
 (h1:Ca 110 #[v8] w fun e w'=>e=.returned (I z1)/\R1 w')
 (h2:z1=0->∀ W,R1 W->Ca 112 #[v8] W fun e w'=>e=.returned (I z2)/\R2 w')
 (h3:z1=0->z2=0->∀ W,R2 W->Ca 114 #[v8,v6] W fun e w'=>e=.returned (I z3)/\R3 w')
 (h4:z1=0->z2=0->z3=0->∀ W,R3 W->Ca 116 #[va] W fun e w'=>e=.returned (I z4)/\R4 w')
 : Ca 100 #[.slice (some ⟨gf,0,none⟩) 4 4] w (fmtPost R1 R2 R3 R4 z1 z2 z3 z4):=by
 go_enter Tryz.func100,Tryz.ntmps100;go_wp2_with fail;go_loopw [4,5,8] (fun _ _ i wr=>∃ k:Nat,i=I (k:Nat)/\fmtSt R1 R2 R3 R4 z1 z2 z3 z4 w k wr) (fun _ _ i _=>4 - (intOf i).toNat)
 case atStart=>exact⟨0,rfl,.inl ⟨rfl,rfl⟩⟩
 case round=>
  obtain⟨k,rfl,hst⟩:=hrel;rcases hst with ⟨rfl,rfl⟩ | ⟨rfl,rfl,hr⟩ | ⟨rfl,rfl,rfl,hr⟩ | ⟨rfl,rfl,rfl,rfl,hr⟩ | ⟨rfl,rfl,rfl,rfl,rfl,hr⟩
  · obtain⟨a0,a1,a2,a3⟩:=mN p0;have hc:=h1
    skip
    by_cases kz:z1=0
    · subst kz;go_wp2_with (first | ((go_at_call 110;(with_reducible refine (hc).mono ?_);rintro e w2 ⟨rfl,r2⟩);have Q2:=aT r2;clear r2) | fail);go_roundw
      case rel=>first | exact⟨1,dU,.inr (.inl ⟨rfl,rfl,Q2.out⟩)⟩ | ((repeat apply Exists.intro);exact⟨⟨1,dU,.inr (.inl ⟨rfl,rfl,Q2.out⟩)⟩,rfl⟩)
      case measure=>simp[intOf]
    · have b1:(z1 != 0)=true:=by rw[ag];exact kz
      have KZ:=aT kz;clear kz;go_wp2_with (first | ((go_at_call 110;(with_reducible refine (hc).mono ?_);rintro e w2 ⟨rfl,r2⟩);have Q2:=aT r2;clear r2) | fail);go_ret;exact .inl ⟨KZ.out,rfl,Q2.out⟩
  · obtain⟨a0,a1,a2,a3⟩:=mN (p1 _ hr);have hc:=h2 rfl _ hr;clear hr
    by_cases kz:z2=0
    · subst kz;go_wp2_with (first | ((go_at_call 112;(with_reducible refine (hc).mono ?_);rintro e w2 ⟨rfl,r2⟩);have Q2:=aT r2;clear r2) | fail);go_roundw
      case rel=>first | exact⟨2,dU,.inr (.inr (.inl ⟨rfl,rfl,rfl,Q2.out⟩))⟩ | ((repeat apply Exists.intro);exact⟨⟨2,dU,.inr (.inr (.inl ⟨rfl,rfl,rfl,Q2.out⟩))⟩,rfl⟩)
      case measure=>simp[intOf]
    · have b1:(z2 != 0)=true:=by rw[ag];exact kz
      have KZ:=aT kz;clear kz;go_wp2_with (first | ((go_at_call 112;(with_reducible refine (hc).mono ?_);rintro e w2 ⟨rfl,r2⟩);have Q2:=aT r2;clear r2) | fail);go_ret;exact .inr (.inl ⟨rfl,KZ.out,rfl,Q2.out⟩)
  · obtain⟨a0,a1,a2,a3⟩:=mN (p2 _ hr);have hc:=h3 rfl rfl _ hr;clear hr
    by_cases kz:z3=0
    · subst kz;go_wp2_with (first | ((go_at_call 114;(with_reducible refine (hc).mono ?_);rintro e w2 ⟨rfl,r2⟩);have Q2:=aT r2;clear r2) | fail);go_roundw
      case rel=>first | exact⟨3,dU,.inr (.inr (.inr (.inl ⟨rfl,rfl,rfl,rfl,Q2.out⟩)))⟩ | ((repeat apply Exists.intro);exact⟨⟨3,dU,.inr (.inr (.inr (.inl ⟨rfl,rfl,rfl,rfl,Q2.out⟩)))⟩,rfl⟩)
      case measure=>simp[intOf]
    · have b1:(z3 != 0)=true:=by rw[ag];exact kz
      have KZ:=aT kz;clear kz;go_wp2_with (first | ((go_at_call 114;(with_reducible refine (hc).mono ?_);rintro e w2 ⟨rfl,r2⟩);have Q2:=aT r2;clear r2) | fail);go_ret;exact .inr (.inr (.inl ⟨rfl,rfl,KZ.out,rfl,Q2.out⟩))
  · obtain⟨a0,a1,a2,a3⟩:=mN (p3 _ hr);have hc:=h4 rfl rfl rfl _ hr;clear hr
    by_cases kz:z4=0
    · subst kz;go_wp2_with (first | ((go_at_call 116;(with_reducible refine (hc).mono ?_);rintro e w2 ⟨rfl,r2⟩);have Q2:=aT r2;clear r2) | fail);go_roundw
      case rel=>first | exact⟨4,dU,.inr (.inr (.inr (.inr ⟨rfl,rfl,rfl,rfl,rfl,Q2.out⟩)))⟩ | ((repeat apply Exists.intro);exact⟨⟨4,dU,.inr (.inr (.inr (.inr ⟨rfl,rfl,rfl,rfl,rfl,Q2.out⟩)))⟩,rfl⟩)
      case measure=>simp[intOf]
    · have b1:(z4 != 0)=true:=by rw[ag];exact kz
      have KZ:=aT kz;clear kz;go_wp2_with (first | ((go_at_call 116;(with_reducible refine (hc).mono ?_);rintro e w2 ⟨rfl,r2⟩);have Q2:=aT r2;clear r2) | fail);go_ret;exact .inr (.inr (.inr (⟨rfl,rfl,rfl,rfl,Q2.out⟩)))
  · have Q2:=aT hr;clear hr;go_wp2_with fail;go_ret;exact .inr (.inr (.inr (⟨rfl,rfl,rfl,rfl,Q2.out⟩)))
def prtSt (R1 R2 R3:World->Prop)(z1 z2 z3:Int)(w:World)(k:Nat)(wr:World):Prop:=(k=0/\wr=w)\/(k=1/\z1=0/\R1 wr)\/(k=2/\z1=0/\z2=0/\R2 wr)\/(k=3/\z1=0/\z2=0/\z3=0/\R3 wr)
def prtPost (R1 R2 R3:World->Prop)(z1 z2 z3:Int)(e:Ending)(w':World):Prop:=(z1≠0/\e=.returned (I z1)/\R1 w')\/(z1=0/\z2≠0/\e=.returned (I z2)/\R2 w')\/(z1=0/\z2=0/\e=.returned (I z3)/\R3 w')
def prtL (v9 v7 v4:Value):List Value:=[.func (.func 190) #[] #[v9,v7,v4],.func (.func 192) #[] #[v9,v7,v4],.func (.func 194) #[] #[v9,v7,v4]]
theorem oJ (h:Blk W gf 61 (prtL v9 v7 v4)):W.cell? ⟨gf,0,none⟩=some (.func (.func 190) #[] #[v9,v7,v4])/\W.cell? ⟨gf,1,none⟩=some (.func (.func 192) #[] #[v9,v7,v4])/\W.cell? ⟨gf,2,none⟩=some (.func (.func 194) #[] #[v9,v7,v4]):=⟨h.cell 0,h.cell 1,h.cell 2⟩
theorem first_prt {R1 R2 R3:World->Prop}(p0:Blk w gf 61 (prtL v9 v7 v4))
 (p1:∀ W,R1 W->Blk W gf 61 (prtL v9 v7 v4))
 (p2:∀ W,R2 W->Blk W gf 61 (prtL v9 v7 v4))
 (h1:Ca 190 #[v9,v7,v4] w fun e w'=>e=.returned (I z1)/\R1 w')
 (h2:z1=0->∀ W,R1 W->Ca 192 #[v9,v7,v4] W fun e w'=>e=.returned (I z2)/\R2 w')
 (h3:z1=0->z2=0->∀ W,R2 W->Ca 194 #[v9,v7,v4] W fun e w'=>e=.returned (I z3)/\R3 w')
 : Ca 100 #[.slice (some ⟨gf,0,none⟩) 3 3] w (prtPost R1 R2 R3 z1 z2 z3):=by
 go_enter Tryz.func100,Tryz.ntmps100;go_wp2_with fail;go_loopw [4,5,8] (fun _ _ i wr=>∃ k:Nat,i=I (k:Nat)/\prtSt R1 R2 R3 z1 z2 z3 w k wr) (fun _ _ i _=>3 - (intOf i).toNat)
 case atStart=>exact⟨0,rfl,.inl ⟨rfl,rfl⟩⟩
 case round=>
  obtain⟨k,rfl,hst⟩:=hrel;rcases hst with ⟨rfl,rfl⟩ | ⟨rfl,rfl,hr⟩ | ⟨rfl,rfl,rfl,hr⟩ | ⟨rfl,rfl,rfl,rfl,hr⟩
  · obtain⟨a0,a1,a2⟩:=oJ p0;have hc:=h1
    skip
    by_cases kz:z1=0
    · subst kz;go_wp2_with (first | ((go_at_call 190;(with_reducible refine (hc).mono ?_);rintro e w2 ⟨rfl,r2⟩);have Q2:=aT r2;clear r2) | fail);go_roundw
      case rel=>first | exact⟨1,dU,.inr (.inl ⟨rfl,rfl,Q2.out⟩)⟩ | ((repeat apply Exists.intro);exact⟨⟨1,dU,.inr (.inl ⟨rfl,rfl,Q2.out⟩)⟩,rfl⟩)
      case measure=>simp[intOf]
    · have b1:(z1 != 0)=true:=by rw[ag];exact kz
      have KZ:=aT kz;clear kz;go_wp2_with (first | ((go_at_call 190;(with_reducible refine (hc).mono ?_);rintro e w2 ⟨rfl,r2⟩);have Q2:=aT r2;clear r2) | fail);go_ret;exact .inl ⟨KZ.out,rfl,Q2.out⟩
  · obtain⟨a0,a1,a2⟩:=oJ (p1 _ hr);have hc:=h2 rfl _ hr;clear hr
    by_cases kz:z2=0
    · subst kz;go_wp2_with (first | ((go_at_call 192;(with_reducible refine (hc).mono ?_);rintro e w2 ⟨rfl,r2⟩);have Q2:=aT r2;clear r2) | fail);go_roundw
      case rel=>first | exact⟨2,dU,.inr (.inr (.inl ⟨rfl,rfl,rfl,Q2.out⟩))⟩ | ((repeat apply Exists.intro);exact⟨⟨2,dU,.inr (.inr (.inl ⟨rfl,rfl,rfl,Q2.out⟩))⟩,rfl⟩)
      case measure=>simp[intOf]
    · have b1:(z2 != 0)=true:=by rw[ag];exact kz
      have KZ:=aT kz;clear kz;go_wp2_with (first | ((go_at_call 192;(with_reducible refine (hc).mono ?_);rintro e w2 ⟨rfl,r2⟩);have Q2:=aT r2;clear r2) | fail);go_ret;exact .inr (.inl ⟨rfl,KZ.out,rfl,Q2.out⟩)
  · obtain⟨a0,a1,a2⟩:=oJ (p2 _ hr);have hc:=h3 rfl rfl _ hr;clear hr
    by_cases kz:z3=0
    · subst kz;go_wp2_with (first | ((go_at_call 194;(with_reducible refine (hc).mono ?_);rintro e w2 ⟨rfl,r2⟩);have Q2:=aT r2;clear r2) | fail);go_roundw
      case rel=>first | exact⟨3,dU,.inr (.inr (.inr ⟨rfl,rfl,rfl,rfl,Q2.out⟩))⟩ | ((repeat apply Exists.intro);exact⟨⟨3,dU,.inr (.inr (.inr ⟨rfl,rfl,rfl,rfl,Q2.out⟩))⟩,rfl⟩)
      case measure=>simp[intOf]
    · have b1:(z3 != 0)=true:=by rw[ag];exact kz
      have KZ:=aT kz;clear kz;go_wp2_with (first | ((go_at_call 194;(with_reducible refine (hc).mono ?_);rintro e w2 ⟨rfl,r2⟩);have Q2:=aT r2;clear r2) | fail);go_ret;exact .inr (.inr (⟨rfl,rfl,rfl,Q2.out⟩))
  · have Q2:=aT hr;clear hr;go_wp2_with fail;go_ret;exact .inr (.inr (⟨rfl,rfl,rfl,Q2.out⟩))
def opnSt (R1 R2 R3 R4 R5:World->Prop)(z1 z2 z3 z4 z5:Int)(w:World)(k:Nat)(wr:World):Prop:=(k=0/\wr=w)\/(k=1/\z1=0/\R1 wr)\/(k=2/\z1=0/\z2=0/\R2 wr)\/(k=3/\z1=0/\z2=0/\z3=0/\R3 wr)\/(k=4/\z1=0/\z2=0/\z3=0/\z4=0/\R4 wr)\/(k=5/\z1=0/\z2=0/\z3=0/\z4=0/\z5=0/\R5 wr)
def opnPost (R1 R2 R3 R4 R5:World->Prop)(z1 z2 z3 z4 z5:Int)(e:Ending)(w':World):Prop:=(z1≠0/\e=.returned (I z1)/\R1 w')\/(z1=0/\z2≠0/\e=.returned (I z2)/\R2 w')\/(z1=0/\z2=0/\z3≠0/\e=.returned (I z3)/\R3 w')\/(z1=0/\z2=0/\z3=0/\z4≠0/\e=.returned (I z4)/\R4 w')\/(z1=0/\z2=0/\z3=0/\z4=0/\e=.returned (I z5)/\R5 w')
def opnL (v3 v4 v8 v9 v11 vg:Value):List Value:=[.func (.func 101) #[] #[v3,v8,v9],.func (.func 103) #[] #[v11,v3,v8,v4],.func (.func 105) #[] #[v4,v11],.func (.func 107) #[vg] #[],.func (.func 108) #[vg] #[]]
theorem lO (h:Blk W gf 61 (opnL v3 v4 v8 v9 v11 vg)):W.cell? ⟨gf,0,none⟩=some (.func (.func 101) #[] #[v3,v8,v9])/\W.cell? ⟨gf,1,none⟩=some (.func (.func 103) #[] #[v11,v3,v8,v4])/\W.cell? ⟨gf,2,none⟩=some (.func (.func 105) #[] #[v4,v11])/\W.cell? ⟨gf,3,none⟩=some (.func (.func 107) #[vg] #[])/\W.cell? ⟨gf,4,none⟩=some (.func (.func 108) #[vg] #[]):=⟨h.cell 0,h.cell 1,h.cell 2,h.cell 3,h.cell 4⟩
theorem first_opn {R1 R2 R3 R4 R5:World->Prop}{z5:Int}(p0:Blk w gf 61 (opnL v3 v4 v8 v9 v11 vg))
 (p1:∀ W,R1 W->Blk W gf 61 (opnL v3 v4 v8 v9 v11 vg))
 (p2:∀ W,R2 W->Blk W gf 61 (opnL v3 v4 v8 v9 v11 vg))
 (p3:∀ W,R3 W->Blk W gf 61 (opnL v3 v4 v8 v9 v11 vg))
 (p4:∀ W,R4 W->Blk W gf 61 (opnL v3 v4 v8 v9 v11 vg))
 (h1:Ca 101 #[v3,v8,v9] w fun e w'=>e=.returned (I z1)/\R1 w')
 (h2:z1=0->∀ W,R1 W->Ca 103 #[v11,v3,v8,v4] W fun e w'=>e=.returned (I z2)/\R2 w')
 (h3:z1=0->z2=0->∀ W,R2 W->Ca 105 #[v4,v11] W fun e w'=>e=.returned (I z3)/\R3 w')
 (h4:z1=0->z2=0->z3=0->∀ W,R3 W->Ca 107 #[vg] W fun e w'=>e=.returned (I z4)/\R4 w')
 (h5:z1=0->z2=0->z3=0->z4=0->∀ W,R4 W->Ca 108 #[vg] W fun e w'=>e=.returned (I z5)/\R5 w')
 : Ca 100 #[.slice (some ⟨gf,0,none⟩) 5 5] w (opnPost R1 R2 R3 R4 R5 z1 z2 z3 z4 z5):=by
 go_enter Tryz.func100,Tryz.ntmps100;go_wp2_with fail;go_loopw [4,5,8] (fun _ _ i wr=>∃ k:Nat,i=I (k:Nat)/\opnSt R1 R2 R3 R4 R5 z1 z2 z3 z4 z5 w k wr) (fun _ _ i _=>5 - (intOf i).toNat)
 case atStart=>exact⟨0,rfl,.inl ⟨rfl,rfl⟩⟩
 case round=>
  obtain⟨k,rfl,hst⟩:=hrel;rcases hst with ⟨rfl,rfl⟩ | ⟨rfl,rfl,hr⟩ | ⟨rfl,rfl,rfl,hr⟩ | ⟨rfl,rfl,rfl,rfl,hr⟩ | ⟨rfl,rfl,rfl,rfl,rfl,hr⟩ | ⟨rfl,rfl,rfl,rfl,rfl,rfl,hr⟩
  · obtain⟨a0,a1,a2,a3,a4⟩:=lO p0;have hc:=h1
    skip
    by_cases kz:z1=0
    · subst kz;go_wp2_with (first | ((go_at_call 101;(with_reducible refine (hc).mono ?_);rintro e w2 ⟨rfl,r2⟩);have Q2:=aT r2;clear r2) | fail);go_roundw
      case rel=>first | exact⟨1,dU,.inr (.inl ⟨rfl,rfl,Q2.out⟩)⟩ | ((repeat apply Exists.intro);exact⟨⟨1,dU,.inr (.inl ⟨rfl,rfl,Q2.out⟩)⟩,rfl⟩)
      case measure=>simp[intOf]
    · have b1:(z1 != 0)=true:=by rw[ag];exact kz
      have KZ:=aT kz;clear kz;go_wp2_with (first | ((go_at_call 101;(with_reducible refine (hc).mono ?_);rintro e w2 ⟨rfl,r2⟩);have Q2:=aT r2;clear r2) | fail);go_ret;exact .inl ⟨KZ.out,rfl,Q2.out⟩
  · obtain⟨a0,a1,a2,a3,a4⟩:=lO (p1 _ hr);have hc:=h2 rfl _ hr;clear hr
    by_cases kz:z2=0
    · subst kz;go_wp2_with (first | ((go_at_call 103;(with_reducible refine (hc).mono ?_);rintro e w2 ⟨rfl,r2⟩);have Q2:=aT r2;clear r2) | fail);go_roundw
      case rel=>first | exact⟨2,dU,.inr (.inr (.inl ⟨rfl,rfl,rfl,Q2.out⟩))⟩ | ((repeat apply Exists.intro);exact⟨⟨2,dU,.inr (.inr (.inl ⟨rfl,rfl,rfl,Q2.out⟩))⟩,rfl⟩)
      case measure=>simp[intOf]
    · have b1:(z2 != 0)=true:=by rw[ag];exact kz
      have KZ:=aT kz;clear kz;go_wp2_with (first | ((go_at_call 103;(with_reducible refine (hc).mono ?_);rintro e w2 ⟨rfl,r2⟩);have Q2:=aT r2;clear r2) | fail);go_ret;exact .inr (.inl ⟨rfl,KZ.out,rfl,Q2.out⟩)
  · obtain⟨a0,a1,a2,a3,a4⟩:=lO (p2 _ hr);have hc:=h3 rfl rfl _ hr;clear hr
    by_cases kz:z3=0
    · subst kz;go_wp2_with (first | ((go_at_call 105;(with_reducible refine (hc).mono ?_);rintro e w2 ⟨rfl,r2⟩);have Q2:=aT r2;clear r2) | fail);go_roundw
      case rel=>first | exact⟨3,dU,.inr (.inr (.inr (.inl ⟨rfl,rfl,rfl,rfl,Q2.out⟩)))⟩ | ((repeat apply Exists.intro);exact⟨⟨3,dU,.inr (.inr (.inr (.inl ⟨rfl,rfl,rfl,rfl,Q2.out⟩)))⟩,rfl⟩)
      case measure=>simp[intOf]
    · have b1:(z3 != 0)=true:=by rw[ag];exact kz
      have KZ:=aT kz;clear kz;go_wp2_with (first | ((go_at_call 105;(with_reducible refine (hc).mono ?_);rintro e w2 ⟨rfl,r2⟩);have Q2:=aT r2;clear r2) | fail);go_ret;exact .inr (.inr (.inl ⟨rfl,rfl,KZ.out,rfl,Q2.out⟩))
  · obtain⟨a0,a1,a2,a3,a4⟩:=lO (p3 _ hr);have hc:=h4 rfl rfl rfl _ hr;clear hr
    by_cases kz:z4=0
    · subst kz;go_wp2_with (first | ((go_at_call 107;(with_reducible refine (hc).mono ?_);rintro e w2 ⟨rfl,r2⟩);have Q2:=aT r2;clear r2) | fail);go_roundw
      case rel=>first | exact⟨4,dU,.inr (.inr (.inr (.inr (.inl ⟨rfl,rfl,rfl,rfl,rfl,Q2.out⟩))))⟩ | ((repeat apply Exists.intro);exact⟨⟨4,dU,.inr (.inr (.inr (.inr (.inl ⟨rfl,rfl,rfl,rfl,rfl,Q2.out⟩))))⟩,rfl⟩)
      case measure=>simp[intOf]
    · have b1:(z4 != 0)=true:=by rw[ag];exact kz
      have KZ:=aT kz;clear kz;go_wp2_with (first | ((go_at_call 107;(with_reducible refine (hc).mono ?_);rintro e w2 ⟨rfl,r2⟩);have Q2:=aT r2;clear r2) | fail);go_ret;exact .inr (.inr (.inr (.inl ⟨rfl,rfl,rfl,KZ.out,rfl,Q2.out⟩)))
  · obtain⟨a0,a1,a2,a3,a4⟩:=lO (p4 _ hr);have hc:=h5 rfl rfl rfl rfl _ hr;clear hr
    by_cases kz:z5=0
    · subst kz;go_wp2_with (first | ((go_at_call 108;(with_reducible refine (hc).mono ?_);rintro e w2 ⟨rfl,r2⟩);have Q2:=aT r2;clear r2) | fail);go_roundw
      case rel=>first | exact⟨5,dU,.inr (.inr (.inr (.inr (.inr ⟨rfl,rfl,rfl,rfl,rfl,rfl,Q2.out⟩))))⟩ | ((repeat apply Exists.intro);exact⟨⟨5,dU,.inr (.inr (.inr (.inr (.inr ⟨rfl,rfl,rfl,rfl,rfl,rfl,Q2.out⟩))))⟩,rfl⟩)
      case measure=>simp[intOf]
    · have b1:(z5 != 0)=true:=by rw[ag];exact kz
      have KZ:=aT kz;clear kz;go_wp2_with (first | ((go_at_call 108;(with_reducible refine (hc).mono ?_);rintro e w2 ⟨rfl,r2⟩);have Q2:=aT r2;clear r2) | fail);go_ret;exact .inr (.inr (.inr (.inr (⟨rfl,rfl,rfl,rfl,rfl,Q2.out⟩))))
  · have Q2:=aT hr;clear hr;go_wp2_with fail;go_ret;exact .inr (.inr (.inr (.inr (⟨rfl,rfl,rfl,rfl,rfl,Q2.out⟩))))
