/- Parts. -/
import Derived.Test.YtmeebofhlilcmaaGreatPr34
set_option linter.unusedVariables false
set_option linter.unusedSimpArgs false
set_option maxRecDepth 100000
set_option maxHeartbeats 0
namespace Go.Proofs.YtmeebofhlilcmaaGreat
variable {w1:World} {t':TypeId} {a0 a1 a2 a3 a4 b0 b1 b2 b3 b4:Value} {k:Nat}
open Go.RowKit
theorem rvn {w w2:World}{g g':Nat}{t:TypeId}(hp:Blk w1 g t [a0,a1,a2,a3,a4])(hx:Blk w1 g' t' [b0,b1,b2,b3,b4])(b:Below w.heap.size w w1)(hb:Below w1.heap.size w1 w2) :
 (w2.cell? ⟨g,0,none⟩=some a0/\w2.cell? ⟨g,1,none⟩=some a1/\w2.cell? ⟨g,2,none⟩=some a2/\w2.cell? ⟨g,3,none⟩=some a3/\w2.cell? ⟨g,4,none⟩=some a4)/\(w2.cell? ⟨g',0,none⟩=some b0/\w2.cell? ⟨g',1,none⟩=some b1/\w2.cell? ⟨g',2,none⟩=some b2/\w2.cell? ⟨g',3,none⟩=some b3/\w2.cell? ⟨g',4,none⟩=some b4)/\g<w2.heap.size/\g'<w2.heap.size/\Blk w2 g t [a0,a1,a2,a3,a4]/\Blk w2 g' t' [b0,b1,b2,b3,b4]/\Below w.heap.size w w2:=by
 have h1:=hp.below hb hp.lt;have h2:=hx.below hb hx.lt;exact⟨blk5 h1,blk5 h2,h1.lt,h2.lt,h1,h2,b.trans (hb.mono b.size)⟩
theorem rvf {w:World}{t:TypeId}(hb:Below ((w.alloc (.cells #[a0,a1,a2,a3,a4] t)).alloc (.cells #[b0,b1,b2,b3,b4] t')).heap.size ((w.alloc (.cells #[a0,a1,a2,a3,a4] t)).alloc (.cells #[b0,b1,b2,b3,b4] t')) w1) :
 (w1.cell? ⟨w.heap.size,0,none⟩=some a0/\w1.cell? ⟨w.heap.size,1,none⟩=some a1/\w1.cell? ⟨w.heap.size,2,none⟩=some a2/\w1.cell? ⟨w.heap.size,3,none⟩=some a3/\w1.cell? ⟨w.heap.size,4,none⟩=some a4)/\(w1.cell? ⟨w.heap.size+1,0,none⟩=some b0/\w1.cell? ⟨w.heap.size+1,1,none⟩=some b1/\w1.cell? ⟨w.heap.size+1,2,none⟩=some b2/\w1.cell? ⟨w.heap.size+1,3,none⟩=some b3/\w1.cell? ⟨w.heap.size+1,4,none⟩=some b4)/\w.heap.size<w1.heap.size/\w.heap.size+1<w1.heap.size/\Blk w1 w.heap.size t [a0,a1,a2,a3,a4]/\Blk w1 (w.heap.size+1) t' [b0,b1,b2,b3,b4]/\Below w.heap.size w w1 :=
 rvn (w:=w) (w1:=((w.alloc (.cells #[a0,a1,a2,a3,a4] t)).alloc (.cells #[b0,b1,b2,b3,b4] t'))) bI bI bc hb
section
variable {x:PA} {p:PV} {w:World} {i:Nat}
def lc (x:PA)(p:PV)(n:Nat):Prop:=∀ (reg:Int) (w:World),cC w x p->Ca 81 #[.agg #[.slice x.A1 x.n1 x.c1,.slice x.A2 x.n2 x.c2,I p.regs,.slice x.A3 x.n3 x.c3,.slice x.A4 x.n4 x.c4],I (n:Nat),I reg] w fun e w'=>e=.returned (I (dd p n reg))/\Below w.heap.size w w'
theorem rtaken_of (hk:lc x p i)(h:cC w x p)(r:Int) :
 Ca 175 #[.agg #[.slice x.A1 x.n1 x.c1,.slice x.A2 x.n2 x.c2,I p.regs,.slice x.A3 x.n3 x.c3,.slice x.A4 x.n4 x.c4],I (i:Nat),I r] w fun e w'=>e=.returned (I (bG p i r))/\Below w.heap.size w w':=by
 unfold bG
 by_cases h0:r<0
 · rw[if_pos (.inl h0)];go_enter Tryz.func175,Tryz.ntmps175;go_wp2;go_ret;exact⟨rfl,bc⟩
 by_cases h1:p.regs<=r
 · rw[if_pos (.inr h1)];go_enter Tryz.func175,Tryz.ntmps175;go_wp2;go_ret;exact⟨rfl,bc⟩
 rw[if_neg aS];have hkk:=hk r;generalize dd p i r=kr at *;go_enter Tryz.func175,Tryz.ntmps175;go_wp2_with (first | ((go_at_call 81;go_call (hkk _ (h.below (b:=w.heap.size) bc aW)) as e w1 ⟨rfl,hb1⟩)) | fail);go_ret;exact⟨rfl,bO (a:=w) (B:=w.heap.size) bc hb1 br⟩
theorem rgives_of (hk:lc x p i)(h:cC w x p)(hi:i<p.code.length) :
 Ca 80 #[.agg #[.slice x.A1 x.n1 x.c1,.slice x.A2 x.n2 x.c2,I p.regs,.slice x.A3 x.n3 x.c3,.slice x.A4 x.n4 x.c4],I (i:Nat)] w fun e w'=>e=.returned (I (cZ p (bG p i) (aY p.code i)))/\Below w.heap.size w w':=by
 have hl4:=h.r4.1;have hl3:=h.r3.1;have hl1:=h.r1.1;have hi4:i<x.n4:=aS;obtain⟨b,o,y,hA,hb,hy,hc⟩:=h.r4.at_ gX aS hi4;rw[gY hy];obtain⟨op,ya,yb,yc,yk⟩:=y;have h0:w.cell? ⟨b,o+i * 5,none⟩=some (I op):=hc 0 aS;have h1:w.cell? ⟨b,o+i * 5+1,none⟩=some (I ya):=hc 1 aS;have h2:w.cell? ⟨b,o+i * 5+2,none⟩=some (I yb):=hc 2 aS;have h3:w.cell? ⟨b,o+i * 5+3,none⟩=some (I yc):=hc 3 aS;have h4:w.cell? ⟨b,o+i * 5+4,none⟩=some (I yk):=hc 4 aS;have htk:=fun (r:Int) (W:World) (h:cC W x p)=>rtaken_of hk h r
 have hsg:=fun W=>rsign_any op W
 have HP:=aT h;clear hc hy hk;have H0:=aT h0
 by_cases hs:fC op=true
 · rw[show sgn3 op=(fA op,fB op,true) from by unfold sgn3;rw[if_pos hs]] at hsg;rw[show cZ p (bG p i) ⟨op,ya,yb,yc,yk⟩=fB op from by unfold cZ;rw[if_pos hs]];generalize fA op=si at *;generalize fB op=so at *;clear hs;simp only[hA];go_enter Tryz.func80,Tryz.ntmps80;go_wp2_with (first | ((go_at_call 174;go_call (hsg _) as e w1 ⟨rfl,hb1⟩);obtain⟨⟨p0,p1,p2,p3,p4⟩,⟨x0,x1,x2,x3,x4⟩,sz1,sy1,hp1,hx1,b01⟩:=rvf hb1;skip) | ((go_at_call 175;go_call (ht _ (HP.out.below b01 aW)) as e w2 ⟨rfl,hb2⟩);have b02:=b01.trans (hb2.mono b01.size)) | fail);go_ret;exact⟨rfl,by first | exact b02 | exact b01 | exact bc⟩
 have hs':fC op=false:=by cases q:fC op with | false=>rfl | true=>exact absurd q hs
 have hsn:¬ (5<=op/\op<=20):=by unfold fC at hs';rw[aE] at hs';exact hs'
 rw[show sgn3 op=(0,0,false) from by unfold sgn3;rw[hs'];rfl] at hsg;have hgv:cZ p (bG p i) ⟨op,ya,yb,yc,yk⟩=if op<=2 then op else if op=3 then bG p i yb else if op=27 then bG p i yc else if op=21/\0<=yk/\yk<(p.cells.length:Int) then (db p.cells yk.toNat).1 else if op=28/\0<=yk/\yk<(p.ins.length:Int) then kAt p.ins yk else 0:=by
  unfold cZ;rw[hs'];rfl
 rw[hgv,hl3,hl1];clear hgv hs hs'
 by_cases o2:op<=2
 · rw[if_pos o2];simp only[hA];go_enter Tryz.func80,Tryz.ntmps80;go_wp2_with (first | ((go_at_call 174;go_call (hsg _) as e w1 ⟨rfl,hb1⟩);obtain⟨⟨p0,p1,p2,p3,p4⟩,⟨x0,x1,x2,x3,x4⟩,sz1,sy1,hp1,hx1,b01⟩:=rvf hb1;skip) | ((go_at_call 175;go_call (ht _ (HP.out.below b01 aW)) as e w2 ⟨rfl,hb2⟩);have b02:=b01.trans (hb2.mono b01.size)) | fail);go_ret;exact⟨rfl,by first | exact b02 | exact b01 | exact bc⟩
 rw[if_neg o2]
 by_cases o3:op=3
 · rw[if_pos o3];have b3:(op == 3)=true:=by rw[o3];rfl
   clear o3;have ht:=htk yb;simp only[hA] at ht;generalize bG p i yb=tv at *;simp only[hA];go_enter Tryz.func80,Tryz.ntmps80;go_wp2_with (first | ((go_at_call 174;go_call (hsg _) as e w1 ⟨rfl,hb1⟩);obtain⟨⟨p0,p1,p2,p3,p4⟩,⟨x0,x1,x2,x3,x4⟩,sz1,sy1,hp1,hx1,b01⟩:=rvf hb1;skip) | ((go_at_call 175;go_call (ht _ (HP.out.below b01 aW)) as e w2 ⟨rfl,hb2⟩);have b02:=b01.trans (hb2.mono b01.size)) | fail);go_ret;exact⟨rfl,by first | exact b02 | exact b01 | exact bc⟩
 rw[if_neg o3];have b3:(op == 3)=false:=by rw[af];exact o3
 by_cases o27:op=27
 · rw[if_pos o27];have b27:(op == 27)=true:=by rw[o27];rfl
   clear o27;have ht:=htk yc;simp only[hA] at ht;generalize bG p i yc=tv at *;simp only[hA];go_enter Tryz.func80,Tryz.ntmps80;go_wp2_with (first | ((go_at_call 174;go_call (hsg _) as e w1 ⟨rfl,hb1⟩);obtain⟨⟨p0,p1,p2,p3,p4⟩,⟨x0,x1,x2,x3,x4⟩,sz1,sy1,hp1,hx1,b01⟩:=rvf hb1;skip) | ((go_at_call 175;go_call (ht _ (HP.out.below b01 aW)) as e w2 ⟨rfl,hb2⟩);have b02:=b01.trans (hb2.mono b01.size)) | fail);go_ret;exact⟨rfl,by first | exact b02 | exact b01 | exact bc⟩
 rw[if_neg o27];have b27:(op == 27)=false:=by rw[af];exact o27
 by_cases o21:op=21
 · have bq:(op == 21)=true:=by rw[o21];rfl
   have b28:(op == 28)=false:=by rw[o21];rfl
   by_cases k0:0<=yk
   · by_cases k1:yk<(x.n3:Int)
     · rw[if_pos ⟨by assumption,k0,k1⟩];obtain⟨k,rfl⟩:∃ k:Nat,yk=k:=⟨yk.toNat,aS⟩;obtain⟨b3,o3,y3,hA3,hb3,hy3,hc3⟩:=h.r3.at_ iy aS (show k<x.n3 by omega);have c30:w.cell? ⟨b3,o3+k * 2,none⟩=some (I y3.1):=hc3 0 aS;rw[ax,jD hy3];have HA3:=aT hA3;clear hc3 hy3;simp only[hA3];clear o21;simp only[hA];go_enter Tryz.func80,Tryz.ntmps80;go_wp2_with (first | ((go_at_call 174;go_call (hsg _) as e w1 ⟨rfl,hb1⟩);obtain⟨⟨p0,p1,p2,p3,p4⟩,⟨x0,x1,x2,x3,x4⟩,sz1,sy1,hp1,hx1,b01⟩:=rvf hb1;have c31:=(b01.cell (p:=⟨b3,o3+k * 2,none⟩) hb3).trans c30) | ((go_at_call 175;go_call (ht _ (HP.out.below b01 aW)) as e w2 ⟨rfl,hb2⟩);have b02:=b01.trans (hb2.mono b01.size)) | fail);go_ret;exact⟨rfl,by first | exact b02 | exact b01 | exact bc⟩
     · rw[if_neg aS,if_neg aS];clear o21;simp only[hA];go_enter Tryz.func80,Tryz.ntmps80;go_wp2_with (first | ((go_at_call 174;go_call (hsg _) as e w1 ⟨rfl,hb1⟩);obtain⟨⟨p0,p1,p2,p3,p4⟩,⟨x0,x1,x2,x3,x4⟩,sz1,sy1,hp1,hx1,b01⟩:=rvf hb1;skip) | ((go_at_call 175;go_call (ht _ (HP.out.below b01 aW)) as e w2 ⟨rfl,hb2⟩);have b02:=b01.trans (hb2.mono b01.size)) | fail);go_ret;exact⟨rfl,by first | exact b02 | exact b01 | exact bc⟩
   · rw[if_neg aS,if_neg aS];clear o21;simp only[hA];go_enter Tryz.func80,Tryz.ntmps80;go_wp2_with (first | ((go_at_call 174;go_call (hsg _) as e w1 ⟨rfl,hb1⟩);obtain⟨⟨p0,p1,p2,p3,p4⟩,⟨x0,x1,x2,x3,x4⟩,sz1,sy1,hp1,hx1,b01⟩:=rvf hb1;skip) | ((go_at_call 175;go_call (ht _ (HP.out.below b01 aW)) as e w2 ⟨rfl,hb2⟩);have b02:=b01.trans (hb2.mono b01.size)) | fail);go_ret;exact⟨rfl,by first | exact b02 | exact b01 | exact bc⟩
 rw[if_neg (fun q=>o21 q.1)];have b21:(op == 21)=false:=by rw[af];exact o21
 by_cases o28:op=28
 · have bq:(op == 28)=true:=by rw[o28];rfl
   by_cases k0:0<=yk
   · by_cases k1:yk<(x.n1:Int)
     · rw[if_pos ⟨by assumption,k0,k1⟩];obtain⟨k,rfl⟩:∃ k:Nat,yk=k:=⟨yk.toNat,aS⟩;obtain⟨b1',o1',hA1,hb1',hc1⟩:=h.r1.at_ (show k<x.n1 by omega);have ek:kAt p.ins (k:Int)=bj p.ins k:=by unfold kAt bj;rw[if_neg aS,ax]
       rw[ek];generalize bj p.ins k=iv0 at *;simp only[hA1];clear o28;simp only[hA];go_enter Tryz.func80,Tryz.ntmps80;go_wp2_with (first | ((go_at_call 174;go_call (hsg _) as e w1 ⟨rfl,hb1⟩);obtain⟨⟨p0,p1,p2,p3,p4⟩,⟨x0,x1,x2,x3,x4⟩,sz1,sy1,hp1,hx1,b01⟩:=rvf hb1;have c31:=(b01.cell (p:=⟨b1',o1'+k,none⟩) hb1').trans hc1) | ((go_at_call 175;go_call (ht _ (HP.out.below b01 aW)) as e w2 ⟨rfl,hb2⟩);have b02:=b01.trans (hb2.mono b01.size)) | fail);go_ret;exact⟨rfl,by first | exact b02 | exact b01 | exact bc⟩
     · rw[if_neg aS];clear o28;simp only[hA];go_enter Tryz.func80,Tryz.ntmps80;go_wp2_with (first | ((go_at_call 174;go_call (hsg _) as e w1 ⟨rfl,hb1⟩);obtain⟨⟨p0,p1,p2,p3,p4⟩,⟨x0,x1,x2,x3,x4⟩,sz1,sy1,hp1,hx1,b01⟩:=rvf hb1;skip) | ((go_at_call 175;go_call (ht _ (HP.out.below b01 aW)) as e w2 ⟨rfl,hb2⟩);have b02:=b01.trans (hb2.mono b01.size)) | fail);go_ret;exact⟨rfl,by first | exact b02 | exact b01 | exact bc⟩
   · rw[if_neg aS];clear o28;simp only[hA];go_enter Tryz.func80,Tryz.ntmps80;go_wp2_with (first | ((go_at_call 174;go_call (hsg _) as e w1 ⟨rfl,hb1⟩);obtain⟨⟨p0,p1,p2,p3,p4⟩,⟨x0,x1,x2,x3,x4⟩,sz1,sy1,hp1,hx1,b01⟩:=rvf hb1;skip) | ((go_at_call 175;go_call (ht _ (HP.out.below b01 aW)) as e w2 ⟨rfl,hb2⟩);have b02:=b01.trans (hb2.mono b01.size)) | fail);go_ret;exact⟨rfl,by first | exact b02 | exact b01 | exact bc⟩
 rw[if_neg (fun q=>o28 q.1)];have b28:(op == 28)=false:=by rw[af];exact o28
 simp only[hA];go_enter Tryz.func80,Tryz.ntmps80;go_wp2_with (first | ((go_at_call 174;go_call (hsg _) as e w1 ⟨rfl,hb1⟩);obtain⟨⟨p0,p1,p2,p3,p4⟩,⟨x0,x1,x2,x3,x4⟩,sz1,sy1,hp1,hx1,b01⟩:=rvf hb1;skip) | ((go_at_call 175;go_call (ht _ (HP.out.below b01 aW)) as e w2 ⟨rfl,hb2⟩);have b02:=b01.trans (hb2.mono b01.size)) | fail);go_ret;exact⟨rfl,by first | exact b02 | exact b01 | exact bc⟩
theorem kindR_nine {r:Int}(h:dd p k r=9):∀ m,dd p (k+m) r=9:=by
 intro m
 induction m with
 | zero=>exact h
 | succ m ih=>
   show dd p (k+m+1) r=9
   rw[ip]
   split
   · exact ih
   · rw[if_pos (by rw[ih];omega)]
theorem rkind_next {n:Nat}(hn:n<=p.code.length)(ih:∀ i,i<n->lc x p i):lc x p n:=by
 intro reg w h;have hl4:=h.r4.1;have hgv:=fun (k:Nat) (hk:k<n) (W:World) (h:cC W x p)=>rgives_of (ih k hk) h aS
 have HP:=aT h;have HN:=aT hn;have hn4:n<=x.n4:=aS;have hn4m:x.n4<=9223372036854775807:=by have:=h.k4;unfold maxLen at this;omega
 clear ih hn;go_enter Tryz.func81,Tryz.ntmps81;go_wp2_with fail;go_loopw [7,8] (fun v i wr=>∃ k:Nat,k<=n/\i=I (k:Nat)/\v=I (dd p k reg)/\Below w.heap.size w wr/\Blk wr w.heap.size 26 [.slice x.A1 x.n1 x.c1,.slice x.A2 x.n2 x.c2,I p.regs,.slice x.A3 x.n3 x.c3,.slice x.A4 x.n4 x.c4]) (fun _ i _=>n - (intOf i).toNat)
 case atStart=>exact⟨0,aS,rfl,rfl,bc,bI⟩
 case round=>
  obtain⟨k,hk,rfl,rfl,hbel,hblk⟩:=hrel;have HB:=aT hbel;have HX:=aT hblk;have hs:=hbel.size;have lx:=hblk.lt;obtain⟨y0,y1,y2,y3,y4⟩:=blk5 hblk;clear hbel hblk
  by_cases hlt:k<n
  · have PW:=aT (HP.out.below HB.out aW);obtain⟨b,o,y,hA,hb,hy,hc⟩:=PW.out.r4.at_ gX aS (show k<x.n4 by omega);have hI:=gY hy;have hks:=ip p k reg;rw[hI] at hks;have hg:=hgv k hlt;rw[hI] at hg;obtain⟨op,ya,yb,yc,yk⟩:=y;simp only at hks;have h0:wr.cell? ⟨b,o+k * 5,none⟩=some (I op):=hc 0 aS;have h1:wr.cell? ⟨b,o+k * 5+1,none⟩=some (I ya):=hc 1 aS;clear hc hy hI hgv;generalize cZ p (bG p k) ⟨op,ya,yb,yc,yk⟩=gv at *;simp only[hA] at y4 hg ⊢
    by_cases o29:29<=op
    · have HK:=aT (hks.trans (if_pos (.inl o29)));clear hks;generalize dd p k reg=kr at *;go_wp2_with fail;go_roundw
      case rel=>exact⟨k+1,aS,by go_num,by rw[HK.out],HB.out,by first | exact HX.out | (rw[<- hA];exact HX.out)⟩
      case measure=>simp[intOf];omega
    · by_cases oa:ya=reg
      · have hks2:=hks.trans (if_neg aS);have ab:(ya != reg)=false:=by rw[oa];simp
        clear hks
        by_cases kz:dd p k reg=0
        · have HK:=aT (hks2.trans (if_neg (by rw[kz];simp)));clear hks2;rw[kz];go_wp2_with (first | ((go_at_call 80;go_call (hg _ PW.out) as e w1 ⟨rfl,hb1⟩);have B1:=aT (HB.out.trans (hb1.mono hs));have X1:=aT (HX.out.below hb1 lx)) | fail);go_roundw
          case rel=>exact⟨k+1,aS,by go_num,by rw[HK.out],B1.out,by first | exact X1.out | (rw[<- hA];exact X1.out)⟩
          case measure=>simp[intOf];omega
        · have kzb:(dd p k reg != 0)=true:=by rw[ag];exact kz
          have hk9:Hid (dd p n reg=9):=by
           show _=_
           have e1:=hks2.trans (if_pos kz);have:=kindR_nine e1 (n - (k+1))
           rwa [show k+1+(n - (k+1))=n by omega] at this
          clear hks2 kz;generalize dd p k reg=kr at *;go_wp2_with fail;go_ret;exact⟨by rw[hk9.out];rfl,HB.out⟩
      · have HK:=aT (hks.trans (if_pos (.inr oa)));have ab:(ya != reg)=true:=by rw[ag];exact oa
        clear hks oa;generalize dd p k reg=kr at *;go_wp2_with fail;go_roundw
        case rel=>exact⟨k+1,aS,by go_num,by rw[HK.out],HB.out,by first | exact HX.out | (rw[<- hA];exact HX.out)⟩
        case measure=>simp[intOf];omega
  · have hk9:k=n:=aS;subst hk9;go_wp2_with fail;go_ret;exact⟨rfl,HB.out⟩
theorem oS:∀ n,n<=p.code.length->lc x p n:=by
 intro n
 induction n using Nat.strongRecOn with
 | ind n ih=>exact fun hn=>rkind_next hn (fun i hi=>ih i hi aS)
end
section
variable {x:PA} {p:PV} {w:World} {i:Nat}
theorem takesR_else {op ya yb yc yk:Int}(h:fC op=false):du p i ⟨op,ya,yb,yc,yk⟩=if op=2 then decide (yk=0) || decide (yk=1) else if op=3 then decide (bG p i yb≠0)
 else if op=27 then decide (bG p i yb=2) && (decide (bG p i yc≠0) && decide (bG p i yk=bG p i yc))
 else if op=29 then decide (0<=yk) && (decide (yk<(p.outs.length:Int)) && decide (bG p i ya=kAt p.outs yk))
 else if op=32 then decide (0<=yk) && (decide (yk<(p.cells.length:Int)) && decide (bG p i ya=(db p.cells yk.toNat).1))
 else if op=30\/op=31 then decide (0<=yk) && (decide (yk<=(p.code.length:Int) - 1 - (i:Int)) && decide (bG p i ya=2))
 else true:=by unfold du;rw[h];rfl
theorem rtakes_of (hk:lc x p i)(h:cC w x p)(hi:i<p.code.length)(hcode:p.code.length<=100000) :
 Ca 79 #[.agg #[.slice x.A1 x.n1 x.c1,.slice x.A2 x.n2 x.c2,I p.regs,.slice x.A3 x.n3 x.c3,.slice x.A4 x.n4 x.c4],I (i:Nat)] w fun e w'=>e=.returned (.bool (du p i (aY p.code i)))/\Below w.heap.size w w':=by
 have hl4:=h.r4.1;have hl3:=h.r3.1;have hl2:=h.r2.1;have hi4:i<x.n4:=aS;obtain⟨b,o,y,hA,hb,hy,hc⟩:=h.r4.at_ gX aS hi4;rw[gY hy];obtain⟨op,ya,yb,yc,yk⟩:=y;have h0:w.cell? ⟨b,o+i * 5,none⟩=some (I op):=hc 0 aS;have h1:w.cell? ⟨b,o+i * 5+1,none⟩=some (I ya):=hc 1 aS;have h2:w.cell? ⟨b,o+i * 5+2,none⟩=some (I yb):=hc 2 aS;have h3:w.cell? ⟨b,o+i * 5+3,none⟩=some (I yc):=hc 3 aS;have h4:w.cell? ⟨b,o+i * 5+4,none⟩=some (I yk):=hc 4 aS;have htk:=fun (r:Int) (W:World) (h:cC W x p)=>rtaken_of hk h r
 simp only[hA] at htk;have hsg:=fun W=>rsign_any op W
 have HP:=aT h;clear hc hy hk;refine Or.elim (Decidable.em (fC op=true)) (fun hs=>?hP1) (fun hs=>?hN1)
 case' hP1=>
  rw[show sgn3 op=(fA op,fB op,true) from by unfold sgn3;rw[if_pos hs]] at hsg;rw[show du p i ⟨op,ya,yb,yc,yk⟩=(decide (bG p i yb≠0) && ((decide (fA op=0) || decide (bG p i yb=fA op)) && (decide (op<=6) || decide (bG p i yc=bG p i yb)))) from by unfold du;rw[if_pos hs]];generalize fA op=si at *;generalize fB op=so at *;have t1:=htk yb;have t2:=htk yc;clear hs htk;generalize bG p i yb=kb at *;generalize bG p i yc=kc at *;refine Or.elim (Decidable.em (kb=0)) (fun b0=>?gP1) (fun b0=>?gN1)
  case' gP1=>(have HR:=aT (show (decide (kb≠0) && ((decide (si=0) || decide (kb=si)) && (decide (op<=6) || decide (kc=kb))))=false from by rw[aj (by simpa using b0)];rfl);subst b0)
  case' gN1=>
   have b0b:(kb != 0)=true:=by rw[ag];exact b0
   refine Or.elim (Decidable.em (si=0)) (fun s0=>?gP2) (fun s0=>?gN2)
   case' gN2=>
    have s0b:(si == 0)=false:=by rw[af];exact s0
    refine Or.elim (Decidable.em (kb=si)) (fun sb=>?gP3) (fun sb=>?gN3)
    case' gN3=>
     have sbb:(kb == si)=false:=by rw[af];exact sb
     have HR:=aT (show (decide (kb≠0) && ((decide (si=0) || decide (kb=si)) && (decide (op<=6) || decide (kc=kb))))=false from by rw[aj s0,aj sb];simp)
    case' gP3=>
     subst sb;refine Or.elim (Decidable.em (op<=6)) (fun o6=>?gP4) (fun o6=>?gN4)
     case' gP4=>(have HR:=aT (show (decide (kb≠0) && ((decide (kb=0) || decide (kb=kb)) && (decide (op<=6) || decide (kc=kb))))=true from by rw[am b0,am o6,aj b0];simp))
     case' gN4=>(have HR:=aT (show (decide (kb≠0) && ((decide (kb=0) || decide (kb=kb)) && (decide (op<=6) || decide (kc=kb))))=(kc == kb) from by rw[am b0,aj o6,aj b0];simp;rfl))
   case' gP2=>
    subst s0;refine Or.elim (Decidable.em (op<=6)) (fun o6=>?gP5) (fun o6=>?gN5)
    case' gP5=>(have HR:=aT (show (decide (kb≠0) && ((decide ((0:Int)=0) || decide (kb=0)) && (decide (op<=6) || decide (kc=kb))))=true from by rw[am b0,am o6];rfl))
    case' gN5=>(have HR:=aT (show (decide (kb≠0) && ((decide ((0:Int)=0) || decide (kb=0)) && (decide (op<=6) || decide (kc=kb))))=(kc == kb) from by rw[am b0,aj o6];rfl))
 case' hN1=>
  have hs':fC op=false:=by cases q:fC op with | false=>rfl | true=>exact absurd q hs
  rw[show sgn3 op=(0,0,false) from by unfold sgn3;rw[hs'];rfl] at hsg;rw[takesR_else hs',hl2,hl3,hl4];clear hs;refine Or.elim (Decidable.em (op=2)) (fun o2=>?hP2) (fun o2=>?hN2)
  case' hP2=>
   rw[if_pos o2];have b2:(op == 2)=true:=by rw[o2];rfl
   clear hs' o2;refine Or.elim (Decidable.em (yk=0)) (fun k0=>?gP6) (fun k0=>?gN6)
   case' gP6=>(have HR:=aT (show (decide (yk=0) || decide (yk=1))=true from by rw[k0];rfl);have k0b:(yk == 0)=true:=(by rw[k0];rfl);clear k0)
   case' gN6=>(have HR:=aT (show (decide (yk=0) || decide (yk=1))=(yk == 1) from by rw[aj k0];rfl);have k0b:(yk == 0)=false:=(by rw[af];exact k0))
  case' hN2=>
   rw[if_neg o2];have b2:(op == 2)=false:=by rw[af];exact o2
   refine Or.elim (Decidable.em (op=3)) (fun o3=>?hP3) (fun o3=>?hN3)
   case' hP3=>
    rw[if_pos o3];have b3:(op == 3)=true:=by rw[o3];rfl
    clear o3;have t1:=htk yb;generalize bG p i yb=kb at *;have HR:=aT (show decide (kb≠0)=(kb != 0) from by by_cases q:kb=0 <;> simp[q]);clear hs' htk
   case' hN3=>
    rw[if_neg o3];have b3:(op == 3)=false:=by rw[af];exact o3
    refine Or.elim (Decidable.em (op=27)) (fun o27=>?hP4) (fun o27=>?hN4)
    case' hP4=>
     rw[if_pos o27];have b27:(op == 27)=true:=by rw[o27];rfl
     clear o27;have t1:=htk yc;have t2:=htk yb;have t3:=htk yk;generalize bG p i yc=kc at *;generalize bG p i yb=kb at *;generalize bG p i yk=kk at *;clear hs' htk;refine Or.elim (Decidable.em (kb=2)) (fun q1=>?gP7) (fun q1=>?gN7)
     case' gN7=>(have q1b:(kb == 2)=false:=(by rw[af];exact q1);have HR:=aT (show (decide (kb=2) && (decide (kc≠0) && decide (kk=kc)))=false from by rw[aj q1];rfl))
     case' gP7=>
      subst q1;refine Or.elim (Decidable.em (kc=0)) (fun q2=>?gP8) (fun q2=>?gN8)
      case' gP8=>(subst q2;have HR:=aT (show (decide ((2:Int)=2) && (decide ((0:Int)≠0) && decide (kk=0)))=false from rfl))
      case' gN8=>(have q2b:(kc != 0)=true:=(by rw[ag];exact q2);have HR:=aT (show (decide ((2:Int)=2) && (decide (kc≠0) && decide (kk=kc)))=(kk == kc) from by rw[am q2];rfl))
    case' hN4=>
     rw[if_neg o27];have b27:(op == 27)=false:=by rw[af];exact o27
     refine Or.elim (Decidable.em (op=29)) (fun o29=>?hP5) (fun o29=>?hN5)
     case' hP5=>
      rw[if_pos o29];have b29:(op == 29)=true:=by rw[o29];rfl
      clear hs' o29;have t1:=htk ya;generalize bG p i ya=ka at *;clear htk
      by_cases k0:0<=yk
      · by_cases k1:yk<(x.n2:Int)
        · skip
          obtain⟨b2,o2',hA2,hb2',hc2⟩:=h.r2.at_ (show yk.toNat<x.n2 by omega);obtain⟨k,rfl⟩:∃ k:Nat,yk=k:=⟨yk.toNat,aS⟩;rw[ax] at hc2;have ek:kAt p.outs (k:Int)=bj p.outs k:=by unfold kAt bj;rw[if_neg aS,ax]
          rw[ek,am k0,am k1];generalize bj p.outs k=ov at *;have c2:=hc2;simp only[hA2];simp only[hA2] at t1;simp only[hA];go_enter Tryz.func79,Tryz.ntmps79;go_upto_region 14 with (first | ((go_at_call 174;go_call (hsg _) as e w1 ⟨rfl,hb1⟩);obtain⟨⟨p10,p11,p12,p13,p14⟩,⟨x10,x11,x12,x13,x14⟩,sz1,sy1,hp1,hx1,b01⟩:=rvf hb1;have c21:=(b01.cell (p:=⟨b2,o2'+k,none⟩) hb2').trans c2) | fail);go_region_held3 (fun w'=>w'.cell? ⟨w.heap.size+1,4,none⟩=some (I (k:Nat))/\w'.cell? ⟨w.heap.size+1,1,none⟩=some (I ya)/\w'.cell? ⟨w.heap.size,0,none⟩=some (.slice x.A1 x.n1 x.c1)/\w'.cell? ⟨w.heap.size,1,none⟩=some (.slice (some ⟨b2,o2',none⟩) x.n2 x.c2)/\w'.cell? ⟨w.heap.size,2,none⟩=some (I p.regs)/\w'.cell? ⟨w.heap.size,3,none⟩=some (.slice (x.A3) x.n3 x.c3)/\w'.cell? ⟨w.heap.size,4,none⟩=some (.slice (some ⟨b,o,none⟩) x.n4 x.c4)/\w'.cell? ⟨b2,o2'+k,none⟩=some (I ov)) (first | go_keep | (refine⟨?_,?_,?_,?_,?_,?_,?_,?_⟩ <;> assumption)) (first | ((go_at_call 175;go_call (t1 _ (HP.out.below (Below.drew b01) aW)) as e w2 ⟨rfl,hb2⟩);have hp2:=Blk.below (w:=w1.drew) hp1 hb2 sz1;have hx2:=Blk.below (w:=w1.drew) hx1 hb2 sy1;obtain⟨p20,p21,p22,p23,p24⟩:=blk5 hp2;obtain⟨x20,x21,x22,x23,x24⟩:=blk5 hx2;have b02:=(Below.drew b01).trans (hb2.mono b01.size);have c22:=(b02.cell (p:=⟨b2,o2'+k,none⟩) hb2').trans c2) | fail);go_wp2;go_ret;exact⟨by first | rfl | (simp;done),by first | exact b02 | exact bc⟩
        · have HR:=aT (show (decide (0<=yk) && (decide (yk<(x.n2:Int)) && decide (ka=kAt p.outs yk)))=false from by rw[aj k1];simp);have kd:=aj k1
          (try rw[HR.out])
          simp only[hA];go_enter Tryz.func79,Tryz.ntmps79;go_upto_region 14 with (first | ((go_at_call 174;go_call (hsg _) as e w1 ⟨rfl,hb1⟩);obtain⟨⟨p10,p11,p12,p13,p14⟩,⟨x10,x11,x12,x13,x14⟩,sz1,sy1,hp1,hx1,b01⟩:=rvf hb1) | fail);refine wp_region_held_drew (S:=fun w'=>w'.cell? ⟨w.heap.size+1,4,none⟩=some (I yk)/\w'.cell? ⟨w.heap.size,1,none⟩=some (.slice x.A2 x.n2 x.c2)) bM ⟨x14,p11⟩ (fun hHeld=>?_);refine aV 0 ?_;refine aV 1 ?_ (hy:=Or.inl ⟨by rfl,dh⟩);refine aV 2 ?_;refine aV 3 ?_;refine aV 4 ?_;refine aV 5 ?_ (hy:=Or.inl ⟨by rfl,dh⟩);refine aV 6 ?_;refine aV 7 ?_ (hy:=Or.inl ⟨by rfl,dh⟩);refine aV 8 ?_;refine aV 9 ?_;refine aV 10 ?_;refine aV 11 ?_;refine bB 12 ?_;refine bB 13 ?_;refine bB 14 ?_;refine bB 15 ?_;refine bB 16 ?_;refine bB 17 ?_;refine bB 18 ?_;refine bB 19 ?_;refine bB 20 ?_;refine bB 21 ?_;refine bB 22 ?_;refine bB 23 ?_;refine aV 24 ?_;refine aV 25 ?_;refine wpAnyH_done bT ?_ _;go_wp2;go_ret;exact⟨by first | rfl | (simp;done),Below.drew b01⟩
      · have HR:=aT (show (decide (0<=yk) && (decide (yk<(x.n2:Int)) && decide (ka=kAt p.outs yk)))=false from by rw[aj k0];rfl);have kd:=aj k0
        (try rw[HR.out])
        simp only[hA];go_enter Tryz.func79,Tryz.ntmps79;go_upto_region 14 with (first | ((go_at_call 174;go_call (hsg _) as e w1 ⟨rfl,hb1⟩);obtain⟨⟨p10,p11,p12,p13,p14⟩,⟨x10,x11,x12,x13,x14⟩,sz1,sy1,hp1,hx1,b01⟩:=rvf hb1) | fail);refine wp_region_held_drew (S:=fun w'=>w'.cell? ⟨w.heap.size+1,4,none⟩=some (I yk)/\w'.cell? ⟨w.heap.size,1,none⟩=some (.slice x.A2 x.n2 x.c2)) bM ⟨x14,p11⟩ (fun hHeld=>?_);refine aV 0 ?_;refine aV 1 ?_ (hy:=Or.inl ⟨by rfl,dh⟩);refine aV 2 ?_;refine aV 3 ?_;refine bB 4 ?_;refine bB 5 ?_;refine bB 6 ?_;refine bB 7 ?_;refine bB 8 ?_;refine bB 9 ?_;refine aV 10 ?_;refine aV 11 ?_;refine bB 12 ?_;refine bB 13 ?_;refine bB 14 ?_;refine bB 15 ?_;refine bB 16 ?_;refine bB 17 ?_;refine bB 18 ?_;refine bB 19 ?_;refine bB 20 ?_;refine bB 21 ?_;refine bB 22 ?_;refine bB 23 ?_;refine aV 24 ?_;refine aV 25 ?_;refine wpAnyH_done bT ?_ _;go_wp2;go_ret;exact⟨by first | rfl | (simp;done),Below.drew b01⟩
     case' hN5=>
      rw[if_neg o29];have b29:(op == 29)=false:=by rw[af];exact o29
      refine Or.elim (Decidable.em (op=32)) (fun o32=>?hP6) (fun o32=>?hN6)
      case' hP6=>
       rw[if_pos o32];have b32:(op == 32)=true:=by rw[o32];rfl
       clear hs' o32;have t1:=htk ya;generalize bG p i ya=ka at *;clear htk
       by_cases k0:0<=yk
       · by_cases k1:yk<(x.n3:Int)
         · skip
           obtain⟨b2,o2',y2,hA2,hb2',hy2,hc2⟩:=h.r3.at_ iy aS (show yk.toNat<x.n3 by omega);have ek:=jD hy2;have c2':=hc2 0 aS;obtain⟨k,rfl⟩:∃ k:Nat,yk=k:=⟨yk.toNat,aS⟩;rw[ax] at ek c2';rw[ax,ek,am k0,am k1];have c2:w.cell? ⟨b2,o2'+k * 2,none⟩=some (I y2.1):=c2';clear hc2 c2' hy2;generalize y2.1=ov at *;simp only[hA2];simp only[hA2] at t1;simp only[hA];go_enter Tryz.func79,Tryz.ntmps79;go_upto_region 16 with (first | ((go_at_call 174;go_call (hsg _) as e w1 ⟨rfl,hb1⟩);obtain⟨⟨p10,p11,p12,p13,p14⟩,⟨x10,x11,x12,x13,x14⟩,sz1,sy1,hp1,hx1,b01⟩:=rvf hb1;have c21:=(b01.cell (p:=⟨b2,o2'+k * 2,none⟩) hb2').trans c2) | fail);go_region_held3 (fun w'=>w'.cell? ⟨w.heap.size+1,4,none⟩=some (I (k:Nat))/\w'.cell? ⟨w.heap.size+1,1,none⟩=some (I ya)/\w'.cell? ⟨w.heap.size,0,none⟩=some (.slice x.A1 x.n1 x.c1)/\w'.cell? ⟨w.heap.size,1,none⟩=some (.slice (x.A2) x.n2 x.c2)/\w'.cell? ⟨w.heap.size,2,none⟩=some (I p.regs)/\w'.cell? ⟨w.heap.size,3,none⟩=some (.slice (some ⟨b2,o2',none⟩) x.n3 x.c3)/\w'.cell? ⟨w.heap.size,4,none⟩=some (.slice (some ⟨b,o,none⟩) x.n4 x.c4)/\w'.cell? ⟨b2,o2'+k * 2,none⟩=some (I ov)) (first | go_keep | (refine⟨?_,?_,?_,?_,?_,?_,?_,?_⟩ <;> assumption)) (first | ((go_at_call 175;go_call (t1 _ (HP.out.below (Below.drew b01) aW)) as e w2 ⟨rfl,hb2⟩);have hp2:=Blk.below (w:=w1.drew) hp1 hb2 sz1;have hx2:=Blk.below (w:=w1.drew) hx1 hb2 sy1;obtain⟨p20,p21,p22,p23,p24⟩:=blk5 hp2;obtain⟨x20,x21,x22,x23,x24⟩:=blk5 hx2;have b02:=(Below.drew b01).trans (hb2.mono b01.size);have c22:=(b02.cell (p:=⟨b2,o2'+k * 2,none⟩) hb2').trans c2) | fail);go_wp2;go_ret;exact⟨by first | rfl | (simp;done),by first | exact b02 | exact bc⟩
         · have HR:=aT (show (decide (0<=yk) && (decide (yk<(x.n3:Int)) && decide (ka=(db p.cells yk.toNat).1)))=false from by rw[aj k1];simp);have kd:=aj k1
           (try rw[HR.out])
           simp only[hA];go_enter Tryz.func79,Tryz.ntmps79;go_upto_region 16 with (first | ((go_at_call 174;go_call (hsg _) as e w1 ⟨rfl,hb1⟩);obtain⟨⟨p10,p11,p12,p13,p14⟩,⟨x10,x11,x12,x13,x14⟩,sz1,sy1,hp1,hx1,b01⟩:=rvf hb1) | fail);refine wp_region_held_drew (S:=fun w'=>w'.cell? ⟨w.heap.size+1,4,none⟩=some (I yk)/\w'.cell? ⟨w.heap.size,3,none⟩=some (.slice x.A3 x.n3 x.c3)) bM ⟨x14,p13⟩ (fun hHeld=>?_);refine aV 0 ?_;refine aV 1 ?_ (hy:=Or.inl ⟨by rfl,dh⟩);refine aV 2 ?_;refine aV 3 ?_;refine aV 4 ?_;refine aV 5 ?_ (hy:=Or.inl ⟨by rfl,dh⟩);refine aV 6 ?_;refine aV 7 ?_ (hy:=Or.inl ⟨by rfl,dh⟩);refine aV 8 ?_;refine aV 9 ?_;refine aV 10 ?_;refine aV 11 ?_;refine bB 12 ?_;refine bB 13 ?_;refine bB 14 ?_;refine bB 15 ?_;refine bB 16 ?_;refine bB 17 ?_;refine bB 18 ?_;refine bB 19 ?_;refine bB 20 ?_;refine bB 21 ?_;refine bB 22 ?_;refine bB 23 ?_;refine bB 24 ?_;refine aV 25 ?_;refine aV 26 ?_;refine wpAnyH_done bT ?_ _;go_wp2;go_ret;exact⟨by first | rfl | (simp;done),Below.drew b01⟩
       · have HR:=aT (show (decide (0<=yk) && (decide (yk<(x.n3:Int)) && decide (ka=(db p.cells yk.toNat).1)))=false from by rw[aj k0];rfl);have kd:=aj k0
         (try rw[HR.out])
         simp only[hA];go_enter Tryz.func79,Tryz.ntmps79;go_upto_region 16 with (first | ((go_at_call 174;go_call (hsg _) as e w1 ⟨rfl,hb1⟩);obtain⟨⟨p10,p11,p12,p13,p14⟩,⟨x10,x11,x12,x13,x14⟩,sz1,sy1,hp1,hx1,b01⟩:=rvf hb1) | fail);refine wp_region_held_drew (S:=fun w'=>w'.cell? ⟨w.heap.size+1,4,none⟩=some (I yk)/\w'.cell? ⟨w.heap.size,3,none⟩=some (.slice x.A3 x.n3 x.c3)) bM ⟨x14,p13⟩ (fun hHeld=>?_);refine aV 0 ?_;refine aV 1 ?_ (hy:=Or.inl ⟨by rfl,dh⟩);refine aV 2 ?_;refine aV 3 ?_;refine bB 4 ?_;refine bB 5 ?_;refine bB 6 ?_;refine bB 7 ?_;refine bB 8 ?_;refine bB 9 ?_;refine aV 10 ?_;refine aV 11 ?_;refine bB 12 ?_;refine bB 13 ?_;refine bB 14 ?_;refine bB 15 ?_;refine bB 16 ?_;refine bB 17 ?_;refine bB 18 ?_;refine bB 19 ?_;refine bB 20 ?_;refine bB 21 ?_;refine bB 22 ?_;refine bB 23 ?_;refine bB 24 ?_;refine aV 25 ?_;refine aV 26 ?_;refine wpAnyH_done bT ?_ _;go_wp2;go_ret;exact⟨by first | rfl | (simp;done),Below.drew b01⟩
      case' hN6=>
       rw[if_neg o32];have b32:(op == 32)=false:=by rw[af];exact o32
       refine Or.elim (Decidable.em (op=30\/op=31)) (fun o30=>?hP7) (fun o30=>?hN7)
       case' hP7=>
        rw[if_pos o30];have t1:=htk ya;generalize bG p i ya=ka at *;clear hs' htk;rw[hl4] at hcode;have w1':IntKind.i64.wrap ((x.n4:Int) - 1)=(x.n4:Int) - 1:=by rw[IntKind.wrap_i64];omega
        have w2':IntKind.i64.wrap ((x.n4:Int) - 1 - (i:Int))=(x.n4:Int) - 1 - (i:Int):=by rw[IntKind.wrap_i64];omega
        have hv:∀ z,z=(decide (0<=yk) && (decide (yk<=(x.n4:Int) - 1 - (i:Int)) && decide (ka=2)))->Hid ((decide (0<=yk) && (decide (yk<=(x.n4:Int) - 1 - (i:Int)) && decide (ka=2)))=z):=fun z e=>e.symm
        have hb30:(op == 30)=true\/((op == 30)=false/\(op == 31)=true):=by
         rcases o30 with e | e
         · left;rw[e];rfl
         · right;rw[e];exact⟨rfl,rfl⟩
        clear o30;have key:∃ B:Bool,(decide (0<=yk) && (decide (yk<=(x.n4:Int) - 1 - (i:Int)) && decide (ka=2)))=B/\((0<=yk/\yk<=(x.n4:Int) - 1 - (i:Int)/\B=(ka == 2))\/(0<=yk/\¬ yk<=(x.n4:Int) - 1 - (i:Int)/\B=false)\/(¬ 0<=yk/\B=false)):=by
         refine⟨_,rfl,?_⟩
         by_cases k0:0<=yk
         · by_cases k1:yk<=(x.n4:Int) - 1 - (i:Int)
           · exact .inl ⟨k0,k1,by rw[am k0,am k1];rfl⟩
           · exact .inr (.inl ⟨k0,k1,by rw[aj k1];simp⟩)
         · exact .inr (.inr ⟨k0,by rw[aj k0];rfl⟩)
        obtain⟨B,hB,hcs⟩:=key;have HR:=hv B hB.symm;clear hv hB;rcases hb30 with b30 | ⟨b30,b31⟩ <;> rcases hcs with ⟨k0,k1,rfl⟩ | ⟨k0,k1,rfl⟩ | ⟨k0,rfl⟩
       case' hN7=>
        rw[if_neg o30];have b30:(op == 30)=false:=by rw[af];exact fun q=>o30 (.inl q)
        have b31:(op == 31)=false:=by rw[af];exact fun q=>o30 (.inr q)
        have HR:=aT (show true=true from rfl);clear hs' htk
 all_goals (
  (try rw[HR.out])
  simp only[hA];go_enter Tryz.func79,Tryz.ntmps79;go_wp2_with (first | ((go_at_call 174;go_call (hsg _) as e w1 ⟨rfl,hb1⟩);obtain⟨⟨p10,p11,p12,p13,p14⟩,⟨x10,x11,x12,x13,x14⟩,sz1,sy1,hp1,hx1,b01⟩:=rvf hb1;skip) | ((go_at_call 175;(with_reducible refine (t1 _ (HP.out.below b01 aW)).mono ?_);rintro e w2 ⟨rfl,hb2⟩);obtain⟨⟨p20,p21,p22,p23,p24⟩,⟨x20,x21,x22,x23,x24⟩,sz2,sy2,hp2,hx2,b02⟩:=rvn hp1 hx1 b01 hb2) | ((go_at_call 175;(with_reducible refine (t2 _ (HP.out.below b02 aW)).mono ?_);rintro e w3 ⟨rfl,hb3⟩);obtain⟨⟨p30,p31,p32,p33,p34⟩,⟨x30,x31,x32,x33,x34⟩,sz3,sy3,hp3,hx3,b03⟩:=rvn hp2 hx2 b02 hb3) | ((go_at_call 175;(with_reducible refine (t3 _ (HP.out.below b03 aW)).mono ?_);rintro e w4 ⟨rfl,hb4⟩);have b04:=b03.trans (hb4.mono b03.size)) | fail);go_ret;exact⟨by first | rfl | (simp;done) | (simp;intro q;omega),by first | exact b04 | exact b03 | exact b02 | exact b01⟩)
end
section
variable {x:PA} {p:PV} {w:World}
theorem qn {n i:Nat}:fZ p n i=true ↔ ∃ k,k<n/\((aY p.code k).op=30\/(aY p.code k).op=31)/\(i:Int) - (k:Int)<=(aY p.code k).k:=by
 unfold fZ;rw[List.any_eq_true];constructor
 · rintro ⟨k,hk,h⟩;rw[av,Bool.or_eq_true,aq,aq,aq] at h;exact⟨k,List.mem_range.1 hk,h.1,h.2⟩
 · rintro ⟨k,hk,h1,h2⟩;refine⟨k,List.mem_range.2 hk,?_⟩;rw[av,Bool.or_eq_true,aq,aq,aq];exact⟨h1,h2⟩
theorem rskip_any (h:cC w x p){i:Nat}(hi:i<=p.code.length)(hcode:p.code.length<=100000) :
 Ca 82 #[.agg #[.slice x.A1 x.n1 x.c1,.slice x.A2 x.n2 x.c2,I p.regs,.slice x.A3 x.n3 x.c3,.slice x.A4 x.n4 x.c4],I (i:Nat)] w fun e w'=>e=.returned (.bool (skipR p i))/\Below w.heap.size w w':=by
 have hl4:=h.r4.1;have HP:=aT h;have hi4:i<=x.n4:=aS;have hn4:x.n4<=100000:=aS;have hsk:skipR p i=fZ p i i:=rfl;rw[hsk];clear hsk hi hcode hl4;go_enter Tryz.func82,Tryz.ntmps82;go_wp2_with fail;go_loopw [5] (fun j wr=>∃ k:Nat,k<=i/\j=I (k:Nat)/\fZ p k i=false/\Below w.heap.size w wr/\Blk wr w.heap.size 26 [.slice x.A1 x.n1 x.c1,.slice x.A2 x.n2 x.c2,I p.regs,.slice x.A3 x.n3 x.c3,.slice x.A4 x.n4 x.c4]) (fun j _=>i - (intOf j).toNat)
 case atStart=>exact⟨0,aS,rfl,rfl,bc,bI⟩
 case round=>
  obtain⟨k,hk,rfl,hno,hbel,hblk⟩:=hrel;have HB:=aT hbel;have HX:=aT hblk;have HNO:=aT hno;have lx:=hblk.lt;obtain⟨y0,y1,y2,y3,y4⟩:=blk5 hblk;clear hbel hblk hno
  by_cases hlt:k<i
  · have PW:=aT (HP.out.below HB.out aW);obtain⟨b,o,y,hA,hb,hy,hc⟩:=PW.out.r4.at_ gX aS (show k<x.n4 by omega);have hI:=gY hy;obtain⟨op,ya,yb,yc,yk⟩:=y;have h0:wr.cell? ⟨b,o+k * 5,none⟩=some (I op):=hc 0 aS;have h4:wr.cell? ⟨b,o+k * 5+4,none⟩=some (I yk):=hc 4 aS;have hw1:IntKind.i64.wrap ((i:Int) - (k:Int))=(i:Int) - (k:Int):=by rw[IntKind.wrap_i64];omega
    have HI:=aT hI;clear hc hy hI;simp only[hA] at y4
    by_cases q30:op=30
    · have b30:(op == 30)=true:=by rw[q30];rfl
      have HQ:=aT (show op=30\/op=31 from .inl q30);clear q30
      by_cases qk:(i:Int) - (k:Int)<=yk
      · have hyes:Hid (fZ p i i=true):=by
         show _=_
         exact qn.2 ⟨k,hlt,by rw[HI.out];exact HQ.out,by rw[HI.out];exact qk⟩
        go_wp2_with fail;go_ret;exact⟨by rw[hyes.out];rfl,HB.out⟩
      · have hn2:Hid (fZ p (k+1) i=false):=by
         show _=_
         rw[kf,HNO.out,HI.out,aj qk,Bool.and_false];rfl
        go_wp2_with fail;go_roundw
        case rel=>exact⟨k+1,aS,by go_num,hn2.out,HB.out,HX.out⟩
        case measure=>simp[intOf];omega
    · have b30:(op == 30)=false:=by rw[af];exact q30
      by_cases q31:op=31
      · have b31:(op == 31)=true:=by rw[q31];rfl
        have HQ:=aT (show op=30\/op=31 from .inr q31);clear q31 q30
        by_cases qk:(i:Int) - (k:Int)<=yk
        · have hyes:Hid (fZ p i i=true):=by
           show _=_
           exact qn.2 ⟨k,hlt,by rw[HI.out];exact HQ.out,by rw[HI.out];exact qk⟩
          go_wp2_with fail;go_ret;exact⟨by rw[hyes.out];rfl,HB.out⟩
        · have hn2:Hid (fZ p (k+1) i=false):=by
           show _=_
           rw[kf,HNO.out,HI.out,aj qk,Bool.and_false];rfl
          go_wp2_with fail;go_roundw
          case rel=>exact⟨k+1,aS,by go_num,hn2.out,HB.out,HX.out⟩
          case measure=>simp[intOf];omega
      · have b31:(op == 31)=false:=by rw[af];exact q31
        have hn2:Hid (fZ p (k+1) i=false):=by
         show _=_
         rw[kf,HNO.out,HI.out,aj q30,aj q31];rfl
        clear q30 q31;go_wp2_with fail;go_roundw
        case rel=>exact⟨k+1,aS,by go_num,hn2.out,HB.out,HX.out⟩
        case measure=>simp[intOf];omega
  · have hk9:k=i:=aS;subst hk9;go_wp2_with fail;go_ret;exact⟨by rw[HNO.out];rfl,HB.out⟩
theorem outsR_le (p:PV)(n o:Nat):dM p n o<=n:=by
 induction n with
 | zero=>simp[dM]
 | succ n ih=>rw[jn];split <;> omega
def jd (p:PV):Bool:=(List.range p.code.length).all (okR p) && (List.range p.outs.length).all (fun o=>decide (dM p p.code.length o=1))
theorem rightV_no (hk:k<p.code.length)(h:okR p k=false):jd p=false:=by
 unfold jd;have:(List.range p.code.length).all (okR p)=false:=by
  cases q:(List.range p.code.length).all (okR p) with
  | false=>rfl
  | true=>
    rw[List.all_eq_true] at q;have:=q k (List.mem_range.2 hk);rw[h] at this
    cases this
 rw[this];rfl
theorem rightV_out {o:Nat}(ho:o<p.outs.length)(h:dM p p.code.length o≠1):jd p=false:=by
 unfold jd;have:(List.range p.outs.length).all (fun o=>decide (dM p p.code.length o=1))=false:=by
  cases q:(List.range p.outs.length).all (fun o=>decide (dM p p.code.length o=1)) with
  | false=>rfl
  | true=>
    rw[List.all_eq_true] at q;have:=of_decide_eq_true (q o (List.mem_range.2 ho));exact absurd this h
 rw[this,Bool.and_false]
theorem rightV_yes (h1:∀ k,k<p.code.length->okR p k=true)(h2:∀ o,o<p.outs.length->dM p p.code.length o=1):jd p=true:=by
 unfold jd;rw[av,List.all_eq_true,List.all_eq_true];exact⟨fun k hk=>h1 k (List.mem_range.1 hk),fun o ho=>am (h2 o (List.mem_range.1 ho))⟩
theorem rright_yes (h:cC w x p)(hm:mayB p=true) :
 Ca 17 #[.agg #[.slice x.A1 x.n1 x.c1,.slice x.A2 x.n2 x.c2,I p.regs,.slice x.A3 x.n3 x.c3,.slice x.A4 x.n4 x.c4]] w fun e w'=>e=.returned (.bool (jd p))/\Below w.heap.size w w':=by
 have hmay:=fun w h=>pq x p w h
 rw[hm] at hmay;have hl4:=h.r4.1;have hl2:=h.r2.1;have hcode:=(dV.1 hm).2.2.2.2.2.1;have hn4:x.n4<=2048:=aS;have hn2:x.n2<=100:=by have:=(fG.1 (dV.1 hm).2.1).2.2;omega
 have HP:=aT h;have HL4:=aT hl4;have HL2:=aT hl2;have htk:=aT (fun (i:Nat) (hi:i<p.code.length) (W:World) (h:cC W x p)=>rtakes_of (oS i aS) h hi aS);have hgv:=aT (fun (i:Nat) (hi:i<p.code.length) (W:World) (h:cC W x p)=>rgives_of (oS i aS) h hi);have hkd:=aT (fun (i:Nat) (hi:i<p.code.length) (r:Int) (W:World) (h:cC W x p)=>oS i aS r W h);have hsk:=aT (fun (i:Nat) (hi:i<p.code.length) (W:World) (h:cC W x p)=>rskip_any h (i:=i) aS aS);have hno:=aT (fun (k:Nat) (hk:k<p.code.length) (h:okR p k=false)=>rightV_no hk h);have hout:=aT (fun (o:Nat) (ho:o<p.outs.length) (h:dM p p.code.length o≠1)=>rightV_out ho h);have hyes:=aT (fun h1 h2=>rightV_yes (p:=p) h1 h2);generalize jd p=RV at *;clear h hm hl4 hl2;go_enter Tryz.func17,Tryz.ntmps17;go_wp2_with (first | ((go_at_call 78;go_call (hmay _ (HP.out.below (b:=w.heap.size) bc aW)) as e w1 ⟨rfl,hb1⟩);have hp1:=Blk.below (w':=w1) (g:=w.heap.size) (t:=26) (cs:=[.slice x.A1 x.n1 x.c1,.slice x.A2 x.n2 x.c2,I p.regs,.slice x.A3 x.n3 x.c3,.slice x.A4 x.n4 x.c4]) bI hb1 br;have b01:Below w.heap.size w w1:=bO (a:=w) (B:=w.heap.size) bc hb1 br) | fail);go_loopw [3,4,5] (fun j _ _ wr=>∃ k:Nat,k<=x.n4/\j=I (k:Nat)/\(∀ m,m<k->okR p m=true)/\Below w.heap.size w wr/\Blk wr w.heap.size 26 [.slice x.A1 x.n1 x.c1,.slice x.A2 x.n2 x.c2,I p.regs,.slice x.A3 x.n3 x.c3,.slice x.A4 x.n4 x.c4]) (fun j _ _ _=>x.n4 - (intOf j).toNat)
 case atStart=>exact⟨0,aS,rfl,fun m hm=>absurd hm aS,b01,hp1⟩
 case round=>
  clear hp1 b01 hmay;obtain⟨k,hk,rfl,hall,hbel,hblk⟩:=hrel;have HB:=aT hbel;have HX:=aT hblk;have HA:=aT hall;have lx:=hblk.lt;obtain⟨y0,y1,y2,y3,y4⟩:=blk5 hblk;clear hbel hblk hall
  by_cases hlt:k<x.n4
  · have hkc:k<p.code.length:=by rw[HL4.out];exact hlt
    have PW:=aT (HP.out.below HB.out aW);obtain⟨b,o,y,hA,hb,hy,hc⟩:=PW.out.r4.at_ gX aS hlt;have hI:=gY hy;obtain⟨op,ya,yb,yc,yk⟩:=y;have h0:wr.cell? ⟨b,o+k * 5,none⟩=some (I op):=hc 0 aS;have h1:wr.cell? ⟨b,o+k * 5+1,none⟩=some (I ya):=hc 1 aS;have h2:wr.cell? ⟨b,o+k * 5+2,none⟩=some (I yb):=hc 2 aS;have h3:wr.cell? ⟨b,o+k * 5+3,none⟩=some (I yc):=hc 3 aS;have h4:wr.cell? ⟨b,o+k * 5+4,none⟩=some (I yk):=hc 4 aS;have hok:okR p k=(du p k ⟨op,ya,yb,yc,yk⟩ && ((decide (29<=op) || (decide (ya<p.regs) && (decide (dd p k ya=0) && (decide (cZ p (bG p k) ⟨op,ya,yb,yc,yk⟩=1) || decide (cZ p (bG p k) ⟨op,ya,yb,yc,yk⟩=2))))) && (decide (op≠29) || !skipR p k))):=by unfold okR;rw[hI]
    have ct:=htk.out k hkc;have cg:=hgv.out k hkc;have ck:=hkd.out k hkc ya;have cs:=hsk.out k hkc;rw[hI] at ct cg;generalize du p k ⟨op,ya,yb,yc,yk⟩=tv at *;generalize cZ p (bG p k) ⟨op,ya,yb,yc,yk⟩=gv at *;generalize dd p k ya=kv at *;generalize skipR p k=sv at *;simp only[hA] at ct cg ck cs y4 ⊢;have HOK:=aT hok;have hnext:=aT (show okR p k=true->∀ m,m<k+1->okR p m=true from fun e m hm=>by
     rcases ay m k with q | q
     · exact HA.out m q
     · rw[show m=k by omega];exact e)
    have hstop:=aT (fun e=>hno.out k hkc e);have hAA:=aT hA;clear hok hc hy hI htk hgv hkd hsk hno hout hyes hA
    cases tv
    case' false=>have HRV:=aT (hstop.out (by rw[HOK.out];rfl))
    case' true=>
     refine Or.elim (Decidable.em (29<=op)) (fun o29=>?gA) (fun o29=>?gB)
     case' gA=>
      refine Or.elim (Decidable.em (op=29)) (fun q29=>?gC) (fun q29=>?gD)
      case' gC=>
       have b29:(op == 29)=true:=by rw[q29];rfl
       cases sv
       case' true=>(have HRV:=aT (hstop.out (by rw[HOK.out,q29];simp));clear q29)
       case' false=>(have HNX:=aT (hnext.out (by rw[HOK.out,q29];simp));clear q29)
      case' gD=>
       have b29:(op == 29)=false:=by rw[af];exact q29
       have HNX:=aT (hnext.out (by rw[HOK.out,am o29,am (show op≠29 from q29)];rfl));clear q29
     case' gB=>
      have b29:(op == 29)=false:=by rw[af];omega
      refine Or.elim (Decidable.em (ya<p.regs)) (fun ra=>?gE) (fun ra=>?gF)
      case' gF=>have HRV:=aT (hstop.out (by rw[HOK.out,aj o29,aj ra];simp))
      case' gE=>
       refine Or.elim (Decidable.em (kv=0)) (fun kz=>?gG) (fun kz=>?gH)
       case' gH=>
        have kzb:(kv != 0)=true:=by rw[ag];exact kz
        have HRV:=aT (hstop.out (by rw[HOK.out,aj o29,aj kz];simp))
       case' gG=>
        subst kz;refine Or.elim (Decidable.em (gv=1)) (fun g1=>?gI) (fun g1=>?gJ)
        case' gI=>
         subst g1;have HNX:=aT (hnext.out pe)
        case' gJ=>
         have g1b:(gv != 1)=true:=by rw[ag];exact g1
         refine Or.elim (Decidable.em (gv=2)) (fun g2=>?gK) (fun g2=>?gL)
         case' gK=>
          subst g2;have HNX:=aT (hnext.out pe)
         case' gL=>
          have g2b:(gv != 2)=true:=by rw[ag];exact g2
          have HRV:=aT (hstop.out (by rw[HOK.out,aj o29,aj g1,aj g2];simp))
    all_goals (
     go_wp2_with (first | ((go_at_call 79;go_call (ct _ (PW.out.below ((Below.refl _ _).alloc aW _) aW)) as e w2 ⟨rfl,hb2⟩);have b02:Below wr.heap.size wr w2:=bO (a:=wr) (B:=wr.heap.size) bc hb2 br;have hp2:=(HX.out.below b02 lx);(try simp only[hAA.out] at hp2);have hx2:=Blk.below (w':=w2) (g:=wr.heap.size) (t:=144) (cs:=[I op,I ya,I yb,I yc,I yk]) bI hb2 br;obtain⟨p20,p21,p22,p23,p24⟩:=blk5 hp2;obtain⟨x20,x21,x22,x23,x24⟩:=blk5 hx2;have sz2:=hp2.lt;have sy2:=hx2.lt;have B2:=aT (HB.out.trans (b02.mono HB.out.size));have P2:=aT (HX.out.below b02 lx)) | ((go_at_call 80;go_call (cg _ (PW.out.below b02 aW)) as e w3 ⟨rfl,hb3⟩);have b03:=b02.trans (hb3.mono b02.size);have hp3:=hp2.below hb3 sz2;have hx3:=hx2.below hb3 sy2;obtain⟨p30,p31,p32,p33,p34⟩:=blk5 hp3;obtain⟨x30,x31,x32,x33,x34⟩:=blk5 hx3;have sz3:=hp3.lt;have sy3:=hx3.lt;have B3:=aT (HB.out.trans (b03.mono HB.out.size));have P3:=aT (HX.out.below b03 lx)) | ((go_at_call 81;go_call (ck _ (PW.out.below b03 aW)) as e w4 ⟨rfl,hb4⟩);have b04:=b03.trans (hb4.mono b03.size);have hp4:=hp3.below hb4 sz3;have hx4:=hx3.below hb4 sy3;obtain⟨p40,p41,p42,p43,p44⟩:=blk5 hp4;obtain⟨x40,x41,x42,x43,x44⟩:=blk5 hx4;have sz4:=hp4.lt;have sy4:=hx4.lt;have B4:=aT (HB.out.trans (b04.mono HB.out.size));have P4:=aT (HX.out.below b04 lx)) | ((go_at_call 82;go_call (cs _ (PW.out.below b02 aW)) as e w5 ⟨rfl,hb5⟩);have b05:=b02.trans (hb5.mono b02.size);have hp5:=hp2.below hb5 sz2;have hx5:=hx2.below hb5 sy2;obtain⟨p50,p51,p52,p53,p54⟩:=blk5 hp5;obtain⟨x50,x51,x52,x53,x54⟩:=blk5 hx5;have sz5:=hp5.lt;have sy5:=hx5.lt;have B5:=aT (HB.out.trans (b05.mono HB.out.size));have P5:=aT (HX.out.below b05 lx)) | fail)
     first | (
      go_roundw
      case rel=>
       first | exact⟨k+1,aS,by go_num,HNX.out,B5.out,by first | exact hp5 | exact P5.out⟩ | exact⟨k+1,aS,by go_num,HNX.out,B4.out,by first | exact hp4 | exact P4.out⟩ | exact⟨k+1,aS,by go_num,HNX.out,B3.out,by first | exact hp3 | exact P3.out⟩ | exact⟨k+1,aS,by go_num,HNX.out,B2.out,by first | exact hp2 | exact P2.out⟩
      case measure=>simp[intOf];omega) | (
      go_ret;refine⟨?_,by first | exact B5.out | exact B4.out | exact B3.out | exact B2.out⟩;rw[HRV.out]
      first | rfl | (simp;done)))
  · have hk9:k=x.n4:=aS;subst hk9;have hall2:=aT (show ∀ m,m<p.code.length->okR p m=true from fun m hm=>HA.out m (by rw[<- HL4.out];exact hm));clear htk hgv hkd hsk hno HA;go_wp2_with fail;go_loopw [6,7,8] (fun u _ _ w2=>∃ o:Nat,o<=x.n2/\u=I (o:Nat)/\(∀ m,m<o->dM p p.code.length m=1)/\Below w.heap.size w w2/\Blk w2 w.heap.size 26 [.slice x.A1 x.n1 x.c1,.slice x.A2 x.n2 x.c2,I p.regs,.slice x.A3 x.n3 x.c3,.slice x.A4 x.n4 x.c4]) (fun u _ _ _=>x.n2 - (intOf u).toNat)
    case atStart=>exact⟨0,aS,rfl,fun m hm=>absurd hm aS,HB.out,HX.out⟩
    case round=>
     clear HB HX y0 y1 y2 y3 y4 lx;obtain⟨u,hu,rfl,hou,hbel,hblk⟩:=hrel;have HB2:=aT hbel;have HX2:=aT hblk;have HO:=aT hou;have lx2:=hblk.lt;obtain⟨y0,y1,y2,y3,y4⟩:=blk5 hblk;clear hbel hblk hou
     by_cases hltu:u<x.n2
     · go_wp2_with fail;go_loopw [7,8] (fun c j w3=>∃ k:Nat,k<=x.n4/\j=I (k:Nat)/\c=I (dM p k u:Nat)/\Below w.heap.size w w3/\Blk w3 w.heap.size 26 [.slice x.A1 x.n1 x.c1,.slice x.A2 x.n2 x.c2,I p.regs,.slice x.A3 x.n3 x.c3,.slice x.A4 x.n4 x.c4]) (fun _ j _=>x.n4 - (intOf j).toNat)
       case atStart=>exact⟨0,aS,rfl,rfl,HB2.out,HX2.out⟩
       case round=>
        clear y0 y1 y2 y3 y4;obtain⟨k,hk3,rfl,rfl,hbel3,hblk3⟩:=hrel;have HB3:=aT hbel3;have HX3:=aT hblk3;have lx3:=hblk3.lt;obtain⟨y0,y1,y2,y3,y4⟩:=blk5 hblk3;clear hbel3 hblk3;have hle:=outsR_le p k u
        by_cases hlt3:k<x.n4
        · have PW:=aT (HP.out.below HB3.out aW);obtain⟨b,o,y,hA,hb,hy,hc⟩:=PW.out.r4.at_ gX aS hlt3;have hI:=gY hy;obtain⟨op,ya,yb,yc,yk⟩:=y;have h0:wr.cell? ⟨b,o+k * 5,none⟩=some (I op):=hc 0 aS;have h4:wr.cell? ⟨b,o+k * 5+4,none⟩=some (I yk):=hc 4 aS;have hsc:=jn p k u;rw[hI] at hsc;simp only at hsc;have HSC:=aT hsc;clear hc hy hI hsc;generalize dM p k u=cn at *;simp only[hA] at y4
          by_cases q29:op=29
          · have b29:(op == 29)=true:=by rw[q29];rfl
            by_cases qu:yk=(u:Int)
            · have bu:(yk == (u:Int))=true:=by rw[qu];simp
              have HC:=aT (show dM p (k+1) u=cn+1 from by rw[HSC.out,if_pos ⟨q29,qu⟩]);clear q29 qu;go_wp2_with fail;go_roundw
              case rel=>exact⟨k+1,aS,by go_num,by rw[HC.out];go_num,HB3.out,HX3.out⟩
              case measure=>simp[intOf];omega
            · have bu:(yk == (u:Int))=false:=by rw[af];exact qu
              have HC:=aT (show dM p (k+1) u=cn from by rw[HSC.out,if_neg (fun e=>qu e.2)];rfl);clear q29 qu;go_wp2_with fail;go_roundw
              case rel=>exact⟨k+1,aS,by go_num,by rw[HC.out],HB3.out,HX3.out⟩
              case measure=>simp[intOf];omega
          · have b29:(op == 29)=false:=by rw[af];exact q29
            have HC:=aT (show dM p (k+1) u=cn from by rw[HSC.out,if_neg (fun e=>q29 e.1)];rfl);clear q29;go_wp2_with fail;go_roundw
            case rel=>exact⟨k+1,aS,by go_num,by rw[HC.out],HB3.out,HX3.out⟩
            case measure=>simp[intOf];omega
        · have hk9:k=x.n4:=aS;subst hk9;have huc:u<p.outs.length:=by rw[HL2.out];exact hltu
          have hcl:=HL4.out
          by_cases q1:dM p x.n4 u=1
          · have HNX:=aT (show ∀ m,m<u+1->dM p p.code.length m=1 from fun m hm=>by
             rcases ay m u with q | q
             · exact HO.out m q
             · rw[show m=u by omega,hcl];exact q1)
            rw[q1];clear q1 hcl;go_wp2_with fail;go_roundw
            case rel=>exact⟨u+1,aS,by go_num,HNX.out,HB3.out,HX3.out⟩
            case measure=>simp[intOf];omega
          · have HRV:=aT (hout.out u huc (by rw[hcl];exact q1));have q1b:((dM p x.n4 u:Int) != 1)=true:=by rw[ag];omega
            clear q1 hcl;generalize dM p x.n4 u=cn at *;go_wp2_with fail;go_ret;refine⟨?_,HB3.out⟩;rw[HRV.out]
            rfl
     · have hu9:u=x.n2:=aS;subst hu9;have HRV:=aT (hyes.out hall2.out (fun o ho=>HO.out o (by rw[<- HL2.out];exact ho)));go_wp2_with fail;go_ret;refine⟨?_,HB2.out⟩;rw[HRV.out]
       rfl
theorem rright_any (h:cC w x p) :
 Ca 17 #[.agg #[.slice x.A1 x.n1 x.c1,.slice x.A2 x.n2 x.c2,I p.regs,.slice x.A3 x.n3 x.c3,.slice x.A4 x.n4 x.c4]] w fun e w'=>e=.returned (.bool (dF p))/\Below w.heap.size w w':=by
 rw[verify_is]
 cases hm:mayB p with
 | true=>
   rw[show j9 p=jd p from by unfold j9 jd;rw[hm];rfl];exact rright_yes h hm
 | false=>
   rw[show j9 p=false from by unfold j9;rw[hm];rfl];have hmay:=fun w h=>pq x p w h
   rw[hm] at hmay;have HP:=aT h;clear hm h;go_enter Tryz.func17,Tryz.ntmps17;go_wp2_with (first | (go_at_call 78;go_call (hmay _ (HP.out.below (b:=w.heap.size) bc aW)) as e w1 ⟨rfl,hb1⟩) | fail);go_ret;exact⟨rfl,bO (a:=w) (B:=w.heap.size) bc hb1 br⟩
end
def MPIn (w wr:World)(base gy gm:Nat)(q:bE)(x:PA)(p:PV)(m:Nat)(pace:Int)(many k:Nat):Prop :=
 ∃ (M:MV) (st:PGh),PlSt wr base gy q x p m (2000+2000 * k) pace many st/\GhOk m st/\MRel M st/\MOk M/\MdSt wr base gm p m pace M/\Below base w wr
section
variable {w w':World} {base gy gm m c many n:Nat} {q:bE} {x:PA} {p:PV} {pace:Int} {st:PGh} {M:MV}
theorem PlSt.mstep (h:PlSt w base gy q x p m c pace many st)(t:cB base q w w'):PlSt w' base gy q x p m c pace many st:=h.stepM t.st t.dk aU aU aU
theorem MdSt.pstep {D:aX}(h:MdSt w base gm p m pace M)(hd:be w base q D)(t:Step mutP base q w w'):MdSt w' base gm p m pace M:=h.step hd t aU aU aU aU aU aU
theorem dN.short {ts:List Int}{rows:List (List Int)}(h:dN ts rows):∀ L ∈ rows,L.length<=100000:=fun L hL=>by
 obtain⟨a,b,_⟩:=jC.1 (h.fits L hL);have:=(fG.1 a).2.2;omega
def InSays (w:World)(base:Nat)(A:Option Addr)(k c:Nat)(z:Int):PGh->Prop
 | .on _ rows _ _=>z=0/\cL w base A k c rows
 | .off k0 _ _=>A=none/\k=0/\c=0/\(z=0->k0=0)
 | .down _ _ _=>A=none/\k=0/\c=0/\z=1
def OutSays (w:World)(base:Nat)(p:PV)(A:Option Addr)(k c:Nat)(z:Int):PGh->Prop
 | .on _ rows tick _=>z=0/\k=tick/\cL w base A k c (cq p rows tick)
 | .off _ _ _=>A=none/\k=0/\c=0
 | .down _ _ _=>A=none/\k=0/\c=0/\z=1
theorem InSays.step {A:Option Addr}{c:Nat}{z:Int}{D:aX}{Mt:List TypeId}(h:InSays w base A k c z st)(hd:be w base q D)(t:Step Mt base q w w')(h1:22 ∉ 4 :: Mt)(h2:3 ∉ 4 :: Mt):InSays w' base A k c z st:=by
 cases st with
 | on a r tk rp=>exact⟨h.1,h.2.step hd t h1 h2⟩
 | off k a r=>exact h
 | down k a r=>exact h
theorem t_in (V:Env p m pace many)(h:PlSt w base gy q x p m c pace many st) :
 Ca 60 #[.pointer (some ⟨gy,0,none⟩)] w fun e w'=>∃ A k c9 z,e=.returned (.tuple #[.slice A k c9,I z])/\InSays w' base A k c9 z st/\PlSt w' base gy q x p m c pace many st/\Step mutP base q w w':=by
 have hs:=h.hs
 cases st with
 | on a rows tick rep=>
   obtain⟨g,h1,h2⟩:=h;obtain⟨D,hd⟩:=h2.disk;exact (plinputs_any V h1 h2).mono fun e w' ⟨A,c9,he,hr,ho,s⟩=>⟨A,_,c9,0,he,⟨rfl,hr.lower hs⟩,⟨g,h1.step hd s,ho⟩,s.eToP⟩
 | off k all ran=>
   obtain⟨g,h1,h2⟩:=h;obtain⟨D,hd⟩:=h2.disk;exact (plinputs_off V h1 h2).mono fun e w' ⟨z,he,hz,ho,s⟩=>⟨none,0,0,z,he,⟨rfl,rfl,rfl,hz⟩,⟨g,h1.step hd s,ho⟩,s.eToP⟩
 | down k all ran=>
   have h0:=h;exact (plnone_in h.1.blk).mono fun e w' ⟨he,hw⟩=>by
    subst hw;exact⟨none,0,0,1,he,⟨rfl,rfl,rfl,rfl⟩,h0,Step.refl _ _ _ _⟩
theorem t_out (V:Env p m pace many)(h:PlSt w base gy q x p m c pace many st) :
 Ca 61 #[.pointer (some ⟨gy,0,none⟩)] w fun e w'=>∃ A k c9 z,e=.returned (.tuple #[.slice A k c9,I z])/\OutSays w' base p A k c9 z st/\PlSt w' base gy q x p m c pace many st/\Step mutP base q w w':=by
 have hs:=h.hs
 cases st with
 | on a rows tick rep=>
   obtain⟨g,h1,h2⟩:=h;obtain⟨D,hd⟩:=h2.disk;exact (ploutputs_any V h1 h2).mono fun e w' ⟨A,c9,he,hr,ho,s⟩=>⟨A,_,c9,0,he,⟨rfl,rfl,hr.lower hs⟩,⟨g,h1.step hd s,ho⟩,s.eToP⟩
 | off k all ran=>
   obtain⟨g,h1,h2⟩:=h;obtain⟨D,hd⟩:=h2.disk;exact (ploutputs_off V h1 h2).mono fun e w' ⟨z,he,ho,s⟩=>⟨none,0,0,z,he,⟨rfl,rfl,rfl⟩,⟨g,h1.step hd s,ho⟩,s.eToP⟩
 | down k all ran=>
   have h0:=h;exact (plnone_out h.1.blk).mono fun e w' ⟨he,hw⟩=>by
    subst hw;exact⟨none,0,0,1,he,⟨rfl,rfl,rfl,rfl⟩,h0,Step.refl _ _ _ _⟩
theorem t_told (V:Env p m pace many)(h:PlSt w base gy q x p m c pace many st)(hm:MdSt w base gm p m pace M)(hg:GhOk m st)(hrel:MRel M st\/MOpen M st)(hok:MOk M){A1 A2:Option Addr}{k1 c1 k2 c2:Nat}(hi:InSays w base A1 k1 c1 0 st)(ho:OutSays w base p A2 k2 c2 0 st)(hm9:m<=100000) :
 Ca 62 #[.pointer (some ⟨gm,0,none⟩),.slice A1 k1 c1,.slice A2 k2 c2] w fun e w'=>e=.returned (.bool true)/\∃ M',MdSt w' base gm p m pace M'/\MRel M' st/\MOk M'/\PlSt w' base gy q x p m c pace many st/\cB base q w w':=by
 have hs:=h.hs;obtain⟨D,hd⟩:=h.disk
 cases st with
 | on a rows tick rep=>
   obtain⟨_,r1⟩:=hi;obtain⟨_,rfl,r2⟩:=ho;have hk1:rows.length=k1:=r1.1;have hlen:=iN p rows k2;obtain⟨g1,g2⟩:=hg;have hR:dN p.ins rows:=by obtain⟨g,_,h2⟩:=h;exact h2.le.2.2.2.2
   have hT:ToldOk p M rows (cq p rows k2)/\MRel (gT M rows) (.on a rows k2 rep):=by
    rcases hrel with q | q
    · exact told_on q hR g1 hlen
    · exact told_open q hR hlen
   exact (qm V.g hm hd hs A1 k1 c1 r1 aS A2 k2 c2 r2.rd hT.1 hok.2 hR.short).mono fun e w' ⟨he,hm',s⟩=>⟨he,_,hm',hT.2,told_ok hok,h.mstep s,s⟩
 | off k all ran=>
   obtain⟨rfl,rfl,rfl,i4⟩:=hi;obtain⟨rfl,rfl,rfl⟩:=ho;have hk0:=i4 rfl;subst hk0;obtain⟨g1,g2,g3,g4⟩:=hg;have hr:MRel M (.off 0 all ran):=hrel.resolve_right fun q=>q.elim
   obtain⟨t1,t2⟩:=told_none (p:=p) hr g1 g2;have hc:=qm V.g hm hd hs none 0 0 (cL.nil _ _) aS none 0 0 (cL.nil w base).rd t1 hok.2 (fun L hL=>by simp at hL);rw[t2] at hc;exact hc.mono fun e w' ⟨he,hm',s⟩=>⟨he,M,hm',hr,hok,h.mstep s,s⟩
 | down k all ran=>
   obtain⟨_,_,_,i4⟩:=hi;exact absurd i4 aU
end
