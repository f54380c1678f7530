/- Parts. -/
import Derived.Test.YtmeebofhlilcmaaGreatPr52
set_option linter.unusedVariables false
set_option linter.unusedSimpArgs false
set_option maxRecDepth 100000
set_option maxHeartbeats 0
namespace Go.Proofs.YtmeebofhlilcmaaGreat
open Go.RowKit
section
variable {x:PA} {p:PV} {w:World}
theorem pX {n i:Nat}:gq p n i=true ↔ ∃ k,k<n/\((aX p.code k).op=30\/(aX p.code k).op=31)/\(i:Int) - (k:Int)<=(aX p.code k).k:=by
 unfold gq;rw[List.any_eq_true];constructor
 · rintro ⟨k,hk,h⟩;rw[ax,Bool.or_eq_true,aq,aq,aq] at h;exact⟨k,List.mem_range.1 hk,h.1,h.2⟩
 · rintro ⟨k,hk,h1,h2⟩;refine⟨k,List.mem_range.2 hk,?_⟩;rw[ax,Bool.or_eq_true,aq,aq,aq];exact⟨h1,h2⟩
theorem rskip_any (h:bZ w x p){i:Nat}(hi:i<=p.code.length)(hcode:p.code.length<=100000) :
 Ca 82 #[.agg #[.slice x.A1 x.n1 x.c1,.slice x.A2 x.n2 x.c2,I p.regs,.slice x.A3 x.n3 x.c3,.slice x.A4 x.n4 x.c4],I (i:Nat)] w fun e w'=>e=.returned (.bool (skipR p i))/\Below w.heap.size w w':=by
 have hl4:=h.r4.1;have HP:=aT h;have hi4:i<=x.n4:=aS;have hn4:x.n4<=100000:=aS;have hsk:skipR p i=gq p i i:=rfl;rw[hsk];clear hsk hi hcode hl4;go_enter Tryz.func82,Tryz.ntmps82;go_wp2_with fail;go_loopw [5] (fun j wr=>∃ k:Nat,k<=i/\j=I (k:Nat)/\gq p k i=false/\Below w.heap.size w wr/\Blk wr w.heap.size 26 [.slice x.A1 x.n1 x.c1,.slice x.A2 x.n2 x.c2,I p.regs,.slice x.A3 x.n3 x.c3,.slice x.A4 x.n4 x.c4]) (fun j _=>i - (intOf j).toNat)
 case atStart=>exact⟨0,aS,rfl,rfl,be,bx⟩
 case round=>
  obtain⟨k,hk,rfl,hno,hbel,hblk⟩:=hrel;have HB:=aT hbel;have HX:=aT hblk;have HNO:=aT hno;have lx:=hblk.lt;obtain⟨y0,y1,y2,y3,y4⟩:=blk5 hblk;clear hbel hblk hno
  by_cases hlt:k<i
  · have PW:=aT (HP.out.below HB.out aV);obtain⟨b,o,y,hA,hb,hy,hc⟩:=PW.out.r4.at_ gH aS (show k<x.n4 by omega);have hI:=gC hy;obtain⟨op,ya,yb,yc,yk⟩:=y;have h0:wr.cell? ⟨b,o+k * 5,none⟩=some (I op):=hc 0 aS;have h4:wr.cell? ⟨b,o+k * 5+4,none⟩=some (I yk):=hc 4 aS;have hw1:IntKind.i64.wrap ((i:Int) - (k:Int))=(i:Int) - (k:Int):=by rw[IntKind.wrap_i64];omega
    have HI:=aT hI;clear hc hy hI;simp only[hA] at y4
    by_cases q30:op=30
    · have b30:(op == 30)=true:=by rw[q30];rfl
      have HQ:=aT (show op=30\/op=31 from .inl q30);clear q30
      by_cases qk:(i:Int) - (k:Int)<=yk
      · have hyes:Hid (gq p i i=true):=by
         show _=_
         exact pX.2 ⟨k,hlt,by rw[HI.out];exact HQ.out,by rw[HI.out];exact qk⟩
        go_wp2_with fail;go_ret;exact⟨by rw[hyes.out];rfl,HB.out⟩
      · have hn2:Hid (gq p (k+1) i=false):=by
         show _=_
         rw[jS,HNO.out,HI.out,ah qk,Bool.and_false];rfl
        go_wp2_with fail;go_roundw
        case rel=>exact⟨k+1,aS,by go_num,hn2.out,HB.out,HX.out⟩
        case measure=>simp[intOf];omega
    · have b30:(op == 30)=false:=by rw[ae];exact q30
      by_cases q31:op=31
      · have b31:(op == 31)=true:=by rw[q31];rfl
        have HQ:=aT (show op=30\/op=31 from .inr q31);clear q31 q30
        by_cases qk:(i:Int) - (k:Int)<=yk
        · have hyes:Hid (gq p i i=true):=by
           show _=_
           exact pX.2 ⟨k,hlt,by rw[HI.out];exact HQ.out,by rw[HI.out];exact qk⟩
          go_wp2_with fail;go_ret;exact⟨by rw[hyes.out];rfl,HB.out⟩
        · have hn2:Hid (gq p (k+1) i=false):=by
           show _=_
           rw[jS,HNO.out,HI.out,ah qk,Bool.and_false];rfl
          go_wp2_with fail;go_roundw
          case rel=>exact⟨k+1,aS,by go_num,hn2.out,HB.out,HX.out⟩
          case measure=>simp[intOf];omega
      · have b31:(op == 31)=false:=by rw[ae];exact q31
        have hn2:Hid (gq p (k+1) i=false):=by
         show _=_
         rw[jS,HNO.out,HI.out,ah q30,ah q31];rfl
        clear q30 q31;go_wp2_with fail;go_roundw
        case rel=>exact⟨k+1,aS,by go_num,hn2.out,HB.out,HX.out⟩
        case measure=>simp[intOf];omega
  · have hk9:k=i:=aS;subst hk9;go_wp2_with fail;go_ret;exact⟨by rw[HNO.out];rfl,HB.out⟩
theorem outsR_le (p:PV)(n o:Nat):dU p n o<=n:=by
 induction n with
 | zero=>simp[dU]
 | succ n ih=>rw[i9];split <;> omega
def iS (p:PV):Bool:=(List.range p.code.length).all (okR p) && (List.range p.outs.length).all (fun o=>decide (dU p p.code.length o=1))
theorem rightV_no {k:Nat}(hk:k<p.code.length)(h:okR p k=false):iS p=false:=by
 unfold iS;have:(List.range p.code.length).all (okR p)=false:=by
  cases q:(List.range p.code.length).all (okR p) with
  | false=>rfl
  | true=>
    rw[List.all_eq_true] at q;have:=q k (List.mem_range.2 hk);rw[h] at this
    cases this
 rw[this];rfl
theorem rightV_out {o:Nat}(ho:o<p.outs.length)(h:dU p p.code.length o≠1):iS p=false:=by
 unfold iS;have:(List.range p.outs.length).all (fun o=>decide (dU p p.code.length o=1))=false:=by
  cases q:(List.range p.outs.length).all (fun o=>decide (dU p p.code.length o=1)) with
  | false=>rfl
  | true=>
    rw[List.all_eq_true] at q;have:=of_decide_eq_true (q o (List.mem_range.2 ho));exact absurd this h
 rw[this,Bool.and_false]
theorem rightV_yes (h1:∀ k,k<p.code.length->okR p k=true)(h2:∀ o,o<p.outs.length->dU p p.code.length o=1):iS p=true:=by
 unfold iS;rw[ax,List.all_eq_true,List.all_eq_true];exact⟨fun k hk=>h1 k (List.mem_range.1 hk),fun o ho=>am (h2 o (List.mem_range.1 ho))⟩
theorem rright_yes (h:bZ w x p)(hm:mayB p=true) :
 Ca 17 #[.agg #[.slice x.A1 x.n1 x.c1,.slice x.A2 x.n2 x.c2,I p.regs,.slice x.A3 x.n3 x.c3,.slice x.A4 x.n4 x.c4]] w fun e w'=>e=.returned (.bool (iS p))/\Below w.heap.size w w':=by
 have hmay:=fun w h=>oS x p w h
 rw[hm] at hmay;have hl4:=h.r4.1;have hl2:=h.r2.1;have hcode:=(dP.1 hm).2.2.2.2.2.1;have hn4:x.n4<=2048:=aS;have hn2:x.n2<=100:=by have:=(fD.1 (dP.1 hm).2.1).2.2;omega
 have HP:=aT h;have HL4:=aT hl4;have HL2:=aT hl2;have htk:=aT (fun (i:Nat) (hi:i<p.code.length) (W:World) (h:bZ W x p)=>rtakes_of (oy i aS) h hi aS);have hgv:=aT (fun (i:Nat) (hi:i<p.code.length) (W:World) (h:bZ W x p)=>rgives_of (oy i aS) h hi);have hkd:=aT (fun (i:Nat) (hi:i<p.code.length) (r:Int) (W:World) (h:bZ W x p)=>oy i aS r W h);have hsk:=aT (fun (i:Nat) (hi:i<p.code.length) (W:World) (h:bZ W x p)=>rskip_any h (i:=i) aS aS);have hno:=aT (fun (k:Nat) (hk:k<p.code.length) (h:okR p k=false)=>rightV_no hk h);have hout:=aT (fun (o:Nat) (ho:o<p.outs.length) (h:dU p p.code.length o≠1)=>rightV_out ho h);have hyes:=aT (fun h1 h2=>rightV_yes (p:=p) h1 h2);generalize iS p=RV at *;clear h hm hl4 hl2;go_enter Tryz.func17,Tryz.ntmps17;go_wp2_with (first | ((go_at_call 78;go_call (hmay _ (HP.out.below (b:=w.heap.size) be aV)) as e w1 ⟨rfl,hb1⟩);have hp1:=Blk.below (w':=w1) (g:=w.heap.size) (t:=26) (cs:=[.slice x.A1 x.n1 x.c1,.slice x.A2 x.n2 x.c2,I p.regs,.slice x.A3 x.n3 x.c3,.slice x.A4 x.n4 x.c4]) bx hb1 aZ;have b01:Below w.heap.size w w1:=bB (a:=w) (B:=w.heap.size) be hb1 aZ) | fail);go_loopw [3,4,5] (fun j _ _ wr=>∃ k:Nat,k<=x.n4/\j=I (k:Nat)/\(∀ m,m<k->okR p m=true)/\Below w.heap.size w wr/\Blk wr w.heap.size 26 [.slice x.A1 x.n1 x.c1,.slice x.A2 x.n2 x.c2,I p.regs,.slice x.A3 x.n3 x.c3,.slice x.A4 x.n4 x.c4]) (fun j _ _ _=>x.n4 - (intOf j).toNat)
 case atStart=>exact⟨0,aS,rfl,fun m hm=>absurd hm aS,b01,hp1⟩
 case round=>
  clear hp1 b01 hmay;obtain⟨k,hk,rfl,hall,hbel,hblk⟩:=hrel;have HB:=aT hbel;have HX:=aT hblk;have HA:=aT hall;have lx:=hblk.lt;obtain⟨y0,y1,y2,y3,y4⟩:=blk5 hblk;clear hbel hblk hall
  by_cases hlt:k<x.n4
  · have hkc:k<p.code.length:=by rw[HL4.out];exact hlt
    have PW:=aT (HP.out.below HB.out aV);obtain⟨b,o,y,hA,hb,hy,hc⟩:=PW.out.r4.at_ gH aS hlt;have hI:=gC hy;obtain⟨op,ya,yb,yc,yk⟩:=y;have h0:wr.cell? ⟨b,o+k * 5,none⟩=some (I op):=hc 0 aS;have h1:wr.cell? ⟨b,o+k * 5+1,none⟩=some (I ya):=hc 1 aS;have h2:wr.cell? ⟨b,o+k * 5+2,none⟩=some (I yb):=hc 2 aS;have h3:wr.cell? ⟨b,o+k * 5+3,none⟩=some (I yc):=hc 3 aS;have h4:wr.cell? ⟨b,o+k * 5+4,none⟩=some (I yk):=hc 4 aS;have hok:okR p k=(dD p k ⟨op,ya,yb,yc,yk⟩ && ((decide (29<=op) || (decide (ya<p.regs) && (decide (dj p k ya=0) && (decide (df p (bG p k) ⟨op,ya,yb,yc,yk⟩=1) || decide (df p (bG p k) ⟨op,ya,yb,yc,yk⟩=2))))) && (decide (op≠29) || !skipR p k))):=by unfold okR;rw[hI]
    have ct:=htk.out k hkc;have cg:=hgv.out k hkc;have ck:=hkd.out k hkc ya;have cs:=hsk.out k hkc;rw[hI] at ct cg;generalize dD p k ⟨op,ya,yb,yc,yk⟩=tv at *;generalize df p (bG p k) ⟨op,ya,yb,yc,yk⟩=gv at *;generalize dj p k ya=kv at *;generalize skipR p k=sv at *;simp only[hA] at ct cg ck cs y4 ⊢;have HOK:=aT hok;have hnext:=aT (show okR p k=true->∀ m,m<k+1->okR p m=true from fun e m hm=>by
     rcases aw m k with q | q
     · exact HA.out m q
     · rw[show m=k by omega];exact e)
    have hstop:=aT (fun e=>hno.out k hkc e);have hAA:=aT hA;clear hok hc hy hI htk hgv hkd hsk hno hout hyes hA
    cases tv with
    | false=>
      have HRV:=aT (hstop.out (by rw[HOK.out];rfl));go_wp2_with (first | ((go_at_call 79;go_call (ct _ (PW.out.below ((Below.refl _ _).alloc aV _) aV)) as e w2 ⟨rfl,hb2⟩);have b02:Below wr.heap.size wr w2:=bB (a:=wr) (B:=wr.heap.size) be hb2 aZ;have hp2:=(HX.out.below b02 lx);(try simp only[hAA.out] at hp2);have hx2:=Blk.below (w':=w2) (g:=wr.heap.size) (t:=144) (cs:=[I op,I ya,I yb,I yc,I yk]) bx hb2 aZ;obtain⟨p20,p21,p22,p23,p24⟩:=blk5 hp2;obtain⟨x20,x21,x22,x23,x24⟩:=blk5 hx2;have sz2:=hp2.lt;have sy2:=hx2.lt;have B2:=aT (HB.out.trans (b02.mono HB.out.size));have P2:=aT (HX.out.below b02 lx)) | ((go_at_call 80;go_call (cg _ (PW.out.below b02 aV)) as e w3 ⟨rfl,hb3⟩);have b03:=b02.trans (hb3.mono b02.size);have hp3:=hp2.below hb3 sz2;have hx3:=hx2.below hb3 sy2;obtain⟨p30,p31,p32,p33,p34⟩:=blk5 hp3;obtain⟨x30,x31,x32,x33,x34⟩:=blk5 hx3;have sz3:=hp3.lt;have sy3:=hx3.lt;have B3:=aT (HB.out.trans (b03.mono HB.out.size));have P3:=aT (HX.out.below b03 lx)) | ((go_at_call 81;go_call (ck _ (PW.out.below b03 aV)) as e w4 ⟨rfl,hb4⟩);have b04:=b03.trans (hb4.mono b03.size);have hp4:=hp3.below hb4 sz3;have hx4:=hx3.below hb4 sy3;obtain⟨p40,p41,p42,p43,p44⟩:=blk5 hp4;obtain⟨x40,x41,x42,x43,x44⟩:=blk5 hx4;have sz4:=hp4.lt;have sy4:=hx4.lt;have B4:=aT (HB.out.trans (b04.mono HB.out.size));have P4:=aT (HX.out.below b04 lx)) | ((go_at_call 82;go_call (cs _ (PW.out.below b02 aV)) as e w5 ⟨rfl,hb5⟩);have b05:=b02.trans (hb5.mono b02.size);have hp5:=hp2.below hb5 sz2;have hx5:=hx2.below hb5 sy2;obtain⟨p50,p51,p52,p53,p54⟩:=blk5 hp5;obtain⟨x50,x51,x52,x53,x54⟩:=blk5 hx5;have sz5:=hp5.lt;have sy5:=hx5.lt;have B5:=aT (HB.out.trans (b05.mono HB.out.size));have P5:=aT (HX.out.below b05 lx)) | fail);go_ret;refine⟨?_,by first | exact B5.out | exact B4.out | exact B3.out | exact B2.out⟩;rw[HRV.out]
      first
       | rfl
       | (simp;done)
    | true=>
      by_cases o29:29<=op
      · by_cases q29:op=29
        · have b29:(op == 29)=true:=by rw[q29];rfl
          cases sv with
          | true=>
            have HRV:=aT (hstop.out (by rw[HOK.out,q29];simp));clear q29;go_wp2_with (first | ((go_at_call 79;go_call (ct _ (PW.out.below ((Below.refl _ _).alloc aV _) aV)) as e w2 ⟨rfl,hb2⟩);have b02:Below wr.heap.size wr w2:=bB (a:=wr) (B:=wr.heap.size) be hb2 aZ;have hp2:=(HX.out.below b02 lx);(try simp only[hAA.out] at hp2);have hx2:=Blk.below (w':=w2) (g:=wr.heap.size) (t:=144) (cs:=[I op,I ya,I yb,I yc,I yk]) bx hb2 aZ;obtain⟨p20,p21,p22,p23,p24⟩:=blk5 hp2;obtain⟨x20,x21,x22,x23,x24⟩:=blk5 hx2;have sz2:=hp2.lt;have sy2:=hx2.lt;have B2:=aT (HB.out.trans (b02.mono HB.out.size));have P2:=aT (HX.out.below b02 lx)) | ((go_at_call 80;go_call (cg _ (PW.out.below b02 aV)) as e w3 ⟨rfl,hb3⟩);have b03:=b02.trans (hb3.mono b02.size);have hp3:=hp2.below hb3 sz2;have hx3:=hx2.below hb3 sy2;obtain⟨p30,p31,p32,p33,p34⟩:=blk5 hp3;obtain⟨x30,x31,x32,x33,x34⟩:=blk5 hx3;have sz3:=hp3.lt;have sy3:=hx3.lt;have B3:=aT (HB.out.trans (b03.mono HB.out.size));have P3:=aT (HX.out.below b03 lx)) | ((go_at_call 81;go_call (ck _ (PW.out.below b03 aV)) as e w4 ⟨rfl,hb4⟩);have b04:=b03.trans (hb4.mono b03.size);have hp4:=hp3.below hb4 sz3;have hx4:=hx3.below hb4 sy3;obtain⟨p40,p41,p42,p43,p44⟩:=blk5 hp4;obtain⟨x40,x41,x42,x43,x44⟩:=blk5 hx4;have sz4:=hp4.lt;have sy4:=hx4.lt;have B4:=aT (HB.out.trans (b04.mono HB.out.size));have P4:=aT (HX.out.below b04 lx)) | ((go_at_call 82;go_call (cs _ (PW.out.below b02 aV)) as e w5 ⟨rfl,hb5⟩);have b05:=b02.trans (hb5.mono b02.size);have hp5:=hp2.below hb5 sz2;have hx5:=hx2.below hb5 sy2;obtain⟨p50,p51,p52,p53,p54⟩:=blk5 hp5;obtain⟨x50,x51,x52,x53,x54⟩:=blk5 hx5;have sz5:=hp5.lt;have sy5:=hx5.lt;have B5:=aT (HB.out.trans (b05.mono HB.out.size));have P5:=aT (HX.out.below b05 lx)) | fail);go_ret;refine⟨?_,by first | exact B5.out | exact B4.out | exact B3.out | exact B2.out⟩;rw[HRV.out]
            first
             | rfl
             | (simp;done)
          | false=>
            have HNX:=aT (hnext.out (by rw[HOK.out,q29];simp));clear q29;go_wp2_with (first | ((go_at_call 79;go_call (ct _ (PW.out.below ((Below.refl _ _).alloc aV _) aV)) as e w2 ⟨rfl,hb2⟩);have b02:Below wr.heap.size wr w2:=bB (a:=wr) (B:=wr.heap.size) be hb2 aZ;have hp2:=(HX.out.below b02 lx);(try simp only[hAA.out] at hp2);have hx2:=Blk.below (w':=w2) (g:=wr.heap.size) (t:=144) (cs:=[I op,I ya,I yb,I yc,I yk]) bx hb2 aZ;obtain⟨p20,p21,p22,p23,p24⟩:=blk5 hp2;obtain⟨x20,x21,x22,x23,x24⟩:=blk5 hx2;have sz2:=hp2.lt;have sy2:=hx2.lt;have B2:=aT (HB.out.trans (b02.mono HB.out.size));have P2:=aT (HX.out.below b02 lx)) | ((go_at_call 80;go_call (cg _ (PW.out.below b02 aV)) as e w3 ⟨rfl,hb3⟩);have b03:=b02.trans (hb3.mono b02.size);have hp3:=hp2.below hb3 sz2;have hx3:=hx2.below hb3 sy2;obtain⟨p30,p31,p32,p33,p34⟩:=blk5 hp3;obtain⟨x30,x31,x32,x33,x34⟩:=blk5 hx3;have sz3:=hp3.lt;have sy3:=hx3.lt;have B3:=aT (HB.out.trans (b03.mono HB.out.size));have P3:=aT (HX.out.below b03 lx)) | ((go_at_call 81;go_call (ck _ (PW.out.below b03 aV)) as e w4 ⟨rfl,hb4⟩);have b04:=b03.trans (hb4.mono b03.size);have hp4:=hp3.below hb4 sz3;have hx4:=hx3.below hb4 sy3;obtain⟨p40,p41,p42,p43,p44⟩:=blk5 hp4;obtain⟨x40,x41,x42,x43,x44⟩:=blk5 hx4;have sz4:=hp4.lt;have sy4:=hx4.lt;have B4:=aT (HB.out.trans (b04.mono HB.out.size));have P4:=aT (HX.out.below b04 lx)) | ((go_at_call 82;go_call (cs _ (PW.out.below b02 aV)) as e w5 ⟨rfl,hb5⟩);have b05:=b02.trans (hb5.mono b02.size);have hp5:=hp2.below hb5 sz2;have hx5:=hx2.below hb5 sy2;obtain⟨p50,p51,p52,p53,p54⟩:=blk5 hp5;obtain⟨x50,x51,x52,x53,x54⟩:=blk5 hx5;have sz5:=hp5.lt;have sy5:=hx5.lt;have B5:=aT (HB.out.trans (b05.mono HB.out.size));have P5:=aT (HX.out.below b05 lx)) | fail);go_roundw
            case rel=>
             first
              | exact⟨k+1,aS,by go_num,HNX.out,B5.out,by first | exact hp5 | exact P5.out⟩
              | exact⟨k+1,aS,by go_num,HNX.out,B4.out,by first | exact hp4 | exact P4.out⟩
              | exact⟨k+1,aS,by go_num,HNX.out,B3.out,by first | exact hp3 | exact P3.out⟩
              | exact⟨k+1,aS,by go_num,HNX.out,B2.out,by first | exact hp2 | exact P2.out⟩
            case measure=>simp[intOf];omega
        · have b29:(op == 29)=false:=by rw[ae];exact q29
          have HNX:=aT (hnext.out (by rw[HOK.out,am o29,am (show op≠29 from q29)];rfl));clear q29;go_wp2_with (first | ((go_at_call 79;go_call (ct _ (PW.out.below ((Below.refl _ _).alloc aV _) aV)) as e w2 ⟨rfl,hb2⟩);have b02:Below wr.heap.size wr w2:=bB (a:=wr) (B:=wr.heap.size) be hb2 aZ;have hp2:=(HX.out.below b02 lx);(try simp only[hAA.out] at hp2);have hx2:=Blk.below (w':=w2) (g:=wr.heap.size) (t:=144) (cs:=[I op,I ya,I yb,I yc,I yk]) bx hb2 aZ;obtain⟨p20,p21,p22,p23,p24⟩:=blk5 hp2;obtain⟨x20,x21,x22,x23,x24⟩:=blk5 hx2;have sz2:=hp2.lt;have sy2:=hx2.lt;have B2:=aT (HB.out.trans (b02.mono HB.out.size));have P2:=aT (HX.out.below b02 lx)) | ((go_at_call 80;go_call (cg _ (PW.out.below b02 aV)) as e w3 ⟨rfl,hb3⟩);have b03:=b02.trans (hb3.mono b02.size);have hp3:=hp2.below hb3 sz2;have hx3:=hx2.below hb3 sy2;obtain⟨p30,p31,p32,p33,p34⟩:=blk5 hp3;obtain⟨x30,x31,x32,x33,x34⟩:=blk5 hx3;have sz3:=hp3.lt;have sy3:=hx3.lt;have B3:=aT (HB.out.trans (b03.mono HB.out.size));have P3:=aT (HX.out.below b03 lx)) | ((go_at_call 81;go_call (ck _ (PW.out.below b03 aV)) as e w4 ⟨rfl,hb4⟩);have b04:=b03.trans (hb4.mono b03.size);have hp4:=hp3.below hb4 sz3;have hx4:=hx3.below hb4 sy3;obtain⟨p40,p41,p42,p43,p44⟩:=blk5 hp4;obtain⟨x40,x41,x42,x43,x44⟩:=blk5 hx4;have sz4:=hp4.lt;have sy4:=hx4.lt;have B4:=aT (HB.out.trans (b04.mono HB.out.size));have P4:=aT (HX.out.below b04 lx)) | ((go_at_call 82;go_call (cs _ (PW.out.below b02 aV)) as e w5 ⟨rfl,hb5⟩);have b05:=b02.trans (hb5.mono b02.size);have hp5:=hp2.below hb5 sz2;have hx5:=hx2.below hb5 sy2;obtain⟨p50,p51,p52,p53,p54⟩:=blk5 hp5;obtain⟨x50,x51,x52,x53,x54⟩:=blk5 hx5;have sz5:=hp5.lt;have sy5:=hx5.lt;have B5:=aT (HB.out.trans (b05.mono HB.out.size));have P5:=aT (HX.out.below b05 lx)) | fail);go_roundw
          case rel=>
           first
            | exact⟨k+1,aS,by go_num,HNX.out,B5.out,by first | exact hp5 | exact P5.out⟩
            | exact⟨k+1,aS,by go_num,HNX.out,B4.out,by first | exact hp4 | exact P4.out⟩
            | exact⟨k+1,aS,by go_num,HNX.out,B3.out,by first | exact hp3 | exact P3.out⟩
            | exact⟨k+1,aS,by go_num,HNX.out,B2.out,by first | exact hp2 | exact P2.out⟩
          case measure=>simp[intOf];omega
      · have b29:(op == 29)=false:=by rw[ae];omega
        by_cases ra:ya<p.regs
        · by_cases kz:kv=0
          · subst kz
            by_cases g1:gv=1
            · subst g1;have HNX:=aT (hnext.out oI);go_wp2_with (first | ((go_at_call 79;go_call (ct _ (PW.out.below ((Below.refl _ _).alloc aV _) aV)) as e w2 ⟨rfl,hb2⟩);have b02:Below wr.heap.size wr w2:=bB (a:=wr) (B:=wr.heap.size) be hb2 aZ;have hp2:=(HX.out.below b02 lx);(try simp only[hAA.out] at hp2);have hx2:=Blk.below (w':=w2) (g:=wr.heap.size) (t:=144) (cs:=[I op,I ya,I yb,I yc,I yk]) bx hb2 aZ;obtain⟨p20,p21,p22,p23,p24⟩:=blk5 hp2;obtain⟨x20,x21,x22,x23,x24⟩:=blk5 hx2;have sz2:=hp2.lt;have sy2:=hx2.lt;have B2:=aT (HB.out.trans (b02.mono HB.out.size));have P2:=aT (HX.out.below b02 lx)) | ((go_at_call 80;go_call (cg _ (PW.out.below b02 aV)) as e w3 ⟨rfl,hb3⟩);have b03:=b02.trans (hb3.mono b02.size);have hp3:=hp2.below hb3 sz2;have hx3:=hx2.below hb3 sy2;obtain⟨p30,p31,p32,p33,p34⟩:=blk5 hp3;obtain⟨x30,x31,x32,x33,x34⟩:=blk5 hx3;have sz3:=hp3.lt;have sy3:=hx3.lt;have B3:=aT (HB.out.trans (b03.mono HB.out.size));have P3:=aT (HX.out.below b03 lx)) | ((go_at_call 81;go_call (ck _ (PW.out.below b03 aV)) as e w4 ⟨rfl,hb4⟩);have b04:=b03.trans (hb4.mono b03.size);have hp4:=hp3.below hb4 sz3;have hx4:=hx3.below hb4 sy3;obtain⟨p40,p41,p42,p43,p44⟩:=blk5 hp4;obtain⟨x40,x41,x42,x43,x44⟩:=blk5 hx4;have sz4:=hp4.lt;have sy4:=hx4.lt;have B4:=aT (HB.out.trans (b04.mono HB.out.size));have P4:=aT (HX.out.below b04 lx)) | ((go_at_call 82;go_call (cs _ (PW.out.below b02 aV)) as e w5 ⟨rfl,hb5⟩);have b05:=b02.trans (hb5.mono b02.size);have hp5:=hp2.below hb5 sz2;have hx5:=hx2.below hb5 sy2;obtain⟨p50,p51,p52,p53,p54⟩:=blk5 hp5;obtain⟨x50,x51,x52,x53,x54⟩:=blk5 hx5;have sz5:=hp5.lt;have sy5:=hx5.lt;have B5:=aT (HB.out.trans (b05.mono HB.out.size));have P5:=aT (HX.out.below b05 lx)) | fail);go_roundw
              case rel=>
               first
                | exact⟨k+1,aS,by go_num,HNX.out,B5.out,by first | exact hp5 | exact P5.out⟩
                | exact⟨k+1,aS,by go_num,HNX.out,B4.out,by first | exact hp4 | exact P4.out⟩
                | exact⟨k+1,aS,by go_num,HNX.out,B3.out,by first | exact hp3 | exact P3.out⟩
                | exact⟨k+1,aS,by go_num,HNX.out,B2.out,by first | exact hp2 | exact P2.out⟩
              case measure=>simp[intOf];omega
            · have g1b:(gv != 1)=true:=by rw[af];exact g1
              by_cases g2:gv=2
              · subst g2;have HNX:=aT (hnext.out oI);go_wp2_with (first | ((go_at_call 79;go_call (ct _ (PW.out.below ((Below.refl _ _).alloc aV _) aV)) as e w2 ⟨rfl,hb2⟩);have b02:Below wr.heap.size wr w2:=bB (a:=wr) (B:=wr.heap.size) be hb2 aZ;have hp2:=(HX.out.below b02 lx);(try simp only[hAA.out] at hp2);have hx2:=Blk.below (w':=w2) (g:=wr.heap.size) (t:=144) (cs:=[I op,I ya,I yb,I yc,I yk]) bx hb2 aZ;obtain⟨p20,p21,p22,p23,p24⟩:=blk5 hp2;obtain⟨x20,x21,x22,x23,x24⟩:=blk5 hx2;have sz2:=hp2.lt;have sy2:=hx2.lt;have B2:=aT (HB.out.trans (b02.mono HB.out.size));have P2:=aT (HX.out.below b02 lx)) | ((go_at_call 80;go_call (cg _ (PW.out.below b02 aV)) as e w3 ⟨rfl,hb3⟩);have b03:=b02.trans (hb3.mono b02.size);have hp3:=hp2.below hb3 sz2;have hx3:=hx2.below hb3 sy2;obtain⟨p30,p31,p32,p33,p34⟩:=blk5 hp3;obtain⟨x30,x31,x32,x33,x34⟩:=blk5 hx3;have sz3:=hp3.lt;have sy3:=hx3.lt;have B3:=aT (HB.out.trans (b03.mono HB.out.size));have P3:=aT (HX.out.below b03 lx)) | ((go_at_call 81;go_call (ck _ (PW.out.below b03 aV)) as e w4 ⟨rfl,hb4⟩);have b04:=b03.trans (hb4.mono b03.size);have hp4:=hp3.below hb4 sz3;have hx4:=hx3.below hb4 sy3;obtain⟨p40,p41,p42,p43,p44⟩:=blk5 hp4;obtain⟨x40,x41,x42,x43,x44⟩:=blk5 hx4;have sz4:=hp4.lt;have sy4:=hx4.lt;have B4:=aT (HB.out.trans (b04.mono HB.out.size));have P4:=aT (HX.out.below b04 lx)) | ((go_at_call 82;go_call (cs _ (PW.out.below b02 aV)) as e w5 ⟨rfl,hb5⟩);have b05:=b02.trans (hb5.mono b02.size);have hp5:=hp2.below hb5 sz2;have hx5:=hx2.below hb5 sy2;obtain⟨p50,p51,p52,p53,p54⟩:=blk5 hp5;obtain⟨x50,x51,x52,x53,x54⟩:=blk5 hx5;have sz5:=hp5.lt;have sy5:=hx5.lt;have B5:=aT (HB.out.trans (b05.mono HB.out.size));have P5:=aT (HX.out.below b05 lx)) | fail);go_roundw
                case rel=>
                 first
                  | exact⟨k+1,aS,by go_num,HNX.out,B5.out,by first | exact hp5 | exact P5.out⟩
                  | exact⟨k+1,aS,by go_num,HNX.out,B4.out,by first | exact hp4 | exact P4.out⟩
                  | exact⟨k+1,aS,by go_num,HNX.out,B3.out,by first | exact hp3 | exact P3.out⟩
                  | exact⟨k+1,aS,by go_num,HNX.out,B2.out,by first | exact hp2 | exact P2.out⟩
                case measure=>simp[intOf];omega
              · have g2b:(gv != 2)=true:=by rw[af];exact g2
                have HRV:=aT (hstop.out (by rw[HOK.out,ah o29,ah g1,ah g2];simp));go_wp2_with (first | ((go_at_call 79;go_call (ct _ (PW.out.below ((Below.refl _ _).alloc aV _) aV)) as e w2 ⟨rfl,hb2⟩);have b02:Below wr.heap.size wr w2:=bB (a:=wr) (B:=wr.heap.size) be hb2 aZ;have hp2:=(HX.out.below b02 lx);(try simp only[hAA.out] at hp2);have hx2:=Blk.below (w':=w2) (g:=wr.heap.size) (t:=144) (cs:=[I op,I ya,I yb,I yc,I yk]) bx hb2 aZ;obtain⟨p20,p21,p22,p23,p24⟩:=blk5 hp2;obtain⟨x20,x21,x22,x23,x24⟩:=blk5 hx2;have sz2:=hp2.lt;have sy2:=hx2.lt;have B2:=aT (HB.out.trans (b02.mono HB.out.size));have P2:=aT (HX.out.below b02 lx)) | ((go_at_call 80;go_call (cg _ (PW.out.below b02 aV)) as e w3 ⟨rfl,hb3⟩);have b03:=b02.trans (hb3.mono b02.size);have hp3:=hp2.below hb3 sz2;have hx3:=hx2.below hb3 sy2;obtain⟨p30,p31,p32,p33,p34⟩:=blk5 hp3;obtain⟨x30,x31,x32,x33,x34⟩:=blk5 hx3;have sz3:=hp3.lt;have sy3:=hx3.lt;have B3:=aT (HB.out.trans (b03.mono HB.out.size));have P3:=aT (HX.out.below b03 lx)) | ((go_at_call 81;go_call (ck _ (PW.out.below b03 aV)) as e w4 ⟨rfl,hb4⟩);have b04:=b03.trans (hb4.mono b03.size);have hp4:=hp3.below hb4 sz3;have hx4:=hx3.below hb4 sy3;obtain⟨p40,p41,p42,p43,p44⟩:=blk5 hp4;obtain⟨x40,x41,x42,x43,x44⟩:=blk5 hx4;have sz4:=hp4.lt;have sy4:=hx4.lt;have B4:=aT (HB.out.trans (b04.mono HB.out.size));have P4:=aT (HX.out.below b04 lx)) | ((go_at_call 82;go_call (cs _ (PW.out.below b02 aV)) as e w5 ⟨rfl,hb5⟩);have b05:=b02.trans (hb5.mono b02.size);have hp5:=hp2.below hb5 sz2;have hx5:=hx2.below hb5 sy2;obtain⟨p50,p51,p52,p53,p54⟩:=blk5 hp5;obtain⟨x50,x51,x52,x53,x54⟩:=blk5 hx5;have sz5:=hp5.lt;have sy5:=hx5.lt;have B5:=aT (HB.out.trans (b05.mono HB.out.size));have P5:=aT (HX.out.below b05 lx)) | fail);go_ret;refine⟨?_,by first | exact B5.out | exact B4.out | exact B3.out | exact B2.out⟩;rw[HRV.out]
                first
                 | rfl
                 | (simp;done)
          · have kzb:(kv != 0)=true:=by rw[af];exact kz
            have HRV:=aT (hstop.out (by rw[HOK.out,ah o29,ah kz];simp));go_wp2_with (first | ((go_at_call 79;go_call (ct _ (PW.out.below ((Below.refl _ _).alloc aV _) aV)) as e w2 ⟨rfl,hb2⟩);have b02:Below wr.heap.size wr w2:=bB (a:=wr) (B:=wr.heap.size) be hb2 aZ;have hp2:=(HX.out.below b02 lx);(try simp only[hAA.out] at hp2);have hx2:=Blk.below (w':=w2) (g:=wr.heap.size) (t:=144) (cs:=[I op,I ya,I yb,I yc,I yk]) bx hb2 aZ;obtain⟨p20,p21,p22,p23,p24⟩:=blk5 hp2;obtain⟨x20,x21,x22,x23,x24⟩:=blk5 hx2;have sz2:=hp2.lt;have sy2:=hx2.lt;have B2:=aT (HB.out.trans (b02.mono HB.out.size));have P2:=aT (HX.out.below b02 lx)) | ((go_at_call 80;go_call (cg _ (PW.out.below b02 aV)) as e w3 ⟨rfl,hb3⟩);have b03:=b02.trans (hb3.mono b02.size);have hp3:=hp2.below hb3 sz2;have hx3:=hx2.below hb3 sy2;obtain⟨p30,p31,p32,p33,p34⟩:=blk5 hp3;obtain⟨x30,x31,x32,x33,x34⟩:=blk5 hx3;have sz3:=hp3.lt;have sy3:=hx3.lt;have B3:=aT (HB.out.trans (b03.mono HB.out.size));have P3:=aT (HX.out.below b03 lx)) | ((go_at_call 81;go_call (ck _ (PW.out.below b03 aV)) as e w4 ⟨rfl,hb4⟩);have b04:=b03.trans (hb4.mono b03.size);have hp4:=hp3.below hb4 sz3;have hx4:=hx3.below hb4 sy3;obtain⟨p40,p41,p42,p43,p44⟩:=blk5 hp4;obtain⟨x40,x41,x42,x43,x44⟩:=blk5 hx4;have sz4:=hp4.lt;have sy4:=hx4.lt;have B4:=aT (HB.out.trans (b04.mono HB.out.size));have P4:=aT (HX.out.below b04 lx)) | ((go_at_call 82;go_call (cs _ (PW.out.below b02 aV)) as e w5 ⟨rfl,hb5⟩);have b05:=b02.trans (hb5.mono b02.size);have hp5:=hp2.below hb5 sz2;have hx5:=hx2.below hb5 sy2;obtain⟨p50,p51,p52,p53,p54⟩:=blk5 hp5;obtain⟨x50,x51,x52,x53,x54⟩:=blk5 hx5;have sz5:=hp5.lt;have sy5:=hx5.lt;have B5:=aT (HB.out.trans (b05.mono HB.out.size));have P5:=aT (HX.out.below b05 lx)) | fail);go_ret;refine⟨?_,by first | exact B5.out | exact B4.out | exact B3.out | exact B2.out⟩;rw[HRV.out]
            first
             | rfl
             | (simp;done)
        · have HRV:=aT (hstop.out (by rw[HOK.out,ah o29,ah ra];simp));go_wp2_with (first | ((go_at_call 79;go_call (ct _ (PW.out.below ((Below.refl _ _).alloc aV _) aV)) as e w2 ⟨rfl,hb2⟩);have b02:Below wr.heap.size wr w2:=bB (a:=wr) (B:=wr.heap.size) be hb2 aZ;have hp2:=(HX.out.below b02 lx);(try simp only[hAA.out] at hp2);have hx2:=Blk.below (w':=w2) (g:=wr.heap.size) (t:=144) (cs:=[I op,I ya,I yb,I yc,I yk]) bx hb2 aZ;obtain⟨p20,p21,p22,p23,p24⟩:=blk5 hp2;obtain⟨x20,x21,x22,x23,x24⟩:=blk5 hx2;have sz2:=hp2.lt;have sy2:=hx2.lt;have B2:=aT (HB.out.trans (b02.mono HB.out.size));have P2:=aT (HX.out.below b02 lx)) | ((go_at_call 80;go_call (cg _ (PW.out.below b02 aV)) as e w3 ⟨rfl,hb3⟩);have b03:=b02.trans (hb3.mono b02.size);have hp3:=hp2.below hb3 sz2;have hx3:=hx2.below hb3 sy2;obtain⟨p30,p31,p32,p33,p34⟩:=blk5 hp3;obtain⟨x30,x31,x32,x33,x34⟩:=blk5 hx3;have sz3:=hp3.lt;have sy3:=hx3.lt;have B3:=aT (HB.out.trans (b03.mono HB.out.size));have P3:=aT (HX.out.below b03 lx)) | ((go_at_call 81;go_call (ck _ (PW.out.below b03 aV)) as e w4 ⟨rfl,hb4⟩);have b04:=b03.trans (hb4.mono b03.size);have hp4:=hp3.below hb4 sz3;have hx4:=hx3.below hb4 sy3;obtain⟨p40,p41,p42,p43,p44⟩:=blk5 hp4;obtain⟨x40,x41,x42,x43,x44⟩:=blk5 hx4;have sz4:=hp4.lt;have sy4:=hx4.lt;have B4:=aT (HB.out.trans (b04.mono HB.out.size));have P4:=aT (HX.out.below b04 lx)) | ((go_at_call 82;go_call (cs _ (PW.out.below b02 aV)) as e w5 ⟨rfl,hb5⟩);have b05:=b02.trans (hb5.mono b02.size);have hp5:=hp2.below hb5 sz2;have hx5:=hx2.below hb5 sy2;obtain⟨p50,p51,p52,p53,p54⟩:=blk5 hp5;obtain⟨x50,x51,x52,x53,x54⟩:=blk5 hx5;have sz5:=hp5.lt;have sy5:=hx5.lt;have B5:=aT (HB.out.trans (b05.mono HB.out.size));have P5:=aT (HX.out.below b05 lx)) | fail);go_ret;refine⟨?_,by first | exact B5.out | exact B4.out | exact B3.out | exact B2.out⟩;rw[HRV.out]
          first
           | rfl
           | (simp;done)
  · have hk9:k=x.n4:=aS;subst hk9;have hall2:=aT (show ∀ m,m<p.code.length->okR p m=true from fun m hm=>HA.out m (by rw[<- HL4.out];exact hm));clear htk hgv hkd hsk hno HA;go_wp2_with fail;go_loopw [6,7,8] (fun u _ _ w2=>∃ o:Nat,o<=x.n2/\u=I (o:Nat)/\(∀ m,m<o->dU p p.code.length m=1)/\Below w.heap.size w w2/\Blk w2 w.heap.size 26 [.slice x.A1 x.n1 x.c1,.slice x.A2 x.n2 x.c2,I p.regs,.slice x.A3 x.n3 x.c3,.slice x.A4 x.n4 x.c4]) (fun u _ _ _=>x.n2 - (intOf u).toNat)
    case atStart=>exact⟨0,aS,rfl,fun m hm=>absurd hm aS,HB.out,HX.out⟩
    case round=>
     clear HB HX y0 y1 y2 y3 y4 lx;obtain⟨u,hu,rfl,hou,hbel,hblk⟩:=hrel;have HB2:=aT hbel;have HX2:=aT hblk;have HO:=aT hou;have lx2:=hblk.lt;obtain⟨y0,y1,y2,y3,y4⟩:=blk5 hblk;clear hbel hblk hou
     by_cases hltu:u<x.n2
     · go_wp2_with fail;go_loopw [7,8] (fun c j w3=>∃ k:Nat,k<=x.n4/\j=I (k:Nat)/\c=I (dU p k u:Nat)/\Below w.heap.size w w3/\Blk w3 w.heap.size 26 [.slice x.A1 x.n1 x.c1,.slice x.A2 x.n2 x.c2,I p.regs,.slice x.A3 x.n3 x.c3,.slice x.A4 x.n4 x.c4]) (fun _ j _=>x.n4 - (intOf j).toNat)
       case atStart=>exact⟨0,aS,rfl,rfl,HB2.out,HX2.out⟩
       case round=>
        clear y0 y1 y2 y3 y4;obtain⟨k,hk3,rfl,rfl,hbel3,hblk3⟩:=hrel;have HB3:=aT hbel3;have HX3:=aT hblk3;have lx3:=hblk3.lt;obtain⟨y0,y1,y2,y3,y4⟩:=blk5 hblk3;clear hbel3 hblk3;have hle:=outsR_le p k u
        by_cases hlt3:k<x.n4
        · have PW:=aT (HP.out.below HB3.out aV);obtain⟨b,o,y,hA,hb,hy,hc⟩:=PW.out.r4.at_ gH aS hlt3;have hI:=gC hy;obtain⟨op,ya,yb,yc,yk⟩:=y;have h0:wr.cell? ⟨b,o+k * 5,none⟩=some (I op):=hc 0 aS;have h4:wr.cell? ⟨b,o+k * 5+4,none⟩=some (I yk):=hc 4 aS;have hsc:=i9 p k u;rw[hI] at hsc;simp only at hsc;have HSC:=aT hsc;clear hc hy hI hsc;generalize dU p k u=cn at *;simp only[hA] at y4
          by_cases q29:op=29
          · have b29:(op == 29)=true:=by rw[q29];rfl
            by_cases qu:yk=(u:Int)
            · have bu:(yk == (u:Int))=true:=by rw[qu];simp
              have HC:=aT (show dU p (k+1) u=cn+1 from by rw[HSC.out,if_pos ⟨q29,qu⟩]);clear q29 qu;go_wp2_with fail;go_roundw
              case rel=>exact⟨k+1,aS,by go_num,by rw[HC.out];go_num,HB3.out,HX3.out⟩
              case measure=>simp[intOf];omega
            · have bu:(yk == (u:Int))=false:=by rw[ae];exact qu
              have HC:=aT (show dU p (k+1) u=cn from by rw[HSC.out,if_neg (fun e=>qu e.2)];rfl);clear q29 qu;go_wp2_with fail;go_roundw
              case rel=>exact⟨k+1,aS,by go_num,by rw[HC.out],HB3.out,HX3.out⟩
              case measure=>simp[intOf];omega
          · have b29:(op == 29)=false:=by rw[ae];exact q29
            have HC:=aT (show dU p (k+1) u=cn from by rw[HSC.out,if_neg (fun e=>q29 e.1)];rfl);clear q29;go_wp2_with fail;go_roundw
            case rel=>exact⟨k+1,aS,by go_num,by rw[HC.out],HB3.out,HX3.out⟩
            case measure=>simp[intOf];omega
        · have hk9:k=x.n4:=aS;subst hk9;have huc:u<p.outs.length:=by rw[HL2.out];exact hltu
          have hcl:=HL4.out
          by_cases q1:dU p x.n4 u=1
          · have HNX:=aT (show ∀ m,m<u+1->dU p p.code.length m=1 from fun m hm=>by
             rcases aw m u with q | q
             · exact HO.out m q
             · rw[show m=u by omega,hcl];exact q1)
            rw[q1];clear q1 hcl;go_wp2_with fail;go_roundw
            case rel=>exact⟨u+1,aS,by go_num,HNX.out,HB3.out,HX3.out⟩
            case measure=>simp[intOf];omega
          · have HRV:=aT (hout.out u huc (by rw[hcl];exact q1));have q1b:((dU p x.n4 u:Int) != 1)=true:=by rw[af];omega
            clear q1 hcl;generalize dU p x.n4 u=cn at *;go_wp2_with fail;go_ret;refine⟨?_,HB3.out⟩;rw[HRV.out]
            rfl
     · have hu9:u=x.n2:=aS;subst hu9;have HRV:=aT (hyes.out hall2.out (fun o ho=>HO.out o (by rw[<- HL2.out];exact ho)));go_wp2_with fail;go_ret;refine⟨?_,HB2.out⟩;rw[HRV.out]
       rfl
theorem pY (h:bZ w x p) :
 Ca 17 #[.agg #[.slice x.A1 x.n1 x.c1,.slice x.A2 x.n2 x.c2,I p.regs,.slice x.A3 x.n3 x.c3,.slice x.A4 x.n4 x.c4]] w fun e w'=>e=.returned (.bool (dG p))/\Below w.heap.size w w':=by
 rw[verify_is]
 cases hm:mayB p with
 | true=>
   rw[show jQ p=iS p from by unfold jQ iS;rw[hm];rfl];exact rright_yes h hm
 | false=>
   rw[show jQ p=false from by unfold jQ;rw[hm];rfl];have hmay:=fun w h=>oS x p w h
   rw[hm] at hmay;have HP:=aT h;clear hm h;go_enter Tryz.func17,Tryz.ntmps17;go_wp2_with (first | (go_at_call 78;go_call (hmay _ (HP.out.below (b:=w.heap.size) be aV)) as e w1 ⟨rfl,hb1⟩) | fail);go_ret;exact⟨rfl,bB (a:=w) (B:=w.heap.size) be hb1 aZ⟩
end
