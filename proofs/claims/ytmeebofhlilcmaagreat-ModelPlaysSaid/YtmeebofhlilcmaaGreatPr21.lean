/- Parts. -/
import Derived.Test.YtmeebofhlilcmaaGreatPr12
set_option linter.unusedVariables false
set_option linter.unusedSimpArgs false
set_option maxRecDepth 100000
set_option maxHeartbeats 0
namespace Go.Proofs.YtmeebofhlilcmaaGreat
variable {fl ml fr mr:Nat} {D:aX}
open Go.RowKit
def nowI (k:Nat):Int:=if k=2 then -1 else k
def slotC (ga gb:Nat)(s:SlV3)(B:Option Addr)(n c:Nat):List Value:=[.pointer (some ⟨ga,0,none⟩),.pointer (some ⟨gb,0,none⟩),I (nowI s.now),I s.number,.slice B n c]
def eJ (w:World)(base g ga gb:Nat)(s:SlV3):Prop:=∃ B n c,Blk w g 336 (slotC ga gb s B n c)/\n<=c/\c<=maxLen/\eq w base ⟨B,n,c⟩ s.load/\s.now<=2/\n<=512
def mutS:List TypeId:=336 :: mutD
section
variable {w w':World} {base g ga gb:Nat} {p:bE} {D:aX} {s:SlV3} {A:Option Addr} {n c:Nat} {load:List UInt8}
theorem eJ.below (h:eJ w base g ga gb s)(hb:Below w.heap.size w w'):eJ w' base g ga gb s:=by
 obtain⟨B,n,c,h1,h2,h3,h4,h5,h6⟩:=h;exact⟨B,n,c,h1.below hb h1.lt,h2,h3,h4.below hb,h5,h6⟩
theorem eJ.step (h:eJ w base g ga gb s)(hd:be w base p D)(k:Step mutD base p w w'):eJ w' base g ga gb s:=by
 obtain⟨B,n,c,h1,h2,h3,h4,h5,h6⟩:=h;exact⟨B,n,c,hd.blk h1 k.tch aU,h2,h3,h4.step hd k aU,h5,h6⟩
def jv (s:SlV3):List UInt8 × Int × Bool:=if s.now=2 then ([],0,false) else (s.load,s.number,true)
theorem load_any (h:eJ w base g ga gb s):Ca 160 #[.pointer (some ⟨g,0,none⟩)] w fun e w'=>∃ B n c,e=.returned (.tuple #[.slice B n c,I (jv s).2.1,.bool (jv s).2.2])/\OB w' w.heap.size 5 B n c (jv s).1/\Below w.heap.size w w':=by
 obtain⟨B,n,c,h1,h2,h3,h4,h5,h6⟩:=h;have c0:=h1.c0;have c2:=h1.c2;have c3:=h1.c3;have c4:=h1.c4;unfold jv;unfold maxLen at h3
 by_cases hn:s.now=2
 · rw[if_pos hn];have e2:nowI s.now=-1:=by unfold nowI;rw[if_pos hn]
   rw[e2] at c2;clear h1 h4 hn;go_enter Tryz.func160,Tryz.ntmps160;go_wp2;go_ret3;exact⟨none,0,0,rfl,Ow.nil _ _ _ _,Below.refl _ _⟩
 · rw[if_neg hn];have e2:nowI s.now=(s.now:Int):=by unfold nowI;rw[if_neg hn]
   rw[e2] at c2;have hne:((s.now:Int) == -1)=false:=by rw[af];omega
   have lg:=h1.lt;have HRB:=aT (show RB w B n s.load from h4.1);clear h1 h4 hn e2;go_enter Tryz.func160,Tryz.ntmps160;go_wp2_with fail;go_region_held3 (fun w'=>w'.cell? ⟨g,4,none⟩=some (.slice B n c)/\w'.cell? ⟨g,3,none⟩=some (I s.number)) (first | go_keep | (refine⟨?_,?_⟩ <;> assumption)) (first | (refine eF rfl rfl cH dg (A:=none) (n:=0) (c:=0) (l:=[]) (s:=.tmp 22) (x:=.tmp 26) (N:=n) (L:=s.load) (base:=w.heap.size) rfl (Ow.nil _ _ _ _) rfl (k:=s.load) (HRB.out.below (B:=w.heap.size) bc aW).rd aS rfl bQ aS br ?_;intro A5 c5 w5 hown5 hg5 hat5 hb5;have b5:=(Below.drew (Below.refl w.heap.size w)).trans hb5;have y4:=(b5.cell (p:=⟨g,4,none⟩) lg).trans c4;have y3:=(b5.cell (p:=⟨g,3,none⟩) lg).trans c3) | fail);go_wp2;go_ret3;exact⟨A5,n,c5,rfl,hown5,b5⟩
theorem eJ.sets {B0 B:Option Addr}{n0 d0 n c oth:Nat}{o:Int}{load:List UInt8}(hb:Blk w g 336 (slotC ga gb s B0 n0 d0))(hd:be w base p D)(hg:base<=g)(hs:base<=w.heap.size)(hl:eq w base ⟨B,n,c⟩ load)(hc:n<=c)(hcm:c<=maxLen)(hn:n<=512)(ho:nowI oth=o)(h2:oth<=2)(num:Int) :
 be (((w.setCell ⟨g,2,none⟩ (I o)).setCell ⟨g,3,none⟩ (I num)).setCell ⟨g,4,none⟩ (.slice B n c)) base p D/\eJ (((w.setCell ⟨g,2,none⟩ (I o)).setCell ⟨g,3,none⟩ (I num)).setCell ⟨g,4,none⟩ (.slice B n c)) base g ga gb ⟨oth,num,load⟩/\Step mutS base p w (((w.setCell ⟨g,2,none⟩ (I o)).setCell ⟨g,3,none⟩ (I num)).setCell ⟨g,4,none⟩ (.slice B n c)):=by
 have set1:∀ {W:World} {cs:List Value} (i:Nat) (u:Value),Blk W g 336 cs->be W base p D->eq W base ⟨B,n,c⟩ load->base<=W.heap.size->Blk (W.setCell ⟨g,i,none⟩ u) g 336 (cs.set i u)/\be (W.setCell ⟨g,i,none⟩ u) base p D/\eq (W.setCell ⟨g,i,none⟩ u) base ⟨B,n,c⟩ load/\Step mutS base p W (W.setCell ⟨g,i,none⟩ u):=fun {W cs} i u hb hd hl hs=>by
  have st:Step [336] base p W (W.setCell ⟨g,i,none⟩ u):=Step.one (dw _) hb (aC ..) hg hs;refine⟨hb.set_ i u,?_,hl.step hd st aU,Step.one (dw _) hb (aC ..) hg hs⟩;obtain⟨A9,c9,h9⟩:=hd;exact⟨A9,c9,h9.keep (F:=(·=g)) (Keep.one (dw _)) (fun g9 hf e=>by
   subst e;rcases h9.foot_ty hb hf with q | q | q | q | q <;> exact absurd q aU)⟩
 obtain⟨b1,d1,l1,s1⟩:=set1 2 (I o) hb hd hl hs;obtain⟨b2,d2,l2,s2⟩:=set1 3 (I num) b1 d1 l1 (by have:=s1.size;omega);obtain⟨b3,d3,l3,s3⟩:=set1 4 (.slice B n c) b2 d2 l2 (by have:=s1.size;have:=s2.size;omega);refine⟨d3,⟨B,n,c,?_,hc,hcm,l3,h2,hn⟩,(s1.trans s2).trans s3⟩;subst ho;exact b3
theorem fillK_few (f m:Nat)(load:List UInt8):∀ (k i:Nat) (D:aX),(eC D f m load i k).1.many=D.many/\(eC D f m load i k).1.waits.length<=D.waits.length+k:=by
 intro k
 induction k with
 | zero=>intro i D;exact⟨rfl,Nat.le_refl _⟩
 | succ k ih=>
   intro i D;obtain⟨a1,a2⟩:=jm D f m ((1+i:Nat):Int) (padL load i)
   by_cases he:(bK D f m ((1+i:Nat):Int) (padL load i)).2=0
   · rw[nZ he];obtain⟨h1,h2⟩:=ih (i+1) (bK D f m ((1+i:Nat):Int) (padL load i)).1;exact⟨h1.trans a1,aS⟩
   · rw[nY he];exact⟨a1,aS⟩
theorem mJ (D:aX):(bH D).1.many=D.many/\(bH D).1.waits.length<=D.waits.length:=by
 unfold bH
 split
 · exact⟨rfl,Nat.le_refl _⟩
 · split
   · exact⟨rfl,by simp[ey]⟩
   · exact⟨rfl,by simp[jj]⟩
theorem fillV_few (D:aX)(f m:Nat)(load:List UInt8):(dX D f m load).1.many=D.many/\(dX D f m load).1.waits.length<=D.waits.length+cu load.length:=by
 have h:=fillK_few f m load (cu load.length) 0 D;have h2:=mJ (eC D f m load 0 (cu load.length)).1;unfold dX
 split
 · exact h
 · exact⟨h2.1.trans h.1,ae h2.2 h.2⟩
theorem pX (D:aX)(f m:Nat)(n kind number:Int)(l:List UInt8):(cI D f m n kind number l).1.many=D.many/\(cI D f m n kind number l).1.waits.length<=D.waits.length+1:=by
 unfold cI
 split
 · exact⟨rfl,by simp⟩
 · exact jm D f m n _
theorem save_main (R:aX × SlV3 × Int)(oth gx f m:Nat)(hsel:(oth=0/\gx=ga/\s.now≠0)\/(oth=1/\gx=gb/\s.now=0))
 (hR:R=if (ea D f m (s.number+1) load).2≠0 then ((ea D f m (s.number+1) load).1,s,(ea D f m (s.number+1) load).2) else ((ea D f m (s.number+1) load).1,⟨oth,s.number+1,load⟩,0))
 (hS:eJ w base g ga gb s) (hd:be w base p D) (hs:base<=w.heap.size) (hg:base<=g) (hax:bD w gx p.d f m) (hm:5<=m) (hfm:f+m<=D.many)
 (hl:eq w base ⟨A,n,c⟩ load) (hc:n<=c) (hcm:c<=maxLen) (hn:n<=512) (hnum:s.number≠9223372036854775807) (hnb:-9223372036854775808<=s.number/\s.number<=9223372036854775807) (hw:D.waits.length<800000) :
 Ca 264 #[.pointer (some ⟨g,0,none⟩),.slice A n c] w fun e w'=>e=.returned (I R.2.2)/\be w' base p R.1/\eJ w' base g ga gb R.2.1/\Step mutS base p w w':=by
 have hlen:load.length=n:=hl.1.1;have c1:=fun {W:World} (h:be W base p D) (hs:base<=W.heap.size) (ha:bD W gx p.d f m)=>(show Ca 198 #[.pointer (some ⟨gx,0,none⟩),I 0] W fun e w'=>e=.returned (I (bK D f m 0 bw).2)/\be w' base p (bK D f m 0 bw).1/\Step mutD base p W w' from s_awipe h hs ha hfm 0 aS)
 obtain⟨a1,a2⟩:=jm D f m 0 bw;obtain⟨b1,b2⟩:=mJ (bK D f m 0 bw).1;obtain⟨f1,f2⟩:=fillV_few (bH (bK D f m 0 bw).1).1 f m load;obtain⟨p1,p2⟩:=pX (dX (bH (bK D f m 0 bw).1).1 f m load).1 f m 0 2 (s.number+1) (dJ load);have hk4:cu load.length<=4:=by rw[hlen];unfold cu;omega
 have c2:=fun {W:World} (h:be W base p (bK D f m 0 bw).1) (hs:base<=W.heap.size) (ha:bD W gx p.d f m)=>j7 h hs ha
 have c3:=fun {W:World} (h:be W base p (bH (bK D f m 0 bw).1).1) (hs:base<=W.heap.size) (ha:bD W gx p.d f m) (hl:eq W base ⟨A,n,c⟩ load)=>fill_any h hs ha hm aS hl hc hcm hn aS
 have c4:=fun {W:World} (h:be W base p (dX (bH (bK D f m 0 bw).1).1 f m load).1) (hs:base<=W.heap.size) (ha:bD W gx p.d f m) (B:Option Addr) (d:Nat) (hb:RB W B 12 (dJ load))=>(show Ca 115 #[.pointer (some ⟨gx,0,none⟩),I 0,I 2,I (s.number+1),.slice B 12 d] W fun e w'=>e=.returned (I (cI (dX (bH (bK D f m 0 bw).1).1 f m load).1 f m 0 2 (s.number+1) (dJ load)).2)/\be w' base p (cI (dX (bH (bK D f m 0 bw).1).1 f m load).1 f m 0 2 (s.number+1) (dJ load)).1/\Step mutD base p W w' from s_aput (d:=d) h hs ha aS 0 2 (s.number+1) B 12 (dJ load) hb aU aS aS)
 have c5:=fun {W:World} (h:be W base p (cI (dX (bH (bK D f m 0 bw).1).1 f m load).1 f m 0 2 (s.number+1) (dJ load)).1) (hs:base<=W.heap.size) (ha:bD W gx p.d f m)=>j7 h hs ha
 have HHL:Hid (dJ load=putL (un n) ++ le4 (fv [load])):=by show _=_;unfold dJ sumL;rw[hlen]
 generalize hL0:dJ load=hL at *;have hR2:R=if (bK D f m 0 bw).2≠0 then ((bK D f m 0 bw).1,s,(bK D f m 0 bw).2) else if (bH (bK D f m 0 bw).1).2≠0 then ((bH (bK D f m 0 bw).1).1,s,(bH (bK D f m 0 bw).1).2) else if (dX (bH (bK D f m 0 bw).1).1 f m load).2≠0 then ((dX (bH (bK D f m 0 bw).1).1 f m load).1,s,(dX (bH (bK D f m 0 bw).1).1 f m load).2)
  else if (cI (dX (bH (bK D f m 0 bw).1).1 f m load).1 f m 0 2 (s.number+1) hL).2≠0 then ((cI (dX (bH (bK D f m 0 bw).1).1 f m load).1 f m 0 2 (s.number+1) hL).1,s,(cI (dX (bH (bK D f m 0 bw).1).1 f m load).1 f m 0 2 (s.number+1) hL).2)
  else if (bH (cI (dX (bH (bK D f m 0 bw).1).1 f m load).1 f m 0 2 (s.number+1) hL).1).2≠0 then ((bH (cI (dX (bH (bK D f m 0 bw).1).1 f m load).1 f m 0 2 (s.number+1) hL).1).1,s,(bH (cI (dX (bH (bK D f m 0 bw).1).1 f m load).1 f m 0 2 (s.number+1) hL).1).2)
  else ((bH (cI (dX (bH (bK D f m 0 bw).1).1 f m load).1 f m 0 2 (s.number+1) hL).1).1,⟨oth,s.number+1,load⟩,0):=by
  rw[hR];unfold ea;rw[hL0]
  by_cases q1:(bK D f m 0 bw).2≠0
  · simp only[if_pos q1]
  · rw[if_neg q1,if_neg q1]
    by_cases q2:(bH (bK D f m 0 bw).1).2≠0
    · simp only[if_pos q2]
    · rw[if_neg q2,if_neg q2]
      by_cases q3:(dX (bH (bK D f m 0 bw).1).1 f m load).2≠0
      · simp only[if_pos q3]
      · rw[if_neg q3,if_neg q3]
        by_cases q4:(cI (dX (bH (bK D f m 0 bw).1).1 f m load).1 f m 0 2 (s.number+1) hL).2≠0
        · simp only[if_pos q4]
        · rw[if_neg q4,if_neg q4]
 clear hR hL0;generalize bK D f m 0 bw=P1 at *;obtain⟨D1,z1⟩:=P1;generalize bH D1=P2 at *;obtain⟨D2,z2⟩:=P2;generalize dX D2 f m load=P3 at *;obtain⟨D3,z3⟩:=P3;generalize cI D3 f m 0 2 (s.number+1) hL=P4 at *;obtain⟨D4,z4⟩:=P4;generalize bH D4=P5 at *;obtain⟨D5,z5⟩:=P5;simp only at hR2 c1 c2 c3 c4 c5;have HR:=aT hR2;have hsum:=nM [load];have hsumc:=fun a n c w=>sum_any a n c [load] w
 generalize fv [load]=sm at *;have HSA:=aT hS;obtain⟨B0,n0,d0,h1,h2,h3,h4,h5,h6⟩:=hS;have x0:=h1.c0;have x1:=h1.c1;have x2:=h1.c2;have x3:=h1.c3;have HX:=aT h1;have HD:=aT hd;have HAX:=aT hax;have HL:=aT hl;have hnn:(s.number == 9223372036854775807)=false:=by rw[af];exact hnum
 have hnw:IntKind.i64.wrap (s.number+1)=s.number+1:=by rw[IntKind.wrap_i64];omega
 have HNB:=aT hnb;unfold maxLen at hcm;clear hR2 h1 h2 h3 h4 h5 h6 hd hax hl a1 a2 b1 b2 f1 f2 p1 p2 hk4 hlen hnb hnum;rcases hsel with ⟨rfl,rfl,hnow⟩ | ⟨rfl,rfl,hnow⟩
 · have hn0:(nowI s.now != 0)=true:=by rw[ag];unfold nowI;split <;> omega
   clear hnow;go_enter Tryz.func264,Tryz.ntmps264;go_wp2_with fail;go_loopw [36] (fun i wr=>i=I 0/\w=wr) (fun i _=>2 - (intOf i).toNat)
   case atStart=>exact⟨rfl,rfl⟩
   case round=>
    obtain⟨rfl,rfl⟩:=hrel;go_upto_region 14 with (first | ((go_at_call 198;go_call (c1 HD.out hs HAX.out) as e w1 ⟨rfl,d1,st1⟩);have D1':=aT d1;have S1:=aT st1;have A1:=aT (HD.out.area HAX.out st1.tch aU);have s1:=st1.size;clear d1 st1) | fail)
    by_cases hz1:z1=0
    rotate_left 1
    · have hne:(z1 != 0)=true:=by rw[ag];exact hz1
      have HZ:=aT hz1;clear hz1;go_wp2
      try rw[Exit.noGoto_ret]
      go_ret;have e9:=HR.out;rw[if_pos HZ.out] at e9;rw[e9];exact⟨rfl,D1'.out,(HSA.out.step HD.out S1.out),S1.out.mono (fun _ e=>aB _ e)⟩
    subst hz1;go_upto_region 17 with (first | ((go_at_call 116;go_call (c2 D1'.out aS A1.out) as e w2 ⟨rfl,d2,st2⟩);have D2':=aT d2;have S2:=aT (S1.out.trans st2);have A2:=aT (HD.out.area HAX.out S2.out.tch aU);have L2:=aT (HL.out.step HD.out S2.out aU);have s2:=S2.out.size;clear d2 st2) | fail)
    by_cases hz2:z2=0
    rotate_left 1
    · have hne:(z2 != 0)=true:=by rw[ag];exact hz2
      have HZ:=aT hz2;clear hz2;go_wp2
      try rw[Exit.noGoto_ret]
      go_ret;have e9:=HR.out;rw[if_neg aZ,if_pos HZ.out] at e9;rw[e9];exact⟨rfl,D2'.out,(HSA.out.step HD.out S2.out),S2.out.mono (fun _ e=>aB _ e)⟩
    subst hz2;go_upto_region 20 with (first | ((go_at_call 296;go_call (c3 D2'.out aS A2.out L2.out) as e w3 ⟨rfl,d3,st3⟩);have D3':=aT d3;have S3:=aT (S2.out.trans st3);have A3:=aT (HD.out.area HAX.out S3.out.tch aU);have L3:=aT (HL.out.step HD.out S3.out aU);have X3:=aT (HD.out.blk HX.out S3.out.tch aU);have s3:=S3.out.size;clear d3 st3) | fail)
    by_cases hz3:z3=0
    rotate_left 1
    · have hne:(z3 != 0)=true:=by rw[ag];exact hz3
      have HZ:=aT hz3;clear hz3;go_wp2
      try rw[Exit.noGoto_ret]
      go_ret;have e9:=HR.out;rw[if_neg aZ,if_neg aZ,if_pos HZ.out] at e9;rw[e9];exact⟨rfl,D3'.out,(HSA.out.step HD.out S3.out),S3.out.mono (fun _ e=>aB _ e)⟩
    subst hz3;have hrl:RB w3 A n load:=L3.out.1;have hhl:=HHL.out;have HRL:=aT hrl;have HHL2:=aT hhl;clear hrl hhl;go_upto_region 23 with (first | (go_at_call 256;go_call (hsumc _ _ _ _ (RBs.one (dP _ _ aZ) (HRL.out.below (B:=w3.heap.size) bc aW) bQ) aU) as e w4 ⟨rfl,rfl⟩) | ((go_at_call 255;go_call (lz sm _ hsum) as e w4 ⟨rfl,hb4⟩);have B4':=bO (a:=w3) (B:=w3.heap.size) bc hb4 br;have s4:=B4'.size;clear hb4) | (refine eu rfl (x:=.tmp 11) (y:=.tmp 72) rfl rfl rfl (t:=358) (cs:=[.int .u8 0,.int .u8 0,.int .u8 0,.int .u8 0]) (xs:=(le4 sm).map bv) (Blk.top _ rfl rfl) size4 iR aZ ew ?_;intro w5 hb5 hg5 hs5;rw[dS _ _ iR] at hb5;have b5:=et (B4'.alloc s4 _) hg5 cR s4;have X5:=aT (X3.out.below b5 X3.out.lt);have r5:=aT (show RB w5 (some ⟨w4.heap.size,0,none⟩) 4 (le4 sm) from (by have:=RB.of_block (l:=le4 sm) hb5 rfl;rw[gV] at this;exact this));have D5':=aT (D3'.out.below b5);have A5':=aT (show bD w5 gx p.d f m from Blk.below A3.out b5 (Blk.lt A3.out));have S5:=aT (S3.out.trans (Step.of_below b5 aS));have s5:=b5.size;have y3:=X5.out.c3;have lg5:=X5.out.lt;clear hb5 hg5 hs5 b5) | fail);go_region_held3 (fun w'=>w'.cell? ⟨g,3,none⟩=some (I s.number)) (first | go_keep | assumption) (first | ((go_at_call 254;go_call (lZ _ _) as e w6 ⟨B6,c6,rfl,o6,b6⟩);have b6q:=bO (a:=w5) (B:=w5.heap.size) bc b6 br;have s6:=b6q.size;have y6:=(b6q.cell (p:=⟨g,3,none⟩) lg5).trans y3;have r6:=r5.out.below b6q aW) | (refine eF rfl rfl cH dg (s:=.tmp 81) (x:=.tmp 82) (N:=12) (L:=hL) rfl o6 rfl (k:=le4 sm) r6.rd (by rfl) HHL2.out.symm bQ aS (by have:=b6.size;omega) ?_;intro A7 c7 w7 hown7 hg7 hat7 hb7;have b7q:=b6q.trans (hb7.mono br);have s7:=b7q.size;have y7:=(b7q.cell (p:=⟨g,3,none⟩) lg5).trans y3;have D7:=D5'.out.below b7q;have A7':bD w7 gx p.d f m:=Blk.below A5'.out b7q (Blk.lt A5'.out);have S7:=aT (S5.out.trans (Step.of_below b7q aS))) | ((go_at_call 115;go_call (c4 D7 aS A7' A7 c7 hown7.rd.rb) as e w8 ⟨rfl,d8,st8⟩);have D8:=aT d8;have S8:=aT (S7.out.trans st8);have A8:=aT (HD.out.area HAX.out S8.out.tch aU);have L8:=aT (HL.out.step HD.out S8.out aU);have X8:=aT (HD.out.blk HX.out S8.out.tch aU);have s8:=S8.out.size;have y8:=X8.out.c3;clear d8 st8 D7 A7' hown7 hg7 hat7 hb7) | fail);go_upto_region 24 with fail
    by_cases hz4:z4=0
    rotate_left 1
    · have hne:(z4 != 0)=true:=by rw[ag];exact hz4
      have HZ:=aT hz4;clear hz4;go_wp2
      try rw[Exit.noGoto_ret]
      go_ret;have e9:=HR.out;rw[if_neg aZ,if_neg aZ,if_neg aZ,if_pos HZ.out] at e9;rw[e9];exact⟨rfl,D8.out,(HSA.out.step HD.out S8.out),S8.out.mono (fun _ e=>aB _ e)⟩
    subst hz4;go_upto_region 27 with (first | ((go_at_call 116;go_call (c5 D8.out aS A8.out) as e w9 ⟨rfl,d9,st9⟩);have D9:=aT d9;have S9:=aT (S8.out.trans st9);have L9:=aT (HL.out.step HD.out S9.out aU);have X9:=aT (HD.out.blk HX.out S9.out.tch aU);have s9:=S9.out.size;clear d9 st9) | fail)
    by_cases hz5:z5=0
    rotate_left 1
    · have hne:(z5 != 0)=true:=by rw[ag];exact hz5
      have HZ:=aT hz5;clear hz5;go_wp2
      try rw[Exit.noGoto_ret]
      go_ret;have e9:=HR.out;rw[if_neg aZ,if_neg aZ,if_neg aZ,if_neg aZ,if_pos HZ.out] at e9;rw[e9];exact⟨rfl,D9.out,(HSA.out.step HD.out S9.out),S9.out.mono (fun _ e=>aB _ e)⟩
    subst hz5;have u2:=X9.out.c2;have u3:=X9.out.c3;have u4:=X9.out.c4;have v2:=X9.out.frozen 2;have v3:=X9.out.frozen 3;have v4:=X9.out.frozen 4;have lg9:=X9.out.lt;have RL9:=aT (show RB w9 A n load from L9.out.1);go_wp2_with fail;go_region_law (first | (refine eF rfl rfl cH dg (s:=.tmp 102) (x:=.tmp 103) (N:=n) (L:=load) rfl (Ow.new _ _ #[] [] rfl aU) rfl (k:=load) (RL9.out.below (B:=w9.heap.size) bc aW).rd aZ aZ bQ aS (by simp;done) ?_;intro A10 c10 w10 hown10 hg10 hat10 hb10;have b10:Below w9.heap.size w9 w10:=((Below.drew (Below.refl w9.heap.size w9)).alloc aW _).trans hb10;have X10:=X9.out.below b10 lg9;have r2:=X10.c2;have r3:=X10.c3;have r4:=X10.c4;have q2:=X10.frozen 2;have q3:=X10.frozen 3;have q4:=X10.frozen 4;have lg10:=X10.lt) | fail)
    all_goals
     have BL:=eq.of_ob (base:=base) (h:=⟨A10,n,c10⟩) hown10;have hsz9:base<=w9.heap.size:=aS;have hcap:=hown10.cap;have FIN:=aT (eJ.sets X10 (D9.out.below b10) hg (by have:=b10.size;omega) BL aS aS hn (oth:=0) (o:=0) rfl aS (s.number+1));have S10:=aT (S9.out.trans (Step.of_below b10 hsz9));clear r2 r3 r4 q2 q3 q4 BL hown10 hg10 hat10 hb10 b10 u2 u3 u4 v2 v3 v4;go_wp2
     try rw[Exit.noGoto_ret]
     go_ret;have e9:=HR.out;rw[if_neg aZ,if_neg aZ,if_neg aZ,if_neg aZ,if_neg aZ] at e9;rw[e9];exact⟨rfl,FIN.out.1,FIN.out.2.1,(S10.out.mono (fun _ e=>aB _ e)).trans FIN.out.2.2⟩
 · have hn0:nowI s.now=0:=by rw[hnow];rfl
   rw[hn0] at x2;clear hnow hn0;go_enter Tryz.func264,Tryz.ntmps264;go_wp2_with fail;go_loopw [36] (fun i wr=>(i=I 0\/i=I 1)/\w=wr) (fun i _=>2 - (intOf i).toNat)
   case atStart=>exact⟨.inl rfl,rfl⟩
   case round=>
    obtain⟨hi,rfl⟩:=hrel;rcases hi with rfl | rfl
    · go_wp2_with fail;go_roundw
      case rel=>exact⟨.inr rfl,trivial⟩
      case measure=>simp[intOf]
    · skip
      go_upto_region 14 with (first | ((go_at_call 198;go_call (c1 HD.out hs HAX.out) as e w1 ⟨rfl,d1,st1⟩);have D1':=aT d1;have S1:=aT st1;have A1:=aT (HD.out.area HAX.out st1.tch aU);have s1:=st1.size;clear d1 st1) | fail)
      by_cases hz1:z1=0
      rotate_left 1
      · have hne:(z1 != 0)=true:=by rw[ag];exact hz1
        have HZ:=aT hz1;clear hz1;go_wp2
        try rw[Exit.noGoto_ret]
        go_ret;have e9:=HR.out;rw[if_pos HZ.out] at e9;rw[e9];exact⟨rfl,D1'.out,(HSA.out.step HD.out S1.out),S1.out.mono (fun _ e=>aB _ e)⟩
      subst hz1;go_upto_region 17 with (first | ((go_at_call 116;go_call (c2 D1'.out aS A1.out) as e w2 ⟨rfl,d2,st2⟩);have D2':=aT d2;have S2:=aT (S1.out.trans st2);have A2:=aT (HD.out.area HAX.out S2.out.tch aU);have L2:=aT (HL.out.step HD.out S2.out aU);have s2:=S2.out.size;clear d2 st2) | fail)
      by_cases hz2:z2=0
      rotate_left 1
      · have hne:(z2 != 0)=true:=by rw[ag];exact hz2
        have HZ:=aT hz2;clear hz2;go_wp2
        try rw[Exit.noGoto_ret]
        go_ret;have e9:=HR.out;rw[if_neg aZ,if_pos HZ.out] at e9;rw[e9];exact⟨rfl,D2'.out,(HSA.out.step HD.out S2.out),S2.out.mono (fun _ e=>aB _ e)⟩
      subst hz2;go_upto_region 20 with (first | ((go_at_call 296;go_call (c3 D2'.out aS A2.out L2.out) as e w3 ⟨rfl,d3,st3⟩);have D3':=aT d3;have S3:=aT (S2.out.trans st3);have A3:=aT (HD.out.area HAX.out S3.out.tch aU);have L3:=aT (HL.out.step HD.out S3.out aU);have X3:=aT (HD.out.blk HX.out S3.out.tch aU);have s3:=S3.out.size;clear d3 st3) | fail)
      by_cases hz3:z3=0
      rotate_left 1
      · have hne:(z3 != 0)=true:=by rw[ag];exact hz3
        have HZ:=aT hz3;clear hz3;go_wp2
        try rw[Exit.noGoto_ret]
        go_ret;have e9:=HR.out;rw[if_neg aZ,if_neg aZ,if_pos HZ.out] at e9;rw[e9];exact⟨rfl,D3'.out,(HSA.out.step HD.out S3.out),S3.out.mono (fun _ e=>aB _ e)⟩
      subst hz3;have hrl:RB w3 A n load:=L3.out.1;have hhl:=HHL.out;have HRL:=aT hrl;have HHL2:=aT hhl;clear hrl hhl;go_upto_region 23 with (first | (go_at_call 256;go_call (hsumc _ _ _ _ (RBs.one (dP _ _ aZ) (HRL.out.below (B:=w3.heap.size) bc aW) bQ) aU) as e w4 ⟨rfl,rfl⟩) | ((go_at_call 255;go_call (lz sm _ hsum) as e w4 ⟨rfl,hb4⟩);have B4':=bO (a:=w3) (B:=w3.heap.size) bc hb4 br;have s4:=B4'.size;clear hb4) | (refine eu rfl (x:=.tmp 11) (y:=.tmp 72) rfl rfl rfl (t:=358) (cs:=[.int .u8 0,.int .u8 0,.int .u8 0,.int .u8 0]) (xs:=(le4 sm).map bv) (Blk.top _ rfl rfl) size4 iR aZ ew ?_;intro w5 hb5 hg5 hs5;rw[dS _ _ iR] at hb5;have b5:=et (B4'.alloc s4 _) hg5 cR s4;have X5:=aT (X3.out.below b5 X3.out.lt);have r5:=aT (show RB w5 (some ⟨w4.heap.size,0,none⟩) 4 (le4 sm) from (by have:=RB.of_block (l:=le4 sm) hb5 rfl;rw[gV] at this;exact this));have D5':=aT (D3'.out.below b5);have A5':=aT (show bD w5 gx p.d f m from Blk.below A3.out b5 (Blk.lt A3.out));have S5:=aT (S3.out.trans (Step.of_below b5 aS));have s5:=b5.size;have y3:=X5.out.c3;have lg5:=X5.out.lt;clear hb5 hg5 hs5 b5) | fail);go_region_held3 (fun w'=>w'.cell? ⟨g,3,none⟩=some (I s.number)) (first | go_keep | assumption) (first | ((go_at_call 254;go_call (lZ _ _) as e w6 ⟨B6,c6,rfl,o6,b6⟩);have b6q:=bO (a:=w5) (B:=w5.heap.size) bc b6 br;have s6:=b6q.size;have y6:=(b6q.cell (p:=⟨g,3,none⟩) lg5).trans y3;have r6:=r5.out.below b6q aW) | (refine eF rfl rfl cH dg (s:=.tmp 81) (x:=.tmp 82) (N:=12) (L:=hL) rfl o6 rfl (k:=le4 sm) r6.rd (by rfl) HHL2.out.symm bQ aS (by have:=b6.size;omega) ?_;intro A7 c7 w7 hown7 hg7 hat7 hb7;have b7q:=b6q.trans (hb7.mono br);have s7:=b7q.size;have y7:=(b7q.cell (p:=⟨g,3,none⟩) lg5).trans y3;have D7:=D5'.out.below b7q;have A7':bD w7 gx p.d f m:=Blk.below A5'.out b7q (Blk.lt A5'.out);have S7:=aT (S5.out.trans (Step.of_below b7q aS))) | ((go_at_call 115;go_call (c4 D7 aS A7' A7 c7 hown7.rd.rb) as e w8 ⟨rfl,d8,st8⟩);have D8:=aT d8;have S8:=aT (S7.out.trans st8);have A8:=aT (HD.out.area HAX.out S8.out.tch aU);have L8:=aT (HL.out.step HD.out S8.out aU);have X8:=aT (HD.out.blk HX.out S8.out.tch aU);have s8:=S8.out.size;have y8:=X8.out.c3;clear d8 st8 D7 A7' hown7 hg7 hat7 hb7) | fail);go_upto_region 24 with fail
      by_cases hz4:z4=0
      rotate_left 1
      · have hne:(z4 != 0)=true:=by rw[ag];exact hz4
        have HZ:=aT hz4;clear hz4;go_wp2
        try rw[Exit.noGoto_ret]
        go_ret;have e9:=HR.out;rw[if_neg aZ,if_neg aZ,if_neg aZ,if_pos HZ.out] at e9;rw[e9];exact⟨rfl,D8.out,(HSA.out.step HD.out S8.out),S8.out.mono (fun _ e=>aB _ e)⟩
      subst hz4;go_upto_region 27 with (first | ((go_at_call 116;go_call (c5 D8.out aS A8.out) as e w9 ⟨rfl,d9,st9⟩);have D9:=aT d9;have S9:=aT (S8.out.trans st9);have L9:=aT (HL.out.step HD.out S9.out aU);have X9:=aT (HD.out.blk HX.out S9.out.tch aU);have s9:=S9.out.size;clear d9 st9) | fail)
      by_cases hz5:z5=0
      rotate_left 1
      · have hne:(z5 != 0)=true:=by rw[ag];exact hz5
        have HZ:=aT hz5;clear hz5;go_wp2
        try rw[Exit.noGoto_ret]
        go_ret;have e9:=HR.out;rw[if_neg aZ,if_neg aZ,if_neg aZ,if_neg aZ,if_pos HZ.out] at e9;rw[e9];exact⟨rfl,D9.out,(HSA.out.step HD.out S9.out),S9.out.mono (fun _ e=>aB _ e)⟩
      subst hz5;have u2:=X9.out.c2;have u3:=X9.out.c3;have u4:=X9.out.c4;have v2:=X9.out.frozen 2;have v3:=X9.out.frozen 3;have v4:=X9.out.frozen 4;have lg9:=X9.out.lt;have RL9:=aT (show RB w9 A n load from L9.out.1);go_wp2_with fail;go_region_law (first | (refine eF rfl rfl cH dg (s:=.tmp 102) (x:=.tmp 103) (N:=n) (L:=load) rfl (Ow.new _ _ #[] [] rfl aU) rfl (k:=load) (RL9.out.below (B:=w9.heap.size) bc aW).rd aZ aZ bQ aS (by simp;done) ?_;intro A10 c10 w10 hown10 hg10 hat10 hb10;have b10:Below w9.heap.size w9 w10:=((Below.drew (Below.refl w9.heap.size w9)).alloc aW _).trans hb10;have X10:=X9.out.below b10 lg9;have r2:=X10.c2;have r3:=X10.c3;have r4:=X10.c4;have q2:=X10.frozen 2;have q3:=X10.frozen 3;have q4:=X10.frozen 4;have lg10:=X10.lt) | fail)
      all_goals
       have BL:=eq.of_ob (base:=base) (h:=⟨A10,n,c10⟩) hown10;have hsz9:base<=w9.heap.size:=aS;have hcap:=hown10.cap;have FIN:=aT (eJ.sets X10 (D9.out.below b10) hg (by have:=b10.size;omega) BL aS aS hn (oth:=1) (o:=1) rfl aS (s.number+1));have S10:=aT (S9.out.trans (Step.of_below b10 hsz9));clear r2 r3 r4 q2 q3 q4 BL hown10 hg10 hat10 hb10 b10 u2 u3 u4 v2 v3 v4;go_wp2
       try rw[Exit.noGoto_ret]
       go_ret;have e9:=HR.out;rw[if_neg aZ,if_neg aZ,if_neg aZ,if_neg aZ,if_neg aZ] at e9;rw[e9];exact⟨rfl,FIN.out.1,FIN.out.2.1,(S10.out.mono (fun _ e=>aB _ e)).trans FIN.out.2.2⟩
theorem save_any (hS:eJ w base g ga gb s)(hd:be w base p D)(hs:base<=w.heap.size)(hg:base<=g)(hal:bD w ga p.d fl ml)(har:bD w gb p.d fr mr)(hml:5<=ml)(hmr:5<=mr)(hfl:fl+ml<=D.many)(hfr:fr+mr<=D.many)
 (hl:eq w base ⟨A,n,c⟩ load) (hc:n<=c) (hcm:c<=maxLen) (hnb:-9223372036854775808<=s.number/\s.number<=9223372036854775807) (hw:D.waits.length<800000) :
 Ca 264 #[.pointer (some ⟨g,0,none⟩),.slice A n c] w fun e w'=>e=.returned (I (dj D fl ml fr mr s load).2.2)/\be w' base p (dj D fl ml fr mr s load).1/\eJ w' base g ga gb (dj D fl ml fr mr s load).2.1/\Step mutS base p w w':=by
 have hlen:load.length=n:=hl.1.1
 by_cases h3:512<load.length\/s.number=9223372036854775807
 · have hR:dj D fl ml fr mr s load=(D,s,3):=by unfold dj;rw[if_pos h3]
   rw[hR];have HS:=aT hS;have HD:=aT hd;obtain⟨B0,n0,d0,h1,_⟩:=hS;have x0:=h1.c0;have x3:=h1.c3;have hcs:512<n\/(n<=512/\s.number=9223372036854775807):=by rw[hlen] at h3;omega
   clear h1 h3 hd hl hal har hR hlen;rcases hcs with q1 | ⟨q1,q2⟩
   · go_enter Tryz.func264,Tryz.ntmps264;go_wp2;go_ret;exact⟨rfl,HD.out,HS.out,Step.refl _ _ _ _⟩
   · have q3:(s.number == 9223372036854775807)=true:=by rw[q2];rfl
     clear q2;go_enter Tryz.func264,Tryz.ntmps264;go_wp2;go_ret;exact⟨rfl,HD.out,HS.out,Step.refl _ _ _ _⟩
 · have hR:dj D fl ml fr mr s load=if (ea D (if s.now=0 then fr else fl) (if s.now=0 then mr else ml) (s.number+1) load).2≠0 then ((ea D (if s.now=0 then fr else fl) (if s.now=0 then mr else ml) (s.number+1) load).1,s,(ea D (if s.now=0 then fr else fl) (if s.now=0 then mr else ml) (s.number+1) load).2)
    else ((ea D (if s.now=0 then fr else fl) (if s.now=0 then mr else ml) (s.number+1) load).1,⟨if s.now=0 then 1 else 0,s.number+1,load⟩,0):=by unfold dj;rw[if_neg h3]
   by_cases hn:s.now=0
   · simp only[if_pos hn] at hR;exact save_main _ 1 gb fr mr (.inr ⟨rfl,rfl,hn⟩) hR hS hd hs hg har hmr hfr hl hc hcm aS aS hnb hw
   · simp only[if_neg hn] at hR;exact save_main _ 0 ga fl ml (.inl ⟨rfl,rfl,hn⟩) hR hS hd hs hg hal hml hfl hl hc hcm aS aS hnb hw
end
def fR (S:aX × SlV3)(i f m:Nat):(aX × SlV3) × Int :=
 if (cd S.1 f m).2.2.2=53 then (((cd S.1 f m).1,S.2),0) else if (cd S.1 f m).2.2.2≠0 then (((cd S.1 f m).1,S.2),(cd S.1 f m).2.2.2)
 else if S.2.now=2\/S.2.number<(cd S.1 f m).2.2.1 then (((cd S.1 f m).1,⟨i,(cd S.1 f m).2.2.1,(cd S.1 f m).2.1⟩),0) else (((cd S.1 f m).1,S.2),0)
def stO (D:aX)(fl ml fr mr:Nat):Nat->(aX × SlV3) × Int
 | 0=>((D,⟨2,0,[]⟩),0)
 | 1=>fR (D,⟨2,0,[]⟩) 0 fl ml
 | _=>fR (fR (D,⟨2,0,[]⟩) 0 fl ml).1 1 fr mr
theorem stO_next0 {S:aX × SlV3}(h:stO D fl ml fr mr 0=(S,0)):stO D fl ml fr mr (0+1)=fR S 0 fl ml:=by
 show fR (stO D fl ml fr mr 0).1 0 fl ml=_
 rw[h]
theorem stO_next1 {S:aX × SlV3}(h:stO D fl ml fr mr 1=(S,0)):stO D fl ml fr mr (1+1)=fR S 1 fr mr:=by
 show fR (stO D fl ml fr mr 1).1 1 fr mr=_
 rw[h]
theorem oD (D:aX)(f m:Nat):fR (D,⟨2,0,[]⟩) 0 f m=(((cd D f m).1,if (cd D f m).2.2.2=0 then ⟨0,(cd D f m).2.2.1,(cd D f m).2.1⟩ else ⟨2,0,[]⟩),if (cd D f m).2.2.2=53 then 0 else (cd D f m).2.2.2):=by
 unfold fR;simp only;generalize cd D f m=W;obtain⟨D1,L,N,e⟩:=W;simp only
 by_cases a:e=53
 · subst a;simp
 · by_cases b:e=0
   · subst b;simp
   · simp[a,b]
theorem openSV_bad (h:(stO D fl ml fr mr 1).2≠0):dq D fl ml fr mr=((stO D fl ml fr mr 1).1.1,⟨2,0,[]⟩,(stO D fl ml fr mr 1).2):=by
 have e1:stO D fl ml fr mr 1=fR (D,⟨2,0,[]⟩) 0 fl ml:=rfl;rw[e1,oD] at h ⊢;unfold dq;generalize cd D fl ml=W at *;obtain⟨D1,L,N,e⟩:=W;simp only at *
 by_cases a:e=53
 · subst a;simp at h
 · rw[if_neg a] at h ⊢;rw[if_pos ⟨h,a⟩]
theorem pY (h1:(stO D fl ml fr mr 1).2=0):((stO D fl ml fr mr 2).2≠0->dq D fl ml fr mr=((stO D fl ml fr mr 2).1.1,⟨2,0,[]⟩,(stO D fl ml fr mr 2).2))/\((stO D fl ml fr mr 2).2=0->dq D fl ml fr mr=((stO D fl ml fr mr 2).1.1,(stO D fl ml fr mr 2).1.2,0)):=by
 have e1:stO D fl ml fr mr 1=fR (D,⟨2,0,[]⟩) 0 fl ml:=rfl;have e2:stO D fl ml fr mr 2=fR (fR (D,⟨2,0,[]⟩) 0 fl ml).1 1 fr mr:=rfl;rw[e1,oD] at h1;rw[e2,oD];unfold dq fR;generalize cd D fl ml=W at *;obtain⟨D1,L,N,e⟩:=W;simp only at *;generalize cd D1 fr mr=W2 at *;obtain⟨D2,L2,N2,e2⟩:=W2;simp only;have he:e=53\/e=0:=by
  by_cases a:e=53
  · exact .inl a
  · rw[if_neg a] at h1;exact .inr h1
 by_cases b53:e2=53
 · subst b53;rcases he with rfl | rfl <;> simp
 · by_cases b0:e2=0
   · subst b0;rcases he with rfl | rfl
     · simp
     · by_cases hc:N<N2
       · have:¬ N2<=N:=aS;simp[hc,this]
       · have:N2<=N:=aS;simp[hc,this]
   · rcases he with rfl | rfl <;> simp[b53,b0]
theorem openSV_bad2 (h1:(stO D fl ml fr mr 1).2=0)(h:(stO D fl ml fr mr 2).2≠0):dq D fl ml fr mr=((stO D fl ml fr mr 2).1.1,⟨2,0,[]⟩,(stO D fl ml fr mr 2).2):=(pY h1).1 h
theorem openSV_good (h1:(stO D fl ml fr mr 1).2=0)(h:(stO D fl ml fr mr 2).2=0):dq D fl ml fr mr=((stO D fl ml fr mr 2).1.1,(stO D fl ml fr mr 2).1.2,0):=(pY h1).2 h
theorem mK (D:aX)(f m:Nat):(cd D f m).1.many=D.many/\(cd D f m).1.waits=D.waits:=by
 have h:(bN D f m 0).1.many=D.many/\(bN D f m 0).1.waits=D.waits:=by
  unfold bN eW
  split
  · exact⟨rfl,rfl⟩
  · split
    · exact⟨rfl,rfl⟩
    · exact⟨rfl,rfl⟩
 have h2:∀ k,(rdK (bN D f m 0).1 k).many=D.many/\(rdK (bN D f m 0).1 k).waits=D.waits:=fun k=>by
  obtain⟨o,e⟩:=gO (bN D f m 0).1 k;rw[e];exact h
 unfold cd
 split
 · exact h
 split
 · exact h
 split
 · exact h
 split
 · exact h2 _
 · exact h2 _
def SOPost (w:World)(base:Nat)(p:bE)(ga gb:Nat)(R:aX × SlV3 × Int)(e:Ending)(w':World):Prop :=
 ∃ P,e=.returned (.tuple #[.pointer P,I R.2.2])/\(R.2.2≠0->P=none)/\(R.2.2=0->∃ g,P=some ⟨g,0,none⟩/\w.heap.size<=g/\eJ w' base g ga gb R.2.1)/\be w' base p R.1/\Step mutD base p w w'
section
variable {w w':World} {base ga gb fl ml fr mr:Nat} {p:bE} {D:aX}
theorem SOPost.no {z:Int}{s:SlV3}(hz:z≠0)(hd:be w' base p D)(hs:Step mutD base p w w'):SOPost w base p ga gb (D,s,z) (.returned (.tuple #[.pointer none,I z])) w' :=
 ⟨none,rfl,fun _=>rfl,fun e=>absurd e hz,hd,hs⟩
theorem sopen_any (hd:be w base p D)(hs:base<=w.heap.size)(hal:bD w ga p.d fl ml)(har:bD w gb p.d fr mr)(hml:5<=ml)(hmr:5<=mr)(hfl:fl+ml<=D.many)(hfr:fr+mr<=D.many) :
 Ca 159 #[.pointer (some ⟨ga,0,none⟩),.pointer (some ⟨gb,0,none⟩)] w (SOPost w base p ga gb (dq D fl ml fr mr)):=by
 have bA:Below w.heap.size w (w.alloc (.cells #[.pointer (some ⟨ga,0,none⟩),.pointer (some ⟨gb,0,none⟩),I (-1),I 0,.slice none 0 0] 336)):=(Below.refl _ _).alloc aW _;have c1:=iE (Blk.below hal bA (Blk.lt hal));have c2:=iE (Blk.below har bA (Blk.lt har));have n1:((ml:Int) == 0)=false:=by rw[af];omega
 have n2:((mr:Int) == 0)=false:=by rw[af];omega
 have BA:=aT bA;have HD0:=aT hd;have HAL:=aT hal;have HAR:=aT har;have SA0:=aT (show eJ (w.alloc (.cells #[.pointer (some ⟨ga,0,none⟩),.pointer (some ⟨gb,0,none⟩),I (-1),I 0,.slice none 0 0] 336)) base w.heap.size ga gb ⟨2,0,[]⟩ from ⟨none,0,0,Blk.top _ rfl rfl,Nat.le_refl _,by decide,⟨⟨rfl,Row.nil _ _ _⟩,by decide,fun h=>absurd h aZ⟩,by decide,aS⟩);have hbad:=aT (fun h=>openSV_bad (D:=D) (fl:=fl) (ml:=ml) (fr:=fr) (mr:=mr) h);have hbad2:=aT (fun h1 h=>openSV_bad2 (D:=D) (fl:=fl) (ml:=ml) (fr:=fr) (mr:=mr) h1 h);have hgood:=aT (fun h1 h=>openSV_good (D:=D) (fl:=fl) (ml:=ml) (fr:=fr) (mr:=mr) h1 h);generalize dq D fl ml fr mr=R at *;clear hal har bA hd;go_enter Tryz.func159,Tryz.ntmps159;go_wp2_with fail;go_loopw [17] (fun i wr=>(i=I 0\/i=I 1\/i=I 2)/\(w.alloc (.cells #[.pointer (some ⟨ga,0,none⟩),.pointer (some ⟨gb,0,none⟩),I (-1),I 0,.slice none 0 0] 336))=wr) (fun i _=>2 - (intOf i).toNat)
 case atStart=>exact⟨.inl rfl,rfl⟩
 case round=>
  obtain⟨hi,rfl⟩:=hrel;rcases hi with rfl | rfl | rfl
  · go_wp2_with (first | (go_at_call 113;go_call (c1) as e w1 ⟨rfl,rfl⟩) | fail);go_roundw
    case rel=>exact⟨.inr (.inl rfl),trivial⟩
    case measure=>simp[intOf]
  · go_wp2_with (first | (go_at_call 113;go_call (c2) as e w1 ⟨rfl,rfl⟩) | fail);go_roundw
    case rel=>exact⟨.inr (.inr rfl),trivial⟩
    case measure=>simp[intOf]
  · go_wp2_with (first | (go_at_call 113;(with_reducible refine (c1).mono ?_);rintro e w1 ⟨rfl,rfl⟩) | (go_at_call 113;(with_reducible refine (c2).mono ?_);rintro e w1 ⟨rfl,rfl⟩) | fail);clear c1 c2 n1 n2;go_loopw [37] (fun i wr=>∃ (k:Nat) (Dk:aX) (s':SlV3),k<=2/\i=I (k:Nat)/\Hid (stO D fl ml fr mr k=((Dk,s'),0))/\(k=2->Hid ((stO D fl ml fr mr 1).2=0))/\Dk.many=D.many/\Dk.waits=D.waits/\be wr base p Dk/\eJ wr base w.heap.size ga gb s'/\Step mutD base p w wr) (fun i _=>2 - (intOf i).toNat)
    case atStart=>exact⟨0,D,⟨2,0,[]⟩,aS,rfl,aT rfl,fun e=>absurd e aS,rfl,rfl,HD0.out.below BA.out,SA0.out,Step.of_below BA.out hs⟩
    case round=>
     obtain⟨k,Dk,s',hk2,rfl,hk,hk1,hmk,hwk,hdk,hsa,hst⟩:=hrel;have hsz:=hst.size;have hal:=HD0.out.area HAL.out hst.tch aU;have har:=HD0.out.area HAR.out hst.tch aU;have hsa2:=hsa;obtain⟨B0,n0,d0,hblk,_⟩:=hsa2;have hkc:k=0\/k=1\/k=2:=aS;rcases hkc with rfl | rfl | rfl
     · skip
       have hwh:=whole_any hdk aS hal hml (by rw[hmk];exact hfl);have x2:=hblk.c2;have x3:=hblk.c3;have x4:=hblk.c4;have xi:=hblk.c0;have HMW:=aT (mK Dk fl ml);have HST8:=aT (show stO D fl ml fr mr (0+1)=fR (Dk,s') 0 fl ml from stO_next0 hk.out);unfold fR at HST8;simp only at HST8;generalize cd Dk fl ml=RW at *;obtain⟨D1,L1,N1,er⟩:=RW;have HDK:=aT hdk;have HBLK:=aT hblk;have HSA:=aT hsa;have HST:=aT hst;clear hdk hblk hsa hst hk hk1;simp only at hwh HST8 HMW
       by_cases he53:er=53
       · subst he53;have HE5:=aT (show stO D fl ml fr mr (0+1)=((D1,s'),0) from by have e9:=HST8.out;rwa [if_pos rfl] at e9);go_wp2_with (first | ((go_at_call 231;go_call (hwh) as e w1 ⟨B,n,d,rfl,hnd,hdm,hn5,hba,hd1,st1⟩);have D1':=aT hd1;have S1:=aT (HST.out.trans st1);have SA1:=aT (HSA.out.step HDK.out st1);clear hd1 st1 hba) | fail);go_roundw
         case rel=>
          first
           | exact⟨0+1,D1,s',aS,by go_num,HE5,fun _=>absurd gU aS,HMW.out.1.trans hmk,HMW.out.2.trans hwk,D1'.out,SA1.out,S1.out⟩
           | ((repeat apply Exists.intro);exact⟨⟨0+1,D1,s',aS,by go_num,HE5,fun _=>absurd gU aS,HMW.out.1.trans hmk,HMW.out.2.trans hwk,D1'.out,SA1.out,S1.out⟩,rfl⟩)
         case measure=>simp[intOf]
       · by_cases he0:er=0
         · subst he0;have HE9:=aT HST8.out
           by_cases h2:s'.now=2
           · rw[show nowI s'.now=-1 from by rw[h2];rfl] at x2;have H22:=aT h2;clear he53 h2;go_wp2_with (first | ((go_at_call 231;go_call (hwh) as e w1 ⟨B,n,d,rfl,hnd,hdm,hn5,hba,hd1,st1⟩);have D1':=aT hd1;have S1:=aT (HST.out.trans st1);have X1:=aT (HDK.out.blk HBLK.out st1.tch aU);have y2:w1.cell? ⟨w.heap.size,2,none⟩=some (I (-1)):=pb;have y3:=X1.out.c3;have y4:=X1.out.c4;have v2:=X1.out.frozen 2;have v3:=X1.out.frozen 3;have v4:=X1.out.frozen 4;have l1:=X1.out.lt;have BA:=aT hba;clear hd1 st1 hba) | fail);have sz1:=S1.out.size;have FIN:=aT (eJ.sets (o:=0) (oth:=0) X1.out D1'.out hs aS BA.out hnd hdm hn5 rfl aS N1);have bF:=aT ((((Below.refl w.heap.size w1).setCell (p:=⟨w.heap.size,2,none⟩) aW (I 0)).setCell (p:=⟨w.heap.size,3,none⟩) aW (I N1)).setCell (p:=⟨w.heap.size,4,none⟩) aW (.slice B n d));go_roundw
             case rel=>
              have e9:=HE9.out;rw[if_neg aZ,if_neg aZ,if_pos (.inl H22.out)] at e9
              first
               | exact⟨0+1,D1,⟨0,N1,L1⟩,aS,by go_num,aT e9,fun _=>absurd gU aS,HMW.out.1.trans hmk,HMW.out.2.trans hwk,FIN.out.1,FIN.out.2.1,S1.out.then_below bF.out hs⟩
               | ((repeat apply Exists.intro);exact⟨⟨0+1,D1,⟨0,N1,L1⟩,aS,by go_num,aT e9,fun _=>absurd gU aS,HMW.out.1.trans hmk,HMW.out.2.trans hwk,FIN.out.1,FIN.out.2.1,S1.out.then_below bF.out hs⟩,rfl⟩)
             case measure=>simp[intOf]
           · have hni:(nowI s'.now == -1)=false:=by rw[af];unfold nowI;rw[if_neg h2];omega
             by_cases hgt:s'.number<N1
             · have H22:=aT h2;clear he53 h2;go_wp2_with (first | ((go_at_call 231;go_call (hwh) as e w1 ⟨B,n,d,rfl,hnd,hdm,hn5,hba,hd1,st1⟩);have D1':=aT hd1;have S1:=aT (HST.out.trans st1);have X1:=aT (HDK.out.blk HBLK.out st1.tch aU);have y2:=X1.out.c2;have y3:=X1.out.c3;have y4:=X1.out.c4;have v2:=X1.out.frozen 2;have v3:=X1.out.frozen 3;have v4:=X1.out.frozen 4;have l1:=X1.out.lt;have BA:=aT hba;clear hd1 st1 hba) | fail);have sz1:=S1.out.size;have FIN:=aT (eJ.sets (o:=0) (oth:=0) X1.out D1'.out hs aS BA.out hnd hdm hn5 rfl aS N1);have bF:=aT ((((Below.refl w.heap.size w1).setCell (p:=⟨w.heap.size,2,none⟩) aW (I 0)).setCell (p:=⟨w.heap.size,3,none⟩) aW (I N1)).setCell (p:=⟨w.heap.size,4,none⟩) aW (.slice B n d));go_roundw
               case rel=>
                have e9:=HE9.out;rw[if_neg aZ,if_neg aZ,if_pos (.inr hgt)] at e9
                first
                 | exact⟨0+1,D1,⟨0,N1,L1⟩,aS,by go_num,aT e9,fun _=>absurd gU aS,HMW.out.1.trans hmk,HMW.out.2.trans hwk,FIN.out.1,FIN.out.2.1,S1.out.then_below bF.out hs⟩
                 | ((repeat apply Exists.intro);exact⟨⟨0+1,D1,⟨0,N1,L1⟩,aS,by go_num,aT e9,fun _=>absurd gU aS,HMW.out.1.trans hmk,HMW.out.2.trans hwk,FIN.out.1,FIN.out.2.1,S1.out.then_below bF.out hs⟩,rfl⟩)
               case measure=>simp[intOf]
             · have H22:=aT h2;have HGT:=aT hgt;clear he53 h2;go_wp2_with (first | ((go_at_call 231;go_call (hwh) as e w1 ⟨B,n,d,rfl,hnd,hdm,hn5,hba,hd1,st1⟩);have D1':=aT hd1;have S1:=aT (HST.out.trans st1);have SA1:=aT (HSA.out.step HDK.out st1);have X1:=aT (HDK.out.blk HBLK.out st1.tch aU);have y2:=X1.out.c2;have y3:=X1.out.c3;clear hd1 st1 hba) | fail);go_roundw
               case rel=>
                have e9:=HE9.out;rw[if_neg aZ,if_neg aZ,if_neg (fun e=>by rcases e with e | e;exact H22.out e;(have:=HGT.out;omega))] at e9
                first
                 | exact⟨0+1,D1,s',aS,by go_num,aT e9,fun _=>absurd gU aS,HMW.out.1.trans hmk,HMW.out.2.trans hwk,D1'.out,SA1.out,S1.out⟩
                 | ((repeat apply Exists.intro);exact⟨⟨0+1,D1,s',aS,by go_num,aT e9,fun _=>absurd gU aS,HMW.out.1.trans hmk,HMW.out.2.trans hwk,D1'.out,SA1.out,S1.out⟩,rfl⟩)
               case measure=>simp[intOf]
         · have hb53:(er == 53)=false:=by rw[af];exact he53
           have hb0:(er != 0)=true:=by rw[ag];exact he0
           have HE53:=aT he53;have HE0:=aT he0;clear he53 he0;go_wp2_with (first | ((go_at_call 231;go_call (hwh) as e w1 ⟨B,n,d,rfl,hnd,hdm,hn5,hba,hd1,st1⟩);have D1':=aT hd1;have S1:=aT (HST.out.trans st1);clear hd1 st1 hba) | fail)
           try rw[Exit.noGoto_ret]
           go_ret2;have e9:=HST8.out;rw[if_neg HE53.out,if_pos HE0.out] at e9
           (have e8:=hbad.out (by rw[show stO D fl ml fr mr 1=_ from e9];exact HE0.out);rw[e8,show stO D fl ml fr mr 1=_ from e9];exact SOPost.no HE0.out D1'.out S1.out)
     · have HK1:=aT (show (stO D fl ml fr mr 1).2=0 from by rw[hk.out]);have hwh:=whole_any hdk aS har hmr (by rw[hmk];exact hfr);have x2:=hblk.c2;have x3:=hblk.c3;have x4:=hblk.c4;have xi:=hblk.c1;have HMW:=aT (mK Dk fr mr);have HST8:=aT (show stO D fl ml fr mr (1+1)=fR (Dk,s') 1 fr mr from stO_next1 hk.out);unfold fR at HST8;simp only at HST8;generalize cd Dk fr mr=RW at *;obtain⟨D1,L1,N1,er⟩:=RW;have HDK:=aT hdk;have HBLK:=aT hblk;have HSA:=aT hsa;have HST:=aT hst;clear hdk hblk hsa hst hk hk1;simp only at hwh HST8 HMW
       by_cases he53:er=53
       · subst he53;have HE5:=aT (show stO D fl ml fr mr (1+1)=((D1,s'),0) from by have e9:=HST8.out;rwa [if_pos rfl] at e9);go_wp2_with (first | ((go_at_call 231;go_call (hwh) as e w1 ⟨B,n,d,rfl,hnd,hdm,hn5,hba,hd1,st1⟩);have D1':=aT hd1;have S1:=aT (HST.out.trans st1);have SA1:=aT (HSA.out.step HDK.out st1);clear hd1 st1 hba) | fail);go_roundw
         case rel=>
          first
           | exact⟨1+1,D1,s',aS,by go_num,HE5,fun _=>HK1,HMW.out.1.trans hmk,HMW.out.2.trans hwk,D1'.out,SA1.out,S1.out⟩
           | ((repeat apply Exists.intro);exact⟨⟨1+1,D1,s',aS,by go_num,HE5,fun _=>HK1,HMW.out.1.trans hmk,HMW.out.2.trans hwk,D1'.out,SA1.out,S1.out⟩,rfl⟩)
         case measure=>simp[intOf]
       · by_cases he0:er=0
         · subst he0;have HE9:=aT HST8.out
           by_cases h2:s'.now=2
           · rw[show nowI s'.now=-1 from by rw[h2];rfl] at x2;have H22:=aT h2;clear he53 h2;go_wp2_with (first | ((go_at_call 231;go_call (hwh) as e w1 ⟨B,n,d,rfl,hnd,hdm,hn5,hba,hd1,st1⟩);have D1':=aT hd1;have S1:=aT (HST.out.trans st1);have X1:=aT (HDK.out.blk HBLK.out st1.tch aU);have y2:w1.cell? ⟨w.heap.size,2,none⟩=some (I (-1)):=pb;have y3:=X1.out.c3;have y4:=X1.out.c4;have v2:=X1.out.frozen 2;have v3:=X1.out.frozen 3;have v4:=X1.out.frozen 4;have l1:=X1.out.lt;have BA:=aT hba;clear hd1 st1 hba) | fail);have sz1:=S1.out.size;have FIN:=aT (eJ.sets (o:=1) (oth:=1) X1.out D1'.out hs aS BA.out hnd hdm hn5 rfl aS N1);have bF:=aT ((((Below.refl w.heap.size w1).setCell (p:=⟨w.heap.size,2,none⟩) aW (I 1)).setCell (p:=⟨w.heap.size,3,none⟩) aW (I N1)).setCell (p:=⟨w.heap.size,4,none⟩) aW (.slice B n d));go_roundw
             case rel=>
              have e9:=HE9.out;rw[if_neg aZ,if_neg aZ,if_pos (.inl H22.out)] at e9
              first
               | exact⟨1+1,D1,⟨1,N1,L1⟩,aS,by go_num,aT e9,fun _=>HK1,HMW.out.1.trans hmk,HMW.out.2.trans hwk,FIN.out.1,FIN.out.2.1,S1.out.then_below bF.out hs⟩
               | ((repeat apply Exists.intro);exact⟨⟨1+1,D1,⟨1,N1,L1⟩,aS,by go_num,aT e9,fun _=>HK1,HMW.out.1.trans hmk,HMW.out.2.trans hwk,FIN.out.1,FIN.out.2.1,S1.out.then_below bF.out hs⟩,rfl⟩)
             case measure=>simp[intOf]
           · have hni:(nowI s'.now == -1)=false:=by rw[af];unfold nowI;rw[if_neg h2];omega
             by_cases hgt:s'.number<N1
             · have H22:=aT h2;clear he53 h2;go_wp2_with (first | ((go_at_call 231;go_call (hwh) as e w1 ⟨B,n,d,rfl,hnd,hdm,hn5,hba,hd1,st1⟩);have D1':=aT hd1;have S1:=aT (HST.out.trans st1);have X1:=aT (HDK.out.blk HBLK.out st1.tch aU);have y2:=X1.out.c2;have y3:=X1.out.c3;have y4:=X1.out.c4;have v2:=X1.out.frozen 2;have v3:=X1.out.frozen 3;have v4:=X1.out.frozen 4;have l1:=X1.out.lt;have BA:=aT hba;clear hd1 st1 hba) | fail);have sz1:=S1.out.size;have FIN:=aT (eJ.sets (o:=1) (oth:=1) X1.out D1'.out hs aS BA.out hnd hdm hn5 rfl aS N1);have bF:=aT ((((Below.refl w.heap.size w1).setCell (p:=⟨w.heap.size,2,none⟩) aW (I 1)).setCell (p:=⟨w.heap.size,3,none⟩) aW (I N1)).setCell (p:=⟨w.heap.size,4,none⟩) aW (.slice B n d));go_roundw
               case rel=>
                have e9:=HE9.out;rw[if_neg aZ,if_neg aZ,if_pos (.inr hgt)] at e9
                first
                 | exact⟨1+1,D1,⟨1,N1,L1⟩,aS,by go_num,aT e9,fun _=>HK1,HMW.out.1.trans hmk,HMW.out.2.trans hwk,FIN.out.1,FIN.out.2.1,S1.out.then_below bF.out hs⟩
                 | ((repeat apply Exists.intro);exact⟨⟨1+1,D1,⟨1,N1,L1⟩,aS,by go_num,aT e9,fun _=>HK1,HMW.out.1.trans hmk,HMW.out.2.trans hwk,FIN.out.1,FIN.out.2.1,S1.out.then_below bF.out hs⟩,rfl⟩)
               case measure=>simp[intOf]
             · have H22:=aT h2;have HGT:=aT hgt;clear he53 h2;go_wp2_with (first | ((go_at_call 231;go_call (hwh) as e w1 ⟨B,n,d,rfl,hnd,hdm,hn5,hba,hd1,st1⟩);have D1':=aT hd1;have S1:=aT (HST.out.trans st1);have SA1:=aT (HSA.out.step HDK.out st1);have X1:=aT (HDK.out.blk HBLK.out st1.tch aU);have y2:=X1.out.c2;have y3:=X1.out.c3;clear hd1 st1 hba) | fail);go_roundw
               case rel=>
                have e9:=HE9.out;rw[if_neg aZ,if_neg aZ,if_neg (fun e=>by rcases e with e | e;exact H22.out e;(have:=HGT.out;omega))] at e9
                first
                 | exact⟨1+1,D1,s',aS,by go_num,aT e9,fun _=>HK1,HMW.out.1.trans hmk,HMW.out.2.trans hwk,D1'.out,SA1.out,S1.out⟩
                 | ((repeat apply Exists.intro);exact⟨⟨1+1,D1,s',aS,by go_num,aT e9,fun _=>HK1,HMW.out.1.trans hmk,HMW.out.2.trans hwk,D1'.out,SA1.out,S1.out⟩,rfl⟩)
               case measure=>simp[intOf]
         · have hb53:(er == 53)=false:=by rw[af];exact he53
           have hb0:(er != 0)=true:=by rw[ag];exact he0
           have HE53:=aT he53;have HE0:=aT he0;clear he53 he0;go_wp2_with (first | ((go_at_call 231;go_call (hwh) as e w1 ⟨B,n,d,rfl,hnd,hdm,hn5,hba,hd1,st1⟩);have D1':=aT hd1;have S1:=aT (HST.out.trans st1);clear hd1 st1 hba) | fail)
           try rw[Exit.noGoto_ret]
           go_ret2;have e9:=HST8.out;rw[if_neg HE53.out,if_pos HE0.out] at e9
           (have e8:=hbad2.out HK1.out (by rw[show stO D fl ml fr mr 2=_ from e9];exact HE0.out);rw[e8,show stO D fl ml fr mr 2=_ from e9];exact SOPost.no HE0.out D1'.out S1.out)
     · have e9:=hgood.out (hk1 rfl).out (by rw[hk.out]);rw[hk.out] at e9;have HE:=aT e9;have HDK:=aT hdk;have HSA:=aT hsa;have HST:=aT hst;clear e9 hdk hsa hst hblk hal har hk;go_wp2
       try rw[Exit.noGoto_ret]
       go_ret2;rw[HE.out];exact⟨_,rfl,fun e=>absurd rfl e,fun _=>⟨_,rfl,Nat.le_refl _,HSA.out⟩,HDK.out,HST.out⟩
end
