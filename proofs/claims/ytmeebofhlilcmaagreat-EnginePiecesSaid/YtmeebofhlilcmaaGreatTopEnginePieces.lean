/- EnginePieces. -/
import Derived.Test.YtmeebofhlilcmaaGreatPr53
set_option maxRecDepth 100000
set_option maxHeartbeats 0
namespace Go.Proofs.YtmeebofhlilcmaaGreat
open Go.RowKit
set_option linter.unusedVariables false
set_option linter.unusedSimpArgs false
theorem progAll_wf {p:PV}(h:ProgAll p):eN p :=
 ⟨fun x hx=>(h.cells x hx).2,fun x hx=>⟨(h.code x hx).2.1.2,(h.code x hx).2.2.1.2,(h.code x hx).2.2.2.1.2,(h.code x hx).2.2.2.2.1,(h.code x hx).2.2.2.2.2⟩⟩
theorem gy.tail {w:World}{B:Option Addr}{k d at_:Nat}{Ls:List (List Int)}(h:gy w B k Ls)(hd:k<=d)(ha:at_<=k):∃ A',(∀ W,(Instr.slice 57 (.slice B k d) (some (I (at_:Int))) none none).run Tryz.prog W=.ok (.slice A' (k - at_) (d - at_)) W)/\gy w A' (k - at_) (Ls.drop at_):=by
 refine⟨_,fun W=>jC ox B k d at_ ha W,?_⟩;obtain⟨hl,hs,hr,hq⟩:=h;refine⟨by rw[aG,hl],hs.drop at_,⟨by rw[aG,hr.1],fun h0=>?_⟩,fun i y Y q1 q2=>?_⟩
 · obtain⟨b,o,e,hb,hc⟩:=hr.2 aS;subst e;rw[if_neg aS];refine⟨b,o+at_,?_,hb,fun i hi=>?_⟩
   · simp[Addr.add]
   · rw[Nat.add_assoc,hc (at_+i) aS];simp only[ag,List.getElem?_map,List.getElem?_drop]
 · rw[List.getElem?_drop] at q1 q2;exact hq _ _ _ q1 q2
end Go.Proofs.YtmeebofhlilcmaaGreat
namespace Go.Proofs.YtmeebofhlilcmaaGreat.enginePieces
open Go.ChangeShapes Go.WideShapes Go.ChangeAt Go.RowKit
set_option linter.unusedVariables false
set_option linter.unusedSimpArgs false
theorem walk_out (x:PA)(p:PV)(B:Option Addr)(k d:Nat)(C:Option Addr)(nc dc:Nat)(w:World)(hp:bZ w x p)(hw:eN p)(hk:k<=maxLen)(hc:nc<=maxLen)
 (h:¬ im x\/(im x/\dG p=false)\/(im x/\dG p=true/\10<k)\/(im x/\dG p=true/\k<=10/\30<nc)) :
 Ca 5 #[.agg #[.slice x.A1 x.n1 x.c1,.slice x.A2 x.n2 x.c2,I p.regs,.slice x.A3 x.n3 x.c3,.slice x.A4 x.n4 x.c4],.slice B k d,.slice C nc dc] w fun e w'=>e=.returned (.bool true)/\Below w.heap.size w w':=by
 unfold maxLen at hk hc;have O:=gN.of hp;have hr:=fun (W:World) (h:bZ W x p)=>pY h
 rcases h with h | ⟨h,h2⟩ | ⟨h,h2,h3⟩ | ⟨h,h2,h3,h4⟩
 case' inl=>have hf:=fun (W:World) (hp:bZ W x p)=>few28_no x p W hp h
 case' inr.inl=>have hf:=fun (W:World) (hp:bZ W x p)=>mJ x p.regs W h;rw[h2] at hr
 case' inr.inr.inl=>have hf:=fun (W:World) (hp:bZ W x p)=>mJ x p.regs W h;rw[h2] at hr
 case' inr.inr.inr=>have hf:=fun (W:World) (hp:bZ W x p)=>mJ x p.regs W h;rw[h2] at hr
 all_goals
  clear h hp;go_enter Tryz.func5,Tryz.ntmps5;go_upto_region 1 with fail;refine dH (fun W=>gN w W w.heap.size x p) O ?_;clear O;intro W O;have HB:=aT O.bel;have HX:=aT O.b;have HP:=aT O.rd;clear O;go_upto_region 3 with (first | ((go_at_call 24;(with_reducible refine (awake38 _).mono ?_);rintro e w1 ⟨rfl,hb1⟩);have B1:=aT (HB.out.trans (hb1.mono HB.out.size));have X1:=aT (HX.out.below hb1 HX.out.lt);have P1:=aT (HP.out.below (b:=W.heap.size) hb1 aV);have l1:=X1.out.lt;clear hb1) | fail);obtain⟨y0,y1,y2,y3,y4⟩:=blk5 X1.out;go_wp2_with (first | ((go_at_call 15;(with_reducible refine (hf _ P1.out).mono ?_);rintro e w2 ⟨rfl,hb2⟩);have B2:=aT (B1.out.trans (hb2.mono B1.out.size));have X2:=aT (X1.out.below hb2 l1);have P2:=aT (P1.out.below (b:=w1.heap.size) hb2 aV);obtain⟨z0,z1,z2,z3,z4⟩:=blk5 X2.out;clear hb2) | ((go_at_call 17;(with_reducible refine (hr _ P2.out).mono ?_);rintro e w3 ⟨rfl,hb3⟩);have B3:=aT (B2.out.trans (hb3.mono B2.out.size));clear hb3) | fail);go_ret
  first
   | exact⟨rfl,B3.out⟩
   | exact⟨rfl,B2.out⟩
theorem walk_main (x:PA)(p:PV)(B:Option Addr)(k d:Nat)(rows:List (List Int))(C:Option Addr)(nc dc:Nat)(cuts:List UInt8)(w:World)(hp:bZ w x p)(hw:eN p)(hv:dG p=true)(hf:im x)(hl:gy w B k rows)(hkd:k<=d)(hi:∀ L ∈ rows,eZ L)(hcu:RB w C nc cuts)(hk:k<=10)(hnc:nc<=30) :
 Ca 5 #[.agg #[.slice x.A1 x.n1 x.c1,.slice x.A2 x.n2 x.c2,I p.regs,.slice x.A3 x.n3 x.c3,.slice x.A4 x.n4 x.c4],.slice B k d,.slice C nc dc] w fun e w'=>e=.returned (.bool true)/\Below w.heap.size w w':=by
 have hlen:=hl.1;have O:=gN.of hp;have hr:=fun {W:World} (h:bZ W x p)=>pY h
 rw[hv] at hr;have hfw:=fun (W:World)=>mJ x p.regs W hf
 have HL:=aT hl;have HI:=aT hi;have HC:=aT hcu;have HPP:=aT hp;have V:=aT (show Env p 10 ((nc:Int) % 4+1) 31 from Env.of hv hw aS aS rfl aS aS);have hrt:=fD.1 V.out.w.ins;have hx1:=aj hp.k1.1 hp.k1.2;clear hp hl hi hcu hw hv;go_enter Tryz.func5,Tryz.ntmps5;go_upto_region 1 with fail;refine dH (fun W=>gN w W w.heap.size x p) O ?_;clear O;intro W O;have HB:=aT O.bel;have HX:=aT O.b;have HP:=aT O.rd;clear O;go_upto_region 3 with (first | ((go_at_call 24;(with_reducible refine (awake38 _).mono ?_);rintro e w1 ⟨rfl,hb1⟩);have B1:=aT (HB.out.trans (hb1.mono HB.out.size));have X1:=aT (HX.out.below hb1 HX.out.lt);have P1:=aT (HP.out.below (b:=W.heap.size) hb1 aV);have l1:=X1.out.lt;clear hb1) | fail);obtain⟨y0,y1,y2,y3,y4⟩:=blk5 X1.out;go_wp2_with (first | ((go_at_call 15;(with_reducible refine (hfw _).mono ?_);rintro e w2 ⟨rfl,hb2⟩);have B2:=aT (B1.out.trans (hb2.mono B1.out.size));have X2:=aT (X1.out.below hb2 l1);have P2:=aT (P1.out.below (b:=w1.heap.size) hb2 aV);obtain⟨z0,z1,z2,z3,z4⟩:=blk5 X2.out;have l2:=X2.out.lt;clear hb2) | ((go_at_call 17;(with_reducible refine (hr P2.out).mono ?_);rintro e w3 ⟨rfl,hb3⟩);have B3:=aT (B2.out.trans (hb3.mono B2.out.size));have X3:=aT (X2.out.below hb3 l2);have P3:=aT (P2.out.below (b:=w2.heap.size) hb3 aV);have l3:=X3.out.lt;clear hb3) | fail);clear y0 y1 y2 y3 y4 z0 z1 z2 z3 z4;have y0:=X3.out.c0;go_loopw [52] (fun i wr=>∃ j:Nat,j<=k/\i=I (j:Nat)/\Hid (∀ t L,t<j->rows[t]?=some L->cx p.ins L=true)/\wr=w3) (fun i _=>k - (intOf i).toNat)
 case atStart=>exact⟨0,aS,rfl,fun t L h=>absurd h aS,rfl⟩
 case round=>
  obtain⟨j,hj,rfl,hall,rfl⟩:=hrel
  rename World=>wq
  by_cases hlt:j<k
  · obtain⟨b,o,Bi,ni,di,L,rfl,hbl,hcell,hrow,hri,hnm⟩:=(HL.out.below B3.out aV).at_ hlt;have hrf:=oR x.A1 Bi x.n1 ni x.c1 di p.ins L wq P3.out.r1 hri hx1 hnm;unfold maxLen at hnm;have HROW:=aT hrow;clear hri hrow
    by_cases h1:20<ni
    · go_wp2_with fail;go_ret;exact⟨rfl,B3.out⟩
    · cases hfb:cx p.ins L with
      | false=>
        rw[hfb] at hrf;go_wp2_with (first | (go_at_call 30;(with_reducible refine (hrf).mono ?_);rintro e w4 ⟨rfl,rfl⟩) | fail);go_ret;exact⟨rfl,B3.out⟩
      | true=>
        rw[hfb] at hrf;have hnx:=aT (show ∀ t L,t<j+1->rows[t]?=some L->cx p.ins L=true from fun t L' ht hL'=>by
         rcases aw t j with q | q
         · exact hall.out t L' q hL'
         · have:=HROW.out;rw[show t=j by omega,this] at hL';injection hL' with e;rw[<- e];exact hfb)
        clear hfb;go_wp2_with (first | (go_at_call 30;(with_reducible refine (hrf).mono ?_);rintro e w4 ⟨rfl,rfl⟩) | fail);go_roundw
        case rel=>first
         | exact⟨j+1,aS,by go_num,hnx.out,(by trivial)⟩
         | ((repeat apply Exists.intro);exact⟨⟨j+1,aS,by go_num,hnx.out,(by trivial)⟩,rfl⟩)
        case measure=>simp[intOf];omega
  · have hk9:j=k:=aS;subst hk9;have hRok:=aT (show eH p.ins rows from ⟨fun L hL=>by
     obtain⟨t,ht,e⟩:=List.getElem_of_mem hL;exact hall.out t L aS (by rw[ap ht,e]),fun L hL=>HI.out L hL⟩)
    clear hall;have s1:=B3.out.size;have cnew:Ca 28 #[I 31,I 31] wq fun e' w'=>∃ q,e'=.returned (.tuple #[.pointer (some ⟨q.d,0,none⟩),I 0])/\br w' wq.heap.size q (newV 31 31)/\Below wq.heap.size wq w':=t_new (many:=31) wq aS aS
    have hrn:=rest_new (many:=31) aS aS;have hmn:(newV 31 31).many=31:=rfl;have hcn:(newV 31 31).cut=-1:=rfl;have cF:=fun {W:World} {base:Nat} {q:bJ} (hd:br W base q (newV 31 31)) (hs:base<=W.heap.size) (hx:bZ W x p)=>c_format V.out hd hrn hmn hcn hs hx
    have PA:=aT (show ∀ W,Below wq.heap.size wq W->et W wq.heap.size x p from fun W hb=>et.old (base:=wq.heap.size) P3.out hb aV);clear hrn hmn hcn;generalize newV 31 31=D0 at *;go_upto_region 12 with (first | ((go_at_call 28;(with_reducible refine (cnew).mono ?_);rintro e w4 ⟨q,rfl,d4,b4⟩);have D4:=aT d4;have B4:=aT b4;have z4:=b4.size;clear d4 b4) | fail);obtain⟨y0,y1,y2,y3,y4⟩:=blk5 (X3.out.below B4.out l3);go_upto_region 14 with (first | ((go_at_call 27;(with_reducible refine (cF D4.out z4 (PA.out _ B4.out).rd).mono ?_);rintro e w5 ⟨rfl,r5,s5⟩);have R5:=aT r5;have B5:=aT (B4.out.trans s5.bel);clear r5 s5) | fail);clear y0 y1 y2 y3 y4;obtain⟨y0,y1,y2,y3,y4⟩:=blk5 (X3.out.below B5.out l3);go_upto_region 17 with (first | ((go_at_call 25;(with_reducible refine (c_open V.out R5.out (PA.out _ B5.out) aS rfl).mono ?_);rintro e w6 ⟨g6,rep6,rfl,o6,s6⟩);have O6:=aT o6;have B6:=aT (B5.out.trans s6.bel);clear o6 s6) | fail);clear y0 y1 y2 y3 y4 cnew cF R5 D4;have hk9:=hk;have cS:=aT (show ∀ (c t tick:Nat) (l:List Int),rows[t]?=some l->∀ (W:World) (A:Option Addr) (n dd:Nat),RI W A n l->n<=maxLen->StOn W wq.heap.size q g6 p 10 c ((nc:Int) % 4+1) 31 true (rows.take t) tick rep6 ->
     Ca 31 #[.pointer (some ⟨g6,0,none⟩),.slice A n dd] W fun e' w'=>e'=.returned (.tuple #[I (t:Nat),I 0])/\StOn w' wq.heap.size q g6 p 10 c ((nc:Int) % 4+1) 31 true (rows.take (t+1)) tick rep6/\Step mutE wq.heap.size q W w' from by
     intro c t tick l hl W A n dd hri hn hO;have hm:=List.mem_of_getElem? hl;have ht:t<rows.length:=(List.getElem?_eq_some_iff.1 hl).1;have htl:(rows.take t).length=t:=by rw[aA];omega
     have:=mI V.out hO A n dd l hri hn (HI.out l hm) (hRok.out.fits l hm) (by rw[htl];omega);rw[htl,show rows.take t ++ [l]=rows.take (t+1) from by rw[List.take_add_one,hl];rfl] at this;exact this)
    have HT0:=aT (show rows.take 0=[] from rfl);go_wp2_with fail;go_loopw [13,93] (fun a i wr=>∃ (jc a9 c tick:Nat),jc<=nc/\a9<=j/\i=I (jc:Nat)/\a=I (a9:Nat)/\c<=5000 * jc+5000/\Hid (StOn wr wq.heap.size q g6 p 10 c ((nc:Int) % 4+1) 31 true (rows.take a9) tick rep6)/\Hid (Below wq.heap.size wq wr)) (fun _ i _=>nc - (intOf i).toNat)
    case atStart=>exact⟨0,0,0+2000,0,aS,by omega,rfl,rfl,aS,(by rw[HT0.out];exact O6.out),B6.out⟩
    case round=>
     clear O6 B6;obtain⟨jc,a9,c,tick,hjc,ha9,rfl,rfl,hcb,hO,hB⟩:=hrel;have BW:=aT (B3.out.trans (hB.out.mono s1))
     by_cases hlc:jc<nc
     · obtain⟨bc,oc,rfl,hbc,hcc⟩:=(HC.out.below BW.out aV).at_ hlc;have hcb9:=gO cuts jc;generalize bC cuts jc=cb at *
       by_cases hA:cb % 3=0/\a9<j
       · obtain⟨h3,hlt⟩:=hA;obtain⟨b,o,Bi,ni,di,L,rfl,hbl,hcell,hrow,hri,hnm⟩:=(HL.out.below BW.out aV).at_ hlt;have ct:=cS.out c a9 tick L hrow wr Bi ni di hri hnm hO.out;have e3:(((cb:Int) % 3:Int) == 0)=true:=by rw[beq_iff_eq];omega
         clear hri hrow h3;go_wp2_with (first | ((go_at_call 31;(with_reducible refine (ct).mono ?_);rintro e w7 ⟨rfl,o7,s7⟩);have O7:=aT o7;have B7:=aT (hB.out.trans s7.bel);clear o7 s7) | fail);go_roundw
         case rel=>first
          | exact⟨jc+1,a9+1,c,tick,aS,by omega,by go_num,by go_num,aS,O7.out,B7.out⟩
          | ((repeat apply Exists.intro);exact⟨⟨jc+1,a9+1,c,tick,aS,by omega,by go_num,by go_num,aS,O7.out,B7.out⟩,rfl⟩)
         case measure=>simp[intOf];omega
       · by_cases h3:cb % 3=0
         · have e3:(((cb:Int) % 3:Int) == 0)=true:=by rw[beq_iff_eq];omega
           have ha:a9=j:=aS;subst ha;clear h3 hA
           by_cases h7:cb % 7=1
           · have e7:(((cb:Int) % 7:Int) == 1)=true:=by rw[beq_iff_eq];omega
             clear h7;go_upto_region 28 with (first | ((go_at_call 32;(with_reducible refine (c_save V.out hO.out aS).mono ?_);rintro e w8 ⟨rfl,o8,s8⟩);have O8:=aT o8;have B8:=aT (hB.out.trans s8.bel);clear o8 s8) | fail);obtain⟨n,hn1,hn2⟩:∃ n:Nat,min ((cb:Int) % 5) (((rows.take a9).length:Int) - tick)=(n:Int)/\(n:Int)<=(cb:Int) % 5:=by
              have htl:(rows.take a9).length=a9:=by rw[aA];omega
              have:=(O8).out.le.1;rw[htl] at this ⊢;exact⟨min (cb % 5) (a9 - tick),aS,aS⟩
             have cR:=c_run V.out (O8).out ((cb:Int) % 5) aS aS n hn1;have d5:decide ((n:Int) > (cb:Int) % 5)=false:=ah aS;clear hn1 hn2;go_wp2_with (first | ((go_at_call 33;(with_reducible refine (cR).mono ?_);rintro e w9 ⟨rfl,o9,s9⟩);have O9:=aT o9;have B9:=aT ((B8.out).trans s9.bel);clear o9 s9) | fail);go_roundw
             case rel=>first
              | exact⟨jc+1,a9,c+2000+2000,tick+n,aS,ha9,by go_num,rfl,aS,O9.out,B9.out⟩
              | ((repeat apply Exists.intro);exact⟨⟨jc+1,a9,c+2000+2000,tick+n,aS,ha9,by go_num,rfl,aS,O9.out,B9.out⟩,rfl⟩)
             case measure=>simp[intOf];omega
           · have e7:(((cb:Int) % 7:Int) == 1)=false:=by rw[ae];omega
             clear h7;go_upto_region 28 with fail;obtain⟨n,hn1,hn2⟩:∃ n:Nat,min ((cb:Int) % 5) (((rows.take a9).length:Int) - tick)=(n:Int)/\(n:Int)<=(cb:Int) % 5:=by
              have htl:(rows.take a9).length=a9:=by rw[aA];omega
              have:=(hO).out.le.1;rw[htl] at this ⊢;exact⟨min (cb % 5) (a9 - tick),aS,aS⟩
             have cR:=c_run V.out (hO).out ((cb:Int) % 5) aS aS n hn1;have d5:decide ((n:Int) > (cb:Int) % 5)=false:=ah aS;clear hn1 hn2;go_wp2_with (first | ((go_at_call 33;(with_reducible refine (cR).mono ?_);rintro e w9 ⟨rfl,o9,s9⟩);have O9:=aT o9;have B9:=aT ((hB.out).trans s9.bel);clear o9 s9) | fail);go_roundw
             case rel=>first
              | exact⟨jc+1,a9,c+2000,tick+n,aS,ha9,by go_num,rfl,aS,O9.out,B9.out⟩
              | ((repeat apply Exists.intro);exact⟨⟨jc+1,a9,c+2000,tick+n,aS,ha9,by go_num,rfl,aS,O9.out,B9.out⟩,rfl⟩)
             case measure=>simp[intOf];omega
         · have e3:(((cb:Int) % 3:Int) == 0)=false:=by rw[ae];omega
           clear h3 hA
           by_cases h7:cb % 7=1
           · have e7:(((cb:Int) % 7:Int) == 1)=true:=by rw[beq_iff_eq];omega
             clear h7;go_upto_region 28 with (first | ((go_at_call 32;(with_reducible refine (c_save V.out hO.out aS).mono ?_);rintro e w8 ⟨rfl,o8,s8⟩);have O8:=aT o8;have B8:=aT (hB.out.trans s8.bel);clear o8 s8) | fail);obtain⟨n,hn1,hn2⟩:∃ n:Nat,min ((cb:Int) % 5) (((rows.take a9).length:Int) - tick)=(n:Int)/\(n:Int)<=(cb:Int) % 5:=by
              have htl:(rows.take a9).length=a9:=by rw[aA];omega
              have:=(O8).out.le.1;rw[htl] at this ⊢;exact⟨min (cb % 5) (a9 - tick),aS,aS⟩
             have cR:=c_run V.out (O8).out ((cb:Int) % 5) aS aS n hn1;have d5:decide ((n:Int) > (cb:Int) % 5)=false:=ah aS;clear hn1 hn2;go_wp2_with (first | ((go_at_call 33;(with_reducible refine (cR).mono ?_);rintro e w9 ⟨rfl,o9,s9⟩);have O9:=aT o9;have B9:=aT ((B8.out).trans s9.bel);clear o9 s9) | fail);go_roundw
             case rel=>first
              | exact⟨jc+1,a9,c+2000+2000,tick+n,aS,ha9,by go_num,rfl,aS,O9.out,B9.out⟩
              | ((repeat apply Exists.intro);exact⟨⟨jc+1,a9,c+2000+2000,tick+n,aS,ha9,by go_num,rfl,aS,O9.out,B9.out⟩,rfl⟩)
             case measure=>simp[intOf];omega
           · have e7:(((cb:Int) % 7:Int) == 1)=false:=by rw[ae];omega
             clear h7;go_upto_region 28 with fail;obtain⟨n,hn1,hn2⟩:∃ n:Nat,min ((cb:Int) % 5) (((rows.take a9).length:Int) - tick)=(n:Int)/\(n:Int)<=(cb:Int) % 5:=by
              have htl:(rows.take a9).length=a9:=by rw[aA];omega
              have:=(hO).out.le.1;rw[htl] at this ⊢;exact⟨min (cb % 5) (a9 - tick),aS,aS⟩
             have cR:=c_run V.out (hO).out ((cb:Int) % 5) aS aS n hn1;have d5:decide ((n:Int) > (cb:Int) % 5)=false:=ah aS;clear hn1 hn2;go_wp2_with (first | ((go_at_call 33;(with_reducible refine (cR).mono ?_);rintro e w9 ⟨rfl,o9,s9⟩);have O9:=aT o9;have B9:=aT ((hB.out).trans s9.bel);clear o9 s9) | fail);go_roundw
             case rel=>first
              | exact⟨jc+1,a9,c+2000,tick+n,aS,ha9,by go_num,rfl,aS,O9.out,B9.out⟩
              | ((repeat apply Exists.intro);exact⟨⟨jc+1,a9,c+2000,tick+n,aS,ha9,by go_num,rfl,aS,O9.out,B9.out⟩,rfl⟩)
             case measure=>simp[intOf];omega
     · have hk9:jc=nc:=aS;subst hk9;obtain⟨A',hcut,hlr⟩:=HL.out.tail hkd ha9;have HLR:=aT hlr;clear hlr;have HTL:=aT (show rows.take j=rows from au aS);go_wp2_with fail
       rename World=>wz
       go_loopw [154] (fun i wv=>∃ t:Nat,t<=j - a9/\i=I (t:Nat)/\Hid (StOn wv wq.heap.size q g6 p 10 c ((jc:Int) % 4+1) 31 true (rows.take (a9+t)) tick rep6)/\Hid (Below wq.heap.size wq wv)) (fun i _=>(j - a9) - (intOf i).toNat)
       case atStart=>exact⟨0,aS,rfl,hO.out,hB.out⟩
       case round=>
        clear hO hB BW;obtain⟨t,ht,rfl,hO,hB⟩:=hrel;have BW:=aT (B3.out.trans (hB.out.mono s1))
        by_cases hlt:t<j - a9
        · obtain⟨b,o,Bi,ni,di,L,rfl,hbl,hcell,hrow,hri,hnm⟩:=(HLR.out.below BW.out aV).at_ hlt;rw[List.getElem?_drop] at hrow;have ct:=cS.out c (a9+t) tick L hrow wr Bi ni di hri hnm hO.out;clear hri hrow;go_wp2_with (first | ((go_at_call 31;(with_reducible refine (ct).mono ?_);rintro e w7 ⟨rfl,o7,s7⟩);have O7:=aT o7;have B7:=aT (hB.out.trans s7.bel);clear o7 s7) | fail);go_roundw
          case rel=>first
           | exact⟨t+1,aS,by go_num,O7.out,B7.out⟩
           | ((repeat apply Exists.intro);exact⟨⟨t+1,aS,by go_num,O7.out,B7.out⟩,rfl⟩)
          case measure=>simp[intOf];omega
        · have hk8:a9+t=j:=aS;have O8:=aT (show StOn wr wq.heap.size q g6 p 10 c ((jc:Int) % 4+1) 31 true rows tick rep6 from by have:=hO.out;rw[hk8,HTL.out] at this;exact this);have htk:=O8.out.le.1;rw[hlen] at htk;have hsum:tick+(j - tick)=j:=aS;have cR:=c_run V.out O8.out (j:Nat) aS aS (j - tick) (by rw[hlen];omega);rw[hsum] at cR;have cT:=fun {W:World} {pace rep:Int} {c:Nat} (h:StOn W wq.heap.size q g6 p 10 c pace 31 true rows j rep)=>(show Ca 29 #[.pointer (some ⟨g6,0,none⟩)] W fun e' w'=>∃ pa sv,e'=.returned (.agg #[I (j:Nat),I (j:Nat),I (j:Nat),I pa,I rep,I sv])/\Below W.heap.size W w' from
           (t_stat h).mono fun e' w' ⟨pa,sv,a,_,_,_,_,_,b⟩=>⟨pa,sv,by rw[a,hlen],b⟩)
          have hfd:=fun pa rep sv W=>statf2 (j:Nat) (j:Nat) (j:Nat) pa rep sv W
          clear hk8 htk hsum cS hO;go_upto_region 43 with (first | ((go_at_call 33;(with_reducible refine (cR).mono ?_);rintro e w9 ⟨rfl,o9,s9⟩);have O9:=aT o9;have B9:=aT (hB.out.trans s9.bel);clear o9 s9) | ((go_at_call 34;(with_reducible refine (outputs_any V.out O9.out).mono ?_);rintro e w10 ⟨A10,c10,rfl,r10,o10,s10⟩);have O10:=aT o10;have R10:=aT r10;have B10:=aT (B9.out.trans s10.bel);clear o10 s10 r10) | fail);obtain⟨y0,y1,y2,y3,y4⟩:=blk5 (X3.out.below B10.out l3);have P10:=aT (P3.out.below (b:=wq.heap.size) B10.out aV);have C10:=aT (B3.out.trans (B10.out.mono s1));go_upto_region 44 with (first | ((go_at_call 35;(with_reducible refine (refrows_any V.out.g hRok.out P10.out _ j d (HL.out.below C10.out aV) aS).mono ?_);rintro e w11 ⟨A11,c11,A12,n12,c12,rfl,r11,o11,b11⟩);have R11:=aT (R10.out.below b11);have Q11:=aT r11;have O11:=aT (O10.out.below b11);have B11:=aT (C10.out.trans (b11.mono C10.out.size));clear r11 o11 b11) | fail);have hsame:=rowssame_any A10 A11 j j c10 c11 _ _ w11 R11.out.rd Q11.out.rd bO bO;rw[am (rfl:cM p rows j=cM p rows j)] at hsame;go_wp2_with (first | ((go_at_call 36;(with_reducible refine (hsame).mono ?_);rintro e w12 ⟨rfl,b12⟩);have O12:=aT (O11.out.below b12);have B12:=aT (B11.out.trans (b12.mono B11.out.size));clear b12) | ((go_at_call 29;(with_reducible refine (cT O12.out).mono ?_);rintro e w13 ⟨pa,sv,rfl,b13⟩);have B13:=aT (B12.out.trans (b13.mono B12.out.size));clear b13) | fail);go_ret;exact⟨rfl,B13.out⟩
theorem walk (w:World)(v0:Value)(x0:∃ x p,v0=.agg #[.slice x.A1 x.n1 x.c1,.slice x.A2 x.n2 x.c2,I p.regs,.slice x.A3 x.n3 x.c3,.slice x.A4 x.n4 x.c4]/\bZ w x p/\ProgAll p)(v1:Value)(x1:∃ A n c l,v1=.slice A n c/\gy w A n l/\n<=c/\c<=maxLen/\∀ L ∈ l,eZ L)(C:Option Addr)(nc dc:Nat)(cuts:List UInt8)(r2:RB w C nc cuts)(nd2:nc<=dc)(dm2:dc<=maxLen) :
 Ca 5 #[v0,v1,.slice C nc dc] w fun e w'=>e=.returned (.bool true)/\Below w.heap.size w w':=by
 obtain⟨x,p,rfl,hp,hpa⟩:=x0;obtain⟨B,k,d,rows,rfl,hl,hkd,hdm,hi⟩:=x1;have hw:=progAll_wf hpa
 by_cases h:¬ im x\/(im x/\dG p=false)\/(im x/\dG p=true/\10<k)\/(im x/\dG p=true/\k<=10/\30<nc)
 · exact walk_out x p B k d C nc dc w hp hw aS aS h
 · have hf:=Classical.byContradiction fun q=>h (.inl q)
   have hv:dG p=true:=by
    cases hb:dG p with
    | true=>rfl
    | false=>exact absurd (.inr (.inl ⟨hf,hb⟩)) h
   have hk:k<=10:=by
    by_cases q:k<=10
    · exact q
    · exact absurd (.inr (.inr (.inl ⟨hf,hv,aS⟩))) h
   have hn:nc<=30:=by
    by_cases q:nc<=30
    · exact q
    · exact absurd (.inr (.inr (.inr ⟨hf,hv,hk,aS⟩))) h
   exact walk_main x p B k d rows C nc dc cuts w hp hw hv hf hl hkd hi r2 hk hn
theorem own:ownKnob Tryz.prog.godebug=none:=by kernel_rfl
theorem laidOut:laidOutB Tryz.prog=true:=by kernel_rfl
theorem lifted (os:Os)(started:os.Started)(H:Type)(enc:TypeId × Value->H) :
 ReturnsInHanded {} Tryz.checked os 5 .any (Rows.enginePiecesSpec.pre6 enc Tryz.prog Tryz.f5 Rows.enginePiecesRow.domain false) (Rows.enginePiecesSpec.post enc Tryz.prog Tryz.f5 false true false false):=by
 refine returnsInHanded_of_change (C:=Tryz.checked) own started bQ Tryz.func5
  (ChangeSpec.witness6 (enc:=enc) (C:=Tryz.checked) false ⟨#[],#[.agg #[.slice none 0 0,.slice none 0 0,I 0,.slice none 0 0,.slice none 0 0],.slice none 0 0,.slice none 0 0],[]⟩ 8 bQ bQ bQ bQ) ?_
 intro W base args ds gs before hval0 hW hcnd _;have hval:∀ (j:Nat) t v,Tryz.f5.params[j]?=some t->args[j]?=some v->Value.okWide Tryz.prog W .any base t v:=hval0;have hW':=hW;obtain⟨p,q,hA0,hV,rfl,hfz,hnd⟩:=hW;have hA:DataW.TrodAll enc Tryz.prog W 0 (fun _=>true) true Tryz.f5.params.toList args.toList ds p:=hA0;rw[Tryz.params5] at hA hval;obtain⟨v0,qw,d0,ds0,p0,q0,hargs,rfl,rfl,h0,rr0⟩:=trodAll_cons hA;obtain⟨v1,qx,d1,ds1,p1,q1,rfl,rfl,rfl,h1,rr1⟩:=trodAll_cons rr0;obtain⟨v2,qy,d2,ds2,p2,q2,rfl,rfl,rfl,h2,rr2⟩:=trodAll_cons rr1;obtain⟨rfl,rfl,rfl⟩:=trodAll_nil rr2;obtain rfl:args=#[v0,v1,v2]:=by cases args;simp_all
 obtain⟨rfl,rfl⟩:=trodVars_none hV;have k0:=h0;have lt0:∀ x ∈ p0,x.block<W.heap.size:=by obtain⟨m,hm⟩:=k0;exact DataW.trod_lt m _ _ _ hm
 have x0:=args_prog (hval 0 26 v0 rfl rfl) h0;have k1:=h1;have lt1:∀ x ∈ p1,x.block<W.heap.size:=by obtain⟨m,hm⟩:=k1;exact DataW.trod_lt m _ _ _ hm
 have x1:=args_rows (hval 1 57 v1 rfl rfl) h1;have k2:=h2;have lt2:∀ x ∈ p2,x.block<W.heap.size:=by obtain⟨m,hm⟩:=k2;exact DataW.trod_lt m _ _ _ hm
 obtain⟨A2,n2,c2,l2,rfl,r2,nc2,cm2⟩:=args_bytes Tryz.underlying27 Tryz.underlying5 bQ (hval 2 27 v2 rfl rfl) h2;clear hA0 hval0;refine (walk W v0 x0 v1 x1 A2 n2 c2 l2 r2 nc2 cm2).mono fun e W' ⟨he,bel⟩=>?_
 subst he;exact⟨_,rfl,_,_,_,[],_,[],hW',trodAll_mk1 (shut_bool Tryz.underlying4 _),(trodAll_cons_mk (Below.trod laidOut bQ (of_decide_eq_true bQ) k0 bel lt0) (trodAll_cons_mk (Below.trod laidOut bQ (of_decide_eq_true bQ) k1 bel lt1) (trodAll_cons_mk (Below.trod laidOut bQ (of_decide_eq_true bQ) k2 bel lt2) trodAll_mk0))),rfl,bel.frame _,fun h=>by cases h⟩
theorem cInPlace:(Rows.enginePiecesRow.inPlace == Tryz.prog.inPlace 5)=true:=by kernel_rfl
theorem cUnfollowed:(Rows.enginePiecesRow.unfollowed == Tryz.prog.unfollowed 5)=true:=by kernel_rfl
theorem cRecurses:(Rows.enginePiecesRow.recurses == Tryz.prog.recurses 5)=true:=by kernel_rfl
theorem cNamed:(Rows.enginePiecesRow.named == Tryz.prog.varsNamed 5)=true:=by kernel_rfl
theorem closed:joinedFacts Tryz.prog 5 Tryz.f5 Rows.enginePiecesSpec Rows.enginePiecesRow=true:=by
 unfold joinedFacts;rw[cInPlace,cUnfollowed,cRecurses,cNamed]
 kernel_rfl
theorem over:Rows.enginePiecesRow.holds Tryz.pinned (OpenSpec.ofChange Rows.enginePiecesSpec) :=
 OpenClaim.holds_of_wide 5 Tryz.f5 rfl rfl rfl rfl rfl rfl rfl ⟨rfl,rfl,rfl,rfl,rfl⟩ rfl rfl rfl rfl rfl bQ Tryz.func5 closed
  (of_decide_eq_true bQ) (by unfold Func.isWrapper;first | (rw[if_pos bV];kernel_rfl) | (rw[if_neg bV];exact⟨rfl,rfl⟩))
  (fun os started H enc _=>lifted os started H enc)
theorem proved:Rows.EnginePiecesSaid:=over
end Go.Proofs.YtmeebofhlilcmaaGreat.enginePieces
