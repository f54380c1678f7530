/- Parts. -/
import Derived.Test.YtmeebofhlilcmaaGreatPr39
set_option linter.unusedVariables false
set_option linter.unusedSimpArgs false
set_option maxRecDepth 100000
set_option maxHeartbeats 0
namespace Go.Proofs.YtmeebofhlilcmaaGreat
variable {w w':World} {base nIn gi:Nat}
open Go.RowKit
section
variable {w w':World} {base ga f m:Nat} {ts:List Int} {p:bJ} {D:aY}
theorem fdopen_any (ha:bE w ga p.d f m)(hm:1<=m)(hd:br w base p D)(hs:base<=w.heap.size)(hfm:f+m<=D.many)(hwt:D.waits.length<900000)(A:Option Addr)(n c:Nat)(ht:dx w base A n ts) :
 Ca 191 #[.pointer (some ⟨ga,0,none⟩),.slice A n c] w (gL 307 w base ga 3 ts p (bR D f m 3 ts)):=by
 have hmany:=iu ha;have hmz:((m:Int) == 0)=false:=by rw[ae];omega
 have hn:=ht.len;have hright:=jt A n c ts w ht.ri hn;have hun:bR D f m 3 ts=if db ts=false then (D,0,2)
  else if (bP D f m 3).2.2≠0 then ((bP D f m 3).1,0,(bP D f m 3).2.2)
  else if (dN (bP D f m 3).1 f m 3 (bP D f m 3).2.1 ts (bP D f m 3).2.1).2≠0 then ((dN (bP D f m 3).1 f m 3 (bP D f m 3).2.1 ts (bP D f m 3).2.1).1,0,(dN (bP D f m 3).1 f m 3 (bP D f m 3).2.1 ts (bP D f m 3).2.1).2)
  else ((dN (bP D f m 3).1 f m 3 (bP D f m 3).2.1 ts (bP D f m 3).2.1).1,(bP D f m 3).2.1,0):=rfl
 obtain⟨few1,few2,few3⟩:=mv D f m 3;have hok:D.many<=4096:=by obtain⟨A,c,h⟩:=hd;exact h.ok.many1
 have hop:=jopen_any (kind:=3) ha hm hd hs hfm hwt;generalize bR D f m 3 ts=R at *;generalize bP D f m 3=J at *;obtain⟨D1,nx,z⟩:=J;simp only at hun hop few1 few3;have HD:=aT hd;have HA:=aT ha;have HT:=aT ht
 cases hr:db ts with
 | false=>
   rw[if_pos hr] at hun;rw[hr] at hright;subst hun;clear hd ha ht hop hr;go_enter Tryz.func191,Tryz.ntmps191;go_wp2_with (first | (go_at_call 113;(with_reducible refine (hmany).mono ?_);rintro e w1 ⟨rfl,rfl⟩) | (go_at_call 150;(with_reducible refine (hright).mono ?_);rintro e w1 ⟨rfl,rfl⟩) | fail);go_ret2;exact gL.no bj HD.out (Step.refl _ _ _ _)
 | true=>
   rw[if_neg (by rw[hr];simp)] at hun;rw[hr] at hright;have hn8:n<=8:=by have:=(fD.1 hr).2.2;have:=ht.ri.1;omega
   by_cases hz:z=0
   · subst hz;rw[if_neg bj] at hun;have HUN:=aT hun;clear hd ha ht hr hun few2;go_enter Tryz.func191,Tryz.ntmps191;go_upto_region 9 with (first | (go_at_call 113;(with_reducible refine (hmany).mono ?_);rintro e w1 ⟨rfl,rfl⟩) | (go_at_call 150;(with_reducible refine (hright).mono ?_);rintro e w1 ⟨rfl,rfl⟩) | ((go_at_call 253;(with_reducible refine (hop).mono ?_);rintro e w2 ⟨P2,rfl,n2,y2,h2,st2⟩);obtain⟨gj,rfl,g2,j2⟩:=y2 rfl;have J2:=aT j2;have H2:=aT h2;have ST2:=aT st2;have s2:=st2.size;have T2:=aT (HT.out.step HD.out st2 aU);clear n2 y2 j2 h2 st2) | (at_builtin;refine dF (α:=Int) (enc:=iv) rfl rfl dV eS (s:=.tmp 30) (N:=n) (L:=ts) rfl (Ow.new _ _ #[] [] rfl aU) rfl (k:=ts) (T2.out.ri.below (B:=w2.heap.size) be aV).rd bj bj hn aS aZ ?_;intro A5 c5 w5 hown5 hg5 hat5 hb5;have b5:=aT ((show Below w2.heap.size w2 (w2.alloc (.cells #[] 3)) from be).trans hb5);have I5:=aT (show dx w5 base A5 n ts from dx.of_ow hown5);have N5:=aT (fun b (hb:A5.map (·.block)=some b)=>(hown5.lt b hb).1);clear hown5 hg5 hat5 hb5) | fail);have bX:Below w2.heap.size w2 (w5.alloc (.cells #[.pointer (some ⟨gj,0,none⟩),.slice A5 n c5] 307)):=b5.out.alloc (by have:=b5.out.size;omega) _;have bY:Below w5.heap.size w5 (w5.alloc (.cells #[.pointer (some ⟨gj,0,none⟩),.slice A5 n c5] 307)):=(Below.refl _ _).alloc aV _;have J6:=aT (show jh 307 (w5.alloc (.cells #[.pointer (some ⟨gj,0,none⟩),.slice A5 n c5] 307)) base w.heap.size w5.heap.size ga 3 nx ts from ⟨gj,A5,n,c5,Blk.top _ rfl rfl,aS,(Blk.below J2.out bX (Blk.lt J2.out)),I5.out.below bY,fun b hb=>by have:w2.heap.size<=b:=N5.out b hb;omega⟩);have H6:=aT (H2.out.below bX);have ST6:=aT (ST2.out.then_below (bX.mono s2) hs);have A6:=aT (HD.out.area HA.out ST6.out.tch aU);have s6:=ST6.out.size;have s5:=b5.out.size;generalize hW:w5.alloc (.cells #[.pointer (some ⟨gj,0,none⟩),.slice A5 n c5] 307)=w6 at *;have c6:w6.cell? ⟨w5.heap.size,0,none⟩=some (.pointer (some ⟨gj,0,none⟩)):=by rw[<- hW];exact Blk.cell (Blk.top _ rfl rfl) 0
     generalize hG:w5.heap.size=gf at *;clear hW bX bY b5 I5 T2 J2 H2 ST2 HT hright hmany;have hlen:=lv J6.out.at_;have hlj:Ca 203 #[.pointer (some ⟨gj,0,none⟩)] w6 fun e w'=>e=.returned (I (nx:Nat))/\w6=w':=by
      obtain⟨gj',A,n',c',q1,_,q3,_⟩:=J6.out;have:=q1.cell 0;rw[c6] at this;injection this with this;injection this with this;injection this with this;injection this with this;subst this;exact kZ q3
     have hnx:nx<=4096:=aS;go_wp2_with (first | ((go_at_call 203;(with_reducible refine (hlj).mono ?_);rintro e w7 ⟨rfl,rfl⟩)) | fail);go_loopw [9,10,11,41] (fun _ _ _ i wr=>∃ (k:Nat) (Dk:aY),k<=nx/\i=I (k:Nat)/\dN D1 f m 3 nx ts k=(Dk,0)/\br wr base p Dk/\Step mutD base p w6 wr) (fun _ _ _ i _=>nx - (intOf i).toNat)
     case atStart=>exact⟨0,D1,aS,rfl,rfl,H6.out,Step.refl _ _ _ _⟩
     case round=>
      obtain⟨k,Dk,hk,rfl,hall,hdk,hst⟩:=hrel;have hsz:=hst.size;have hjk:=J6.out.step H6.out hst aU aU aU
      by_cases hlt:k<nx
      · have hak:=H6.out.area A6.out hst.tch aU;have hmk:Dk.many=D.many:=by have:=pF D1 f m 3 nx ts k;rw[hall] at this;exact this.trans few1
        have hget:=fdget_any hjk.at_ hdk aS hak (by rw[hmk];exact hfm) hnx (k:Int);have hnext:=pG hall;generalize dL Dk f m 3 nx ts (k:Int)=G at *;obtain⟨Dn,ln,zn⟩:=G;simp only at hget hnext;have HDk:=aT hdk;have HST:=aT hst;clear hdk hjk hak hall
        by_cases he:zn=0
        · subst he;have HN:=aT hnext;clear hnext;go_wp2_with (first | ((go_at_call 210;(with_reducible refine (hget).mono ?_);rintro e w8 ⟨L8,k8,d8,rfl,o8,h8,st8⟩)) | fail);go_roundw
          case rel=>first
           | exact⟨k+1,Dn,aS,by go_num,HN.out,h8,HST.out.trans st8⟩
           | ((repeat apply Exists.intro);exact⟨⟨k+1,Dn,aS,by go_num,HN.out,h8,HST.out.trans st8⟩,rfl⟩)
          case measure=>simp[intOf];omega
        · have hneb:(zn != 0)=true:=by rw[af];exact he
          have hstop:=pq (D:=D1) (f:=f) (m:=m) (kind:=3) (next:=nx) (ts:=ts) (k:=k+1) (n:=nx) (by rw[hnext];exact he) aS;have hR:R=(Dn,0,zn):=by rw[HUN.out,hstop,hnext,if_pos he]
          subst hR;have HE:=aT he;clear HUN hstop hnext he;go_wp2_with (first | ((go_at_call 210;(with_reducible refine (hget).mono ?_);rintro e w8 ⟨L8,k8,d8,rfl,o8,h8,st8⟩)) | fail);go_ret2;exact gL.no HE.out h8 ((ST6.out.trans HST.out).trans st8)
      · have hk9:k=nx:=aS;subst hk9;have hR:R=(Dk,k,0):=by rw[HUN.out,hall,if_neg bj]
        subst hR;have HDk:=aT hdk;have HST:=aT hst;have HJ:=aT hjk;clear hdk hst hjk hall HUN;go_wp2;go_ret2;exact gL.yes aS HJ.out HDk.out (ST6.out.trans HST.out)
   · rw[if_pos hz] at hun;have hzb:(z != 0)=true:=by rw[af];exact hz
     subst hun;have HZ:=aT hz;clear hd ha ht hr hz few2;go_enter Tryz.func191,Tryz.ntmps191;go_wp2_with (first | (go_at_call 113;(with_reducible refine (hmany).mono ?_);rintro e w1 ⟨rfl,rfl⟩) | (go_at_call 150;(with_reducible refine (hright).mono ?_);rintro e w1 ⟨rfl,rfl⟩) | ((go_at_call 253;(with_reducible refine (hop).mono ?_);rintro e w2 ⟨P2,rfl,n2,y2,h2,st2⟩);obtain rfl:=n2 HZ.out) | fail);go_ret2;exact gL.no HZ.out h2 st2
end
section
variable {w w':World} {base ga f m:Nat} {ts:List Int} {p:bJ} {D:aY}
theorem skopen_any (ha:bE w ga p.d f m)(hm:1<=m)(hd:br w base p D)(hs:base<=w.heap.size)(hfm:f+m<=D.many)(hwt:D.waits.length<900000)(A:Option Addr)(n c:Nat)(ht:dx w base A n ts) :
 Ca 193 #[.pointer (some ⟨ga,0,none⟩),.slice A n c] w (gL 310 w base ga 4 ts p (bR D f m 4 ts)):=by
 have hmany:=iu ha;have hmz:((m:Int) == 0)=false:=by rw[ae];omega
 have hn:=ht.len;have hright:=jt A n c ts w ht.ri hn;have hun:bR D f m 4 ts=if db ts=false then (D,0,2)
  else if (bP D f m 4).2.2≠0 then ((bP D f m 4).1,0,(bP D f m 4).2.2)
  else if (dN (bP D f m 4).1 f m 4 (bP D f m 4).2.1 ts (bP D f m 4).2.1).2≠0 then ((dN (bP D f m 4).1 f m 4 (bP D f m 4).2.1 ts (bP D f m 4).2.1).1,0,(dN (bP D f m 4).1 f m 4 (bP D f m 4).2.1 ts (bP D f m 4).2.1).2)
  else ((dN (bP D f m 4).1 f m 4 (bP D f m 4).2.1 ts (bP D f m 4).2.1).1,(bP D f m 4).2.1,0):=rfl
 obtain⟨few1,few2,few3⟩:=mv D f m 4;have hok:D.many<=4096:=by obtain⟨A,c,h⟩:=hd;exact h.ok.many1
 have hop:=jopen_any (kind:=4) ha hm hd hs hfm hwt;generalize bR D f m 4 ts=R at *;generalize bP D f m 4=J at *;obtain⟨D1,nx,z⟩:=J;simp only at hun hop few1 few3;have HD:=aT hd;have HA:=aT ha;have HT:=aT ht
 cases hr:db ts with
 | false=>
   rw[if_pos hr] at hun;rw[hr] at hright;subst hun;clear hd ha ht hop hr;go_enter Tryz.func193,Tryz.ntmps193;go_wp2_with (first | (go_at_call 113;(with_reducible refine (hmany).mono ?_);rintro e w1 ⟨rfl,rfl⟩) | (go_at_call 150;(with_reducible refine (hright).mono ?_);rintro e w1 ⟨rfl,rfl⟩) | fail);go_ret2;exact gL.no bj HD.out (Step.refl _ _ _ _)
 | true=>
   rw[if_neg (by rw[hr];simp)] at hun;rw[hr] at hright;have hn8:n<=8:=by have:=(fD.1 hr).2.2;have:=ht.ri.1;omega
   by_cases hz:z=0
   · subst hz;rw[if_neg bj] at hun;have HUN:=aT hun;clear hd ha ht hr hun few2;go_enter Tryz.func193,Tryz.ntmps193;go_upto_region 9 with (first | (go_at_call 113;(with_reducible refine (hmany).mono ?_);rintro e w1 ⟨rfl,rfl⟩) | (go_at_call 150;(with_reducible refine (hright).mono ?_);rintro e w1 ⟨rfl,rfl⟩) | ((go_at_call 253;(with_reducible refine (hop).mono ?_);rintro e w2 ⟨P2,rfl,n2,y2,h2,st2⟩);obtain⟨gj,rfl,g2,j2⟩:=y2 rfl;have J2:=aT j2;have H2:=aT h2;have ST2:=aT st2;have s2:=st2.size;have T2:=aT (HT.out.step HD.out st2 aU);clear n2 y2 j2 h2 st2) | (at_builtin;refine dF (α:=Int) (enc:=iv) rfl rfl dV eS (s:=.tmp 30) (N:=n) (L:=ts) rfl (Ow.new _ _ #[] [] rfl aU) rfl (k:=ts) (T2.out.ri.below (B:=w2.heap.size) be aV).rd bj bj hn aS aZ ?_;intro A5 c5 w5 hown5 hg5 hat5 hb5;have b5:=aT ((show Below w2.heap.size w2 (w2.alloc (.cells #[] 3)) from be).trans hb5);have I5:=aT (show dx w5 base A5 n ts from dx.of_ow hown5);have N5:=aT (fun b (hb:A5.map (·.block)=some b)=>(hown5.lt b hb).1);clear hown5 hg5 hat5 hb5) | fail);have bX:Below w2.heap.size w2 (w5.alloc (.cells #[.pointer (some ⟨gj,0,none⟩),.slice A5 n c5] 310)):=b5.out.alloc (by have:=b5.out.size;omega) _;have bY:Below w5.heap.size w5 (w5.alloc (.cells #[.pointer (some ⟨gj,0,none⟩),.slice A5 n c5] 310)):=(Below.refl _ _).alloc aV _;have J6:=aT (show jh 310 (w5.alloc (.cells #[.pointer (some ⟨gj,0,none⟩),.slice A5 n c5] 310)) base w.heap.size w5.heap.size ga 4 nx ts from ⟨gj,A5,n,c5,Blk.top _ rfl rfl,aS,(Blk.below J2.out bX (Blk.lt J2.out)),I5.out.below bY,fun b hb=>by have:w2.heap.size<=b:=N5.out b hb;omega⟩);have H6:=aT (H2.out.below bX);have ST6:=aT (ST2.out.then_below (bX.mono s2) hs);have A6:=aT (HD.out.area HA.out ST6.out.tch aU);have s6:=ST6.out.size;have s5:=b5.out.size;generalize hW:w5.alloc (.cells #[.pointer (some ⟨gj,0,none⟩),.slice A5 n c5] 310)=w6 at *;have c6:w6.cell? ⟨w5.heap.size,0,none⟩=some (.pointer (some ⟨gj,0,none⟩)):=by rw[<- hW];exact Blk.cell (Blk.top _ rfl rfl) 0
     generalize hG:w5.heap.size=gf at *;clear hW bX bY b5 I5 T2 J2 H2 ST2 HT hright hmany;have hlen:=nX J6.out.at_;have hlj:Ca 203 #[.pointer (some ⟨gj,0,none⟩)] w6 fun e w'=>e=.returned (I (nx:Nat))/\w6=w':=by
      obtain⟨gj',A,n',c',q1,_,q3,_⟩:=J6.out;have:=q1.cell 0;rw[c6] at this;injection this with this;injection this with this;injection this with this;injection this with this;subst this;exact kZ q3
     have hnx:nx<=4096:=aS;go_wp2_with (first | ((go_at_call 203;(with_reducible refine (hlj).mono ?_);rintro e w7 ⟨rfl,rfl⟩)) | fail);go_loopw [9,10,11,41] (fun _ _ _ i wr=>∃ (k:Nat) (Dk:aY),k<=nx/\i=I (k:Nat)/\dN D1 f m 4 nx ts k=(Dk,0)/\br wr base p Dk/\Step mutD base p w6 wr) (fun _ _ _ i _=>nx - (intOf i).toNat)
     case atStart=>exact⟨0,D1,aS,rfl,rfl,H6.out,Step.refl _ _ _ _⟩
     case round=>
      obtain⟨k,Dk,hk,rfl,hall,hdk,hst⟩:=hrel;have hsz:=hst.size;have hjk:=J6.out.step H6.out hst aU aU aU
      by_cases hlt:k<nx
      · have hak:=H6.out.area A6.out hst.tch aU;have hmk:Dk.many=D.many:=by have:=pF D1 f m 4 nx ts k;rw[hall] at this;exact this.trans few1
        have hget:=skget_any hjk.at_ hdk aS hak (by rw[hmk];exact hfm) hnx (k:Int);have hnext:=pG hall;generalize dL Dk f m 4 nx ts (k:Int)=G at *;obtain⟨Dn,ln,zn⟩:=G;simp only at hget hnext;have HDk:=aT hdk;have HST:=aT hst;clear hdk hjk hak hall
        by_cases he:zn=0
        · subst he;have HN:=aT hnext;clear hnext;go_wp2_with (first | ((go_at_call 189;(with_reducible refine (hget).mono ?_);rintro e w8 ⟨L8,k8,d8,rfl,o8,h8,st8⟩)) | fail);go_roundw
          case rel=>first
           | exact⟨k+1,Dn,aS,by go_num,HN.out,h8,HST.out.trans st8⟩
           | ((repeat apply Exists.intro);exact⟨⟨k+1,Dn,aS,by go_num,HN.out,h8,HST.out.trans st8⟩,rfl⟩)
          case measure=>simp[intOf];omega
        · have hneb:(zn != 0)=true:=by rw[af];exact he
          have hstop:=pq (D:=D1) (f:=f) (m:=m) (kind:=4) (next:=nx) (ts:=ts) (k:=k+1) (n:=nx) (by rw[hnext];exact he) aS;have hR:R=(Dn,0,zn):=by rw[HUN.out,hstop,hnext,if_pos he]
          subst hR;have HE:=aT he;clear HUN hstop hnext he;go_wp2_with (first | ((go_at_call 189;(with_reducible refine (hget).mono ?_);rintro e w8 ⟨L8,k8,d8,rfl,o8,h8,st8⟩)) | fail);go_ret2;exact gL.no HE.out h8 ((ST6.out.trans HST.out).trans st8)
      · have hk9:k=nx:=aS;subst hk9;have hR:R=(Dk,k,0):=by rw[HUN.out,hall,if_neg bj]
        subst hR;have HDk:=aT hdk;have HST:=aT hst;have HJ:=aT hjk;clear hdk hst hjk hall HUN;go_wp2;go_ret2;exact gL.yes aS HJ.out HDk.out (ST6.out.trans HST.out)
   · rw[if_pos hz] at hun;have hzb:(z != 0)=true:=by rw[af];exact hz
     subst hun;have HZ:=aT hz;clear hd ha ht hr hz few2;go_enter Tryz.func193,Tryz.ntmps193;go_wp2_with (first | (go_at_call 113;(with_reducible refine (hmany).mono ?_);rintro e w1 ⟨rfl,rfl⟩) | (go_at_call 150;(with_reducible refine (hright).mono ?_);rintro e w1 ⟨rfl,rfl⟩) | ((go_at_call 253;(with_reducible refine (hop).mono ?_);rintro e w2 ⟨P2,rfl,n2,y2,h2,st2⟩);obtain rfl:=n2 HZ.out) | fail);go_ret2;exact gL.no HZ.out h2 st2
end
def prt3V (nIn nOut:Nat)(K:aY × KpV × Int):aY × Nat × Nat × KpV × Int:=(K.1,nIn,nOut,K.2.1,K.2.2)
def prt2V (m:Nat)(p:PV)(hash:Int)(nIn:Nat)(S:aY × Nat × Int):aY × Nat × Nat × KpV × Int:=if S.2.2≠0 then (S.1,nIn,0,gT,S.2.2) else prt3V nIn S.2.1 (eg S.1 1 5 6 5 p hash)
def prt1V (m:Nat)(p:PV)(hash:Int)(F:aY × Nat × Int):aY × Nat × Nat × KpV × Int:=if F.2.2≠0 then (F.1,0,0,gT,F.2.2) else prt2V m p hash F.2.1 (bR F.1 (11+m) m 4 p.outs)
def cY (m:Nat)(p:PV)(hash:Int)(D:aY):aY × Nat × Nat × KpV × Int:=prt1V m p hash (bR D 11 m 3 p.ins)
def engN (pm pi po pk:Option Addr)(pace:Int):List Value :=
 [.pointer pm,.pointer pi,.pointer po,.pointer pk,.slice none 0 0,I pace,I 0,I 0,I 0,.bool false,.bool false]
def mutX:List TypeId:=180 :: mutD
structure PrAt (w0 W:World)(base:Nat)(q:bJ)(g gB pB lB gf gl gs ga gb m:Nat)(x:PA)(p:PV)(pace:Int)(D:aY)(pi po pk:Option Addr):Prop where
 d:br W base q D
 b:Blk W g 180 (engN none pi po pk pace)
 g0:base<=g
 al:bE W gl q.d 11 m
 as_:bE W gs q.d (11+m) m
 aa:bE W ga q.d 1 5
 ab:bE W gb q.d 6 5
 bl:Blk W lB 276 [.pointer (some ⟨gl,0,none⟩),.pointer (some ⟨gs,0,none⟩),.pointer (some ⟨ga,0,none⟩),.pointer (some ⟨gb,0,none⟩)]
 bp:Blk W pB 26 (progC x p)
 bg:Blk W gB 45 [.pointer (some ⟨g,0,none⟩)]
 bf:Blk W gf 61 (prtL (.pointer (some ⟨lB,0,none⟩)) (.pointer (some ⟨pB,0,none⟩)) (.pointer (some ⟨gB,0,none⟩)))
 pr:et W base x p
 s:Step mutX base q w0 W
 hs:base<=W.heap.size
theorem et.ints1 {x:PA}{p:PV}(h:et w base x p):dx w base x.A1 x.n1 p.ins:=⟨h.rd.r1,aj h.rd.k1.1 h.rd.k1.2,h.s1⟩
theorem et.ints2 {x:PA}{p:PV}(h:et w base x p):dx w base x.A2 x.n2 p.outs:=⟨h.rd.r2,aj h.rd.k2.1 h.rd.k2.2,h.s2⟩
section
variable {w0 W W':World} {base g gB pB lB gf gl gs ga gb m:Nat} {q:bJ} {D D':aY} {x:PA} {p:PV} {pace:Int} {pi po pk:Option Addr}
theorem Step.dToX (h:Step mutD base q w w'):Step mutX base q w w':=h.mono fun t ht=>aC _ ht
theorem Step.eToX (h:Step [180] base q w w'):Step mutX base q w w':=h.mono aU
theorem PrAt.step (h:PrAt w0 W base q g gB pB lB gf gl gs ga gb m x p pace D pi po pk)(hd:br W' base q D')(t:Step mutD base q W W'):PrAt w0 W' base q g gB pB lB gf gl gs ga gb m x p pace D' pi po pk :=
 ⟨hd,h.d.blk h.b t.tch aU,h.g0,h.d.area h.al t.tch aU,h.d.area h.as_ t.tch aU,h.d.area h.aa t.tch aU,h.d.area h.ab t.tch aU,h.d.blk h.bl t.tch aU,h.d.blk h.bp t.tch aU,h.d.blk h.bg t.tch aU,h.d.blk h.bf t.tch aU,h.pr.step h.d t aU aU aU,h.s.trans t.dToX,aj h.hs t.size⟩
theorem PrAt.setE (h:PrAt w0 W base q g gB pB lB gf gl gs ga gb m x p pace D pi po pk)(i:Nat)(u:Value){pi' po' pk':Option Addr}(he:(engN none pi po pk pace).set i u=engN none pi' po' pk' pace):PrAt w0 (W.setCell ⟨g,i,none⟩ u) base q g gB pB lB gf gl gs ga gb m x p pace D pi' po' pk':=by
 have t:=Step.engSet (q:=q) h.b h.g0 h.hs i u;have hb:=h.b.set_ i u;rw[he] at hb;exact⟨h.d.engSet h.b i u,hb,h.g0,h.d.area h.al t.tch aU,h.d.area h.as_ t.tch aU,h.d.area h.aa t.tch aU,h.d.area h.ab t.tch aU,h.d.blk h.bl t.tch aU,h.d.blk h.bp t.tch aU,h.d.blk h.bg t.tch aU,h.d.blk h.bf t.tch aU,h.pr.step h.d t aU aU aU,h.s.trans t.eToX,by simpa using h.hs⟩
def PrR1 (w0 W:World)(base:Nat)(q:bJ)(g gB pB lB gf gl gs ga gb m:Nat)(x:PA)(p:PV)(pace:Int)(F:aY × Nat × Int):Prop :=
 ∃ P,PrAt w0 W base q g gB pB lB gf gl gs ga gb m x p pace F.1 P none none/\(F.2.2=0->∃ gi,P=some ⟨gi,0,none⟩/\da 307 W base gi gl 3 F.2.1 p.ins)
def PrR2 (w0 W:World)(base:Nat)(q:bJ)(g gB pB lB gf gl gs ga gb m:Nat)(x:PA)(p:PV)(pace:Int)(nIn:Nat)(S:aY × Nat × Int):Prop :=
 ∃ gi P,PrAt w0 W base q g gB pB lB gf gl gs ga gb m x p pace S.1 (some ⟨gi,0,none⟩) P none/\da 307 W base gi gl 3 nIn p.ins/\(S.2.2=0->∃ go,P=some ⟨go,0,none⟩/\da 310 W base go gs 4 S.2.1 p.outs)
def PrR3 (w0 W:World)(base:Nat)(q:bJ)(g gB pB lB gf gl gs ga gb m:Nat)(x:PA)(p:PV)(pace hash:Int)(nIn nOut:Nat)(K:aY × KpV × Int):Prop :=
 ∃ gi go P,PrAt w0 W base q g gB pB lB gf gl gs ga gb m x p pace K.1 (some ⟨gi,0,none⟩) (some ⟨go,0,none⟩) P/\da 307 W base gi gl 3 nIn p.ins/\da 310 W base go gs 4 nOut p.outs/\(K.2.2=0->∃ gk,P=some ⟨gk,0,none⟩/\kC W base gk ga gb x p hash K.2.1)
theorem prt1_any (h:PrAt w0 W base q g gB pB lB gf gl gs ga gb m x p pace D none none none)(hm:1<=m)(big:11+m+m<=D.many)(hwt:D.waits.length<800000) :
 Ca 190 #[.pointer (some ⟨lB,0,none⟩),.pointer (some ⟨pB,0,none⟩),.pointer (some ⟨gB,0,none⟩)] W fun e w'=>e=.returned (I (bR D 11 m 3 p.ins).2.2)/\PrR1 w0 w' base q g gB pB lB gf gl gs ga gb m x p pace (bR D 11 m 3 p.ins):=by
 have hb:Below W.heap.size W W.drew:=Below.drew (Below.refl _ _);have HD:=h.step (h.d.below hb) (Step.of_below hb h.hs);have hop:=fdopen_any HD.al hm HD.d HD.hs aS aS x.A1 x.n1 x.c1 HD.pr.ints1;have c0:=h.bl.c0;have c1:=h.bp.c0;have c2:=h.bg.c0;have ll:=h.bl.lt;have HX:=aT HD;clear h HD hb;generalize bR D 11 m 3 p.ins=F at *;go_enter Tryz.func190,Tryz.ntmps190;go_upto_region 1 with fail;go_region_held3 (fun w'=>w'.cell? ⟨lB,0,none⟩=some (.pointer (some ⟨gl,0,none⟩))/\w'.cell? ⟨pB,0,none⟩=some (.slice x.A1 x.n1 x.c1)/\w'.cell? ⟨gB,0,none⟩=some (.pointer (some ⟨g,0,none⟩))) (first | go_keep | (refine⟨?_,?_,?_⟩ <;> assumption)) (first | ((go_at_call 191;(with_reducible refine (hop).mono ?_);rintro e w2 ⟨P2,rfl,n2,y2,d2,s2⟩);have X2:=aT (HX.out.step d2 s2);have c0:=X2.out.bl.c0;have c1:=X2.out.bp.c0;have c2:=X2.out.bg.c0;have k1:=X2.out.b.c1;have f1:=X2.out.b.frozen 1;have gl2:=X2.out.b.lt;have X2s:=X2.out.setE 1 (.pointer P2) rfl;have s0:=X2s.bl.c0;have s1:=X2s.bp.c0;have s2:=X2s.bg.c0;clear X2s) | fail);go_wp2_with fail;go_ret;refine⟨rfl,P2,X2.out.setE 1 (.pointer P2) rfl,fun hz=>?_⟩;obtain⟨gi,rfl,_,hj⟩:=y2 hz;exact⟨gi,rfl,hj.at_.step X2.out.d (Step.engSet X2.out.b X2.out.g0 X2.out.hs 1 _) aU aU aU⟩
theorem prt2_any (h:PrAt w0 W base q g gB pB lB gf gl gs ga gb m x p pace D (some ⟨gi,0,none⟩) none none)(hf:da 307 W base gi gl 3 nIn p.ins)(hm:1<=m)(big:11+m+m<=D.many)(hwt:D.waits.length<800000) :
 Ca 192 #[.pointer (some ⟨lB,0,none⟩),.pointer (some ⟨pB,0,none⟩),.pointer (some ⟨gB,0,none⟩)] W fun e w'=>e=.returned (I (bR D (11+m) m 4 p.outs).2.2)/\PrR2 w0 w' base q g gB pB lB gf gl gs ga gb m x p pace nIn (bR D (11+m) m 4 p.outs):=by
 have hb:Below W.heap.size W W.drew:=Below.drew (Below.refl _ _);have HD:=h.step (h.d.below hb) (Step.of_below hb h.hs);have hfD:=aT (hf.below hb);have hop:=skopen_any HD.as_ hm HD.d HD.hs aS aS x.A2 x.n2 x.c2 HD.pr.ints2;have c0:=h.bl.c1;have c1:=h.bp.c1;have c2:=h.bg.c0;have ll:=h.bl.lt;have HX:=aT HD;clear h HD hb hf;generalize bR D (11+m) m 4 p.outs=F at *;go_enter Tryz.func192,Tryz.ntmps192;go_upto_region 1 with fail;go_region_held3 (fun w'=>w'.cell? ⟨lB,1,none⟩=some (.pointer (some ⟨gs,0,none⟩))/\w'.cell? ⟨pB,1,none⟩=some (.slice x.A2 x.n2 x.c2)/\w'.cell? ⟨gB,0,none⟩=some (.pointer (some ⟨g,0,none⟩))) (first | go_keep | (refine⟨?_,?_,?_⟩ <;> assumption)) (first | ((go_at_call 193;(with_reducible refine (hop).mono ?_);rintro e w2 ⟨P2,rfl,n2,y2,d2,s2⟩);have X2:=aT (HX.out.step d2 s2);have F2:=aT (hfD.out.step HX.out.d s2 aU aU aU);have c0:=X2.out.bl.c1;have c1:=X2.out.bp.c1;have c2:=X2.out.bg.c0;have k1:=X2.out.b.c2;have f1:=X2.out.b.frozen 2;have gl2:=X2.out.b.lt;have X2s:=X2.out.setE 2 (.pointer P2) rfl;have s0:=X2s.bl.c1;have s1:=X2s.bp.c1;have s2:=X2s.bg.c0;clear X2s) | fail);go_wp2_with fail;go_ret;have t2:=Step.engSet (q:=q) X2.out.b X2.out.g0 X2.out.hs 2 (.pointer P2);refine⟨rfl,gi,P2,X2.out.setE 2 (.pointer P2) rfl,F2.out.step X2.out.d t2 aU aU aU,fun hz=>?_⟩;obtain⟨go,rfl,_,hj⟩:=y2 hz;exact⟨go,rfl,hj.at_.step X2.out.d t2 aU aU aU⟩
theorem prt3_any {nOut go:Nat}(h:PrAt w0 W base q g gB pB lB gf gl gs ga gb m x p pace D (some ⟨gi,0,none⟩) (some ⟨go,0,none⟩) none)(hf:da 307 W base gi gl 3 nIn p.ins)(ho:da 310 W base go gs 4 nOut p.outs)(hw:eN p)(hv:dG p=true)(big:11+m+m<=D.many) :
 Ca 194 #[.pointer (some ⟨lB,0,none⟩),.pointer (some ⟨pB,0,none⟩),.pointer (some ⟨gB,0,none⟩)] W fun e w'=>e=.returned (I (eg D 1 5 6 5 p (cw p:Nat)).2.2)/\PrR3 w0 w' base q g gB pB lB gf gl gs ga gb m x p pace (cw p:Nat) nIn nOut (eg D 1 5 6 5 p (cw p:Nat)):=by
 have hb:Below W.heap.size W W.drew:=Below.drew (Below.refl _ _);have HD:=h.step (h.d.below hb) (Step.of_below hb h.hs);have hfD:=aT (hf.below hb);have hoD:=aT (ho.below hb);have hop:Ca 195 _ _ (jX (fun _=>False) W.drew base q ga gb x p (cw p:Nat) (eg D 1 5 6 5 p (cw p:Nat))):=kopen_any (fun _ _ h=>h) HD.pr hw hv HD.d HD.hs HD.aa HD.ab aS aS aS aS;have c0:=h.bl.c2;have c3:=h.bl.c3;obtain⟨p0,p1,p2,p3,p4⟩:=blk5 (show Blk W pB _ [.slice x.A1 x.n1 x.c1,.slice x.A2 x.n2 x.c2,I p.regs,.slice x.A3 x.n3 x.c3,.slice x.A4 x.n4 x.c4] from h.bp);have c2:=h.bg.c0;have ll:=h.bl.lt;have HX:=aT HD;clear h HD hb hf ho;generalize eg D 1 5 6 5 p (cw p:Nat)=F at *;go_enter Tryz.func194,Tryz.ntmps194;go_upto_region 1 with fail;go_region_held3 (fun w'=>w'.cell? ⟨lB,2,none⟩=some (.pointer (some ⟨ga,0,none⟩))/\w'.cell? ⟨lB,3,none⟩=some (.pointer (some ⟨gb,0,none⟩))/\w'.cell? ⟨gB,0,none⟩=some (.pointer (some ⟨g,0,none⟩))/\w'.cell? ⟨pB,0,none⟩=some (.slice x.A1 x.n1 x.c1)/\w'.cell? ⟨pB,1,none⟩=some (.slice x.A2 x.n2 x.c2)/\w'.cell? ⟨pB,2,none⟩=some (I p.regs)/\w'.cell? ⟨pB,3,none⟩=some (.slice x.A3 x.n3 x.c3)/\w'.cell? ⟨pB,4,none⟩=some (.slice x.A4 x.n4 x.c4)) (first | go_keep | (refine⟨?_,?_,?_,?_,?_,?_,?_,?_⟩ <;> assumption)) (first | ((go_at_call 195;(with_reducible refine (hop).mono ?_);rintro e w2 ⟨P2,rfl,n2,y2,d2,s2⟩);have X2:=aT (HX.out.step d2 s2);have F2:=aT (hfD.out.step HX.out.d s2 aU aU aU);have O2:=aT (hoD.out.step HX.out.d s2 aU aU aU);have c0:=X2.out.bl.c2;have c3:=X2.out.bl.c3;have c2:=X2.out.bg.c0;obtain⟨p0,p1,p2,p3,p4⟩:=blk5 (show Blk w2 pB _ [.slice x.A1 x.n1 x.c1,.slice x.A2 x.n2 x.c2,I p.regs,.slice x.A3 x.n3 x.c3,.slice x.A4 x.n4 x.c4] from X2.out.bp);have k1:=X2.out.b.c3;have f1:=X2.out.b.frozen 3;have gl2:=X2.out.b.lt;have X2s:=X2.out.setE 3 (.pointer P2) rfl;have s0:=X2s.bl.c2;have s1:=X2s.bl.c3;have s2:=X2s.bg.c0;have s3:=X2s.bp.c0;have s4:=X2s.bp.c1;have s5:=X2s.bp.c2;have s6:=X2s.bp.c3;have s7:=X2s.bp.c4;clear X2s) | fail);go_wp2_with fail;go_ret;have t2:=Step.engSet (q:=q) X2.out.b X2.out.g0 X2.out.hs 3 (.pointer P2);refine⟨rfl,gi,go,P2,X2.out.setE 3 (.pointer P2) rfl,F2.out.step X2.out.d t2 aU aU aU,O2.out.step X2.out.d t2 aU aU aU,fun hz=>?_⟩;obtain⟨gk,rfl,_,hj⟩:=y2 hz;exact⟨gk,rfl,hj.step X2.out.d t2 aU aU aU aU aU aU⟩
end
