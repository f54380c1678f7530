/- Parts: EngC, AreaPlanA, EngG. -/
import Derived.Test.YtmeebofhlilcmaaGreatPr38
set_option linter.unusedVariables false
set_option linter.unusedSimpArgs false
set_option maxRecDepth 100000
set_option maxHeartbeats 0
namespace Go.Proofs.YtmeebofhlilcmaaGreat
variable {m:Nat} {p:PV} {D:aW} {E:EgV}
open Go.RowKit
def tickAt (w:World)(g:Nat):Int:=intOf ((w.cell? ⟨g,6,none⟩).getD (I 0))
theorem ku {w:World}{g:Nat}{t:Int}(h:w.cell? ⟨g,6,none⟩=some (I t)):tickAt w g=t:=by unfold tickAt;rw[h];rfl
theorem replK_end (h:(E.nIn:Int)<=E.tick):et m p ((E.nIn:Int) - E.tick).toNat D E=(D,E,0):=by
 rw[show ((E.nIn:Int) - E.tick).toNat=0 by omega];rfl
theorem replK_stop (h:E.tick<(E.nIn:Int))(hz:(bK m p D E).2.2≠0):et m p ((E.nIn:Int) - E.tick).toNat D E=bK m p D E:=by
 obtain⟨k,hk⟩:∃ k,((E.nIn:Int) - E.tick).toNat=k+1:=⟨((E.nIn:Int) - E.tick).toNat - 1,aS⟩;rw[hk]
 show (if _ then _ else _)=_
 rw[if_pos hz]
theorem replK_go (h:E.tick<(E.nIn:Int))(hz:(bK m p D E).2.2=0)(hn:(bK m p D E).2.1.nIn=E.nIn)(ht:(bK m p D E).2.1.tick=E.tick+1) :
 et m p ((E.nIn:Int) - E.tick).toNat D E=et m p ((({ (bK m p D E).2.1 with replayed:=(bK m p D E).2.1.replayed+1 }:EgV).nIn:Int) - ({ (bK m p D E).2.1 with replayed:=(bK m p D E).2.1.replayed+1 }:EgV).tick).toNat (bK m p D E).1 { (bK m p D E).2.1 with replayed:=(bK m p D E).2.1.replayed+1 }:=by
 obtain⟨k,hk⟩:∃ k,((E.nIn:Int) - E.tick).toNat=k+1:=⟨((E.nIn:Int) - E.tick).toNat - 1,aS⟩;have hk2:(((bK m p D E).2.1.nIn:Int) - (bK m p D E).2.1.tick).toNat=k:=by rw[hn,ht];omega
 rw[hk]
 show (if _ then _ else _)=et m p (((bK m p D E).2.1.nIn:Int) - (bK m p D E).2.1.tick).toNat _ _
 rw[if_neg (by rw[hz];simp),hk2]
section
variable {w w':World} {base g m:Nat} {q:bB} {D:aW} {e:EP} {p:PV} {hash pace:Int} {E:EgV}
theorem erepl_any (h:cF w base q g e m p hash pace E)(ok:EgOk m p E)(G:PrgW p m)(hd:bc w base q D)(hs:base<=w.heap.size)(big:11+2 * m<=D.many)(hwt:D.waits.length<700000)(ht0:E.replayed=0) :
 Ca 108 #[.pointer (some ⟨g,0,none⟩)] w fun e' w'=>∃ A n c,e'=.returned (I (ee m p hash pace D E).2.2)/\EngS w w' base q g { e with A:=A,n:=n,c:=c } m p hash pace (ee m p hash pace D E).1 (ee m p hash pace D E).2.1:=by
 have hm2:=G.m2;have HG:=aT G;have HF:=aT (show iK p hash pace (et m p ((E.nIn:Int) - E.tick).toNat D E)=ee m p hash pace D E from rfl);generalize ee m p hash pace D E=FIN at *;have S0:=aT (EngX.done (EngX.of h hd (Step.refl mutE base q w) hs) rfl);have OK0:=aT ok;have hni:=ok.i0;have ht00:=ok.t0;clear h hd ok G;go_enter Tryz.func108,Tryz.ntmps108;go_wp2_with fail;go_loopw [] (fun wr=>∃ (D':aW) (E':EgV) (A:Option Addr) (n c:Nat),Hid (EngS w wr base q g { e with A:=A,n:=n,c:=c } m p hash pace D' E')/\Hid (EgOk m p E')/\Hid (iK p hash pace (et m p ((E'.nIn:Int) - E'.tick).toNat D' E')=FIN)/\Hid (E'.nIn=E.nIn)/\D'.waits.length+(E.nIn - E'.tick).toNat<=D.waits.length+(E.nIn - E.tick).toNat/\Hid (D'.many=D.many)) (fun wr=>((E.nIn:Int) - tickAt wr g).toNat)
 case atStart=>exact⟨D,E,e.A,e.n,e.c,S0,OK0,HF,aT rfl,Nat.le_refl _,aT rfl⟩
 case round=>
  obtain⟨D',E',A,n,c,S1,OK1,HF1,HN1,hw1,HM1⟩:=hrel;clear S0 OK0 HF;obtain⟨c0,c1,c2,c3,c4,c5,c6,c7,c8,c9,c10⟩:=S1.out.i.words;have tk1:=aT (ku c6);have hbs:=ae hs S1.out.s.size;have hlen:=lf (S1.out.i.r.below (Below.drew (Below.refl _ _))).inn;have Xd:=aT ((EngX.of S1.out.i S1.out.d S1.out.s hbs).below (Below.drew (Below.refl _ _)));have SD:=aT (EngX.done Xd.out rfl)
  by_cases hlt:E'.tick<(E'.nIn:Int)
  · have hn1:=HN1.out;have hone:=one_any (hash:=hash) (pace:=pace) SD.out.i OK1.out HG.out SD.out.d Xd.out.hs (by rw[HM1.out];exact big) hlt aS;have hok:=aT (lj (D:=D') OK1.out HG.out hlt);have hstop:=fun hz=>replK_stop (m:=m) (p:=p) (D:=D') (E:=E') hlt hz
    have hgo:=fun hz hn ht=>replK_go (m:=m) (p:=p) (D:=D') (E:=E') hlt hz hn ht
    have HF2:=HF1.out;clear hn1 HF1;have t0:=OK1.out.t0;have hru:=OK1.out.r1;have hr0:=OK1.out.r0;have hin:=OK1.out.i0;generalize bK m p D' E'=R at *;obtain⟨D2,E2,z⟩:=R;simp only at hone hstop hgo
    by_cases hz:z=0
    · subst hz;rw[hgo rfl hok.out.nin (hok.out.go rfl)] at HF2;have HF3:=aT HF2;have HT:=aT (hok.out.go rfl);have HR:=aT hok.out.rep;clear HF2 hgo hstop;go_upto_region 1 with fail;go_region_held3 (fun w'=>w'.cell? ⟨g,6,none⟩=some (I E'.tick)/\w'.cell? ⟨g,1,none⟩=some (.pointer (some ⟨e.gi,0,none⟩))) (first | go_keep | (refine⟨?_,?_⟩ <;> assumption)) (first | (go_at_call 119;go_call (hlen) as e' w3 ⟨rfl,rfl⟩) | fail);go_upto_region 3 with (first | ((go_at_call 126;go_call (hone) as e' w4 ⟨A4,n4,c4',rfl,s4⟩);have X4:=aT s4;have hbs4:=ae Xd.out.hs s4.s.size;obtain⟨c0,c1,c2,c3,c4,c5,c6,c7,c8,c9,c10⟩:=s4.i.words;have f8:=s4.i.b.frozen 8;have gl:=s4.i.b.lt;clear s4) | fail);have X5:=aT (EngX.of X4.out.i X4.out.d (SD.out.s.trans X4.out.s) hbs4);have r2:0<=E2.replayed/\E2.replayed<=1024:=by rw[HR.out];omega
      have tk:=ku c6;go_wp2_with fail;go_roundw
      case rel=>
       exact⟨D2,{ E2 with replayed:=E2.replayed+1 },A4,n4,c4',aT (EngX.done (E:={ E2 with replayed:=E2.replayed+1 }) (X5.out.set 8 (I (E2.replayed+1))) rfl),
        aT ⟨hok.out.ok.i0,hok.out.ok.o0,hok.out.ok.t0,hok.out.ok.t1,hok.out.ok.p0,hok.out.ok.p1,by show 0<=E2.replayed+1;omega,by show E2.replayed+1<=E2.tick;rw[HT.out];have:=HR.out;omega,hok.out.ok.cf,hok.out.ok.c64,hok.out.ok.kl,hok.out.ok.kn⟩,HF3,aT (hok.out.nin.trans HN1.out),by
        have h1:=hok.out.waits;have h2:=HT.out;have h3:=HN1.out;simp only at h1 h2 ⊢;omega,aT (hok.out.many.trans HM1.out)⟩
      case measure=>
       have h6:(w4.setCell ⟨g,8,none⟩ (I (E2.replayed+1))).cell? ⟨g,6,none⟩=some (I E2.tick):=(X5.out.set 8 (I (E2.replayed+1))).b.cell 6;have h7:=ku h6;have h8:=tk1.out;have h9:=HT.out;have h3:=HN1.out;simp only[h7,h8];omega
    · have hzb:(z != 0)=true:=by rw[ah];exact hz
      rw[hstop hz] at HF2;have hfin:FIN=(D2,E2,z):=by rw[<- HF2];unfold iK;rw[if_pos hz]
      subst hfin;clear HF2 hgo hstop hz;go_upto_region 1 with fail;go_region_held3 (fun w'=>w'.cell? ⟨g,6,none⟩=some (I E'.tick)/\w'.cell? ⟨g,1,none⟩=some (.pointer (some ⟨e.gi,0,none⟩))) (first | go_keep | (refine⟨?_,?_⟩ <;> assumption)) (first | (go_at_call 119;go_call (hlen) as e' w3 ⟨rfl,rfl⟩) | fail);go_upto_region 3 with (first | ((go_at_call 126;go_call (hone) as e' w4 ⟨A4,n4,c4',rfl,s4⟩);have X4:=aT s4;have hbs4:=ae Xd.out.hs s4.s.size;obtain⟨c0,c1,c2,c3,c4,c5,c6,c7,c8,c9,c10⟩:=s4.i.words;have f8:=s4.i.b.frozen 8;have gl:=s4.i.b.lt;clear s4) | fail);have SF:=aT (show EngS w w4 base q g { e with A:=A4,n:=n4,c:=c4' } m p hash pace D2 E2 from ⟨X4.out.d,X4.out.i,SD.out.s.trans X4.out.s⟩);go_wp2_with fail;go_ret
      first | exact⟨A4,n4,c4',rfl,SF.out⟩ | exact⟨rfl,A4,n4,c4',SF.out⟩
  · have hge:(E'.nIn:Int)<=E'.tick:=aS;have hfin:FIN=gU p hash pace (cR D' E'):=by
     rw[<- HF1.out,replK_end hge];unfold iK;rw[if_neg aZ]
    have hfl:=jS (hash:=hash) (pace:=pace) SD.out.i SD.out.d Xd.out.hs;have hok:=n9 (D:=D') OK1.out;clear HF1;have HM2:=aT (hok.many.trans HM1.out);have hw2:(cR D' E').1.waits.length<800000:=by
     have h1:=hok.waits;have h3:=OK1.out.t0;omega
    have OK2:=aT hok.ok;clear hok;generalize cR D' E'=R at *;obtain⟨D2,E2,z⟩:=R;simp only at hfl hw2
    by_cases hz:z=0
    · subst hz;have hsv:=fun (W:World) (h1:cF W base q g { e with A:=A,n:=n,c:=c } m p hash pace E2) (h2:bc W base q D2) (h3:base<=W.heap.size)=>n7 (hash:=hash) (pace:=pace) h1 OK2.out HG.out h2 h3 (by rw[HM2.out];exact big) hw2
      by_cases hp:pace<=E2.passed
      · have hfin2:gU p hash pace (D2,E2,0)=dg p hash D2 E2:=by unfold gU;rw[if_neg aZ,if_pos hp]
        rw[hfin2] at hfin;clear hfin2;generalize dg p hash D2 E2=V at *;obtain⟨D3,E3,z3⟩:=V;simp only at hsv;subst hfin;go_upto_region 1 with fail;go_region_held3 (fun w'=>w'.cell? ⟨g,6,none⟩=some (I E'.tick)/\w'.cell? ⟨g,1,none⟩=some (.pointer (some ⟨e.gi,0,none⟩))) (first | go_keep | (refine⟨?_,?_⟩ <;> assumption)) (first | (go_at_call 119;go_call (hlen) as e' w3 ⟨rfl,rfl⟩) | fail);go_upto_region 9 with (first | ((go_at_call 127;go_call (hfl) as e' w4 ⟨rfl,s4⟩);have X4:=aT s4;have hbs4:=ae Xd.out.hs s4.s.size;obtain⟨c0,c1,c2,c3,c4,c5,c6,c7,c8,c9,c10⟩:=s4.i.words;clear s4) | fail);have X5:=aT (EngX.done ((EngX.of X4.out.i X4.out.d X4.out.s hbs4).below (Below.drew (Below.refl _ _))) rfl);have hbs5:base<=w4.drew.heap.size:=hbs4;have hsv5:=hsv _ X5.out.i X5.out.d hbs5;go_upto_region 9 with fail;go_region_held3 (fun w'=>w'.cell? ⟨g,7,none⟩=some (I E2.passed)/\w'.cell? ⟨g,5,none⟩=some (I pace)) (first | go_keep | (refine⟨?_,?_⟩ <;> assumption)) (fail);go_wp2_with (first | ((go_at_call 125;go_call (hsv5) as e' w6 ⟨rfl,s6⟩);have X6:=aT s6;clear s6) | fail);go_ret
        first | exact⟨A,n,c,rfl,X6.out.d,X6.out.i,(SD.out.s.trans X5.out.s).trans X6.out.s⟩ | exact⟨rfl,A,n,c,X6.out.d,X6.out.i,(SD.out.s.trans X5.out.s).trans X6.out.s⟩
      · have hfin2:gU p hash pace (D2,E2,0)=(D2,E2,0):=by unfold gU;rw[if_neg aZ,if_neg hp]
        rw[hfin2] at hfin;subst hfin;clear hfin2 hsv;go_upto_region 1 with fail;go_region_held3 (fun w'=>w'.cell? ⟨g,6,none⟩=some (I E'.tick)/\w'.cell? ⟨g,1,none⟩=some (.pointer (some ⟨e.gi,0,none⟩))) (first | go_keep | (refine⟨?_,?_⟩ <;> assumption)) (first | (go_at_call 119;go_call (hlen) as e' w3 ⟨rfl,rfl⟩) | fail);go_upto_region 9 with (first | ((go_at_call 127;go_call (hfl) as e' w4 ⟨rfl,s4⟩);have X4:=aT s4;have hbs4:=ae Xd.out.hs s4.s.size;obtain⟨c0,c1,c2,c3,c4,c5,c6,c7,c8,c9,c10⟩:=s4.i.words;clear s4) | fail);have X5:=aT (EngX.done ((EngX.of X4.out.i X4.out.d X4.out.s hbs4).below (Below.drew (Below.refl _ _))) rfl);have hbs5:base<=w4.drew.heap.size:=hbs4;go_upto_region 9 with fail;go_region_held3 (fun w'=>w'.cell? ⟨g,7,none⟩=some (I E2.passed)/\w'.cell? ⟨g,5,none⟩=some (I pace)) (first | go_keep | (refine⟨?_,?_⟩ <;> assumption)) (fail);go_wp2_with fail;go_ret
        first | exact⟨A,n,c,rfl,X5.out.d,X5.out.i,SD.out.s.trans X5.out.s⟩ | exact⟨rfl,A,n,c,X5.out.d,X5.out.i,SD.out.s.trans X5.out.s⟩
    · have hzb:(z != 0)=true:=by rw[ah];exact hz
      have hfin2:gU p hash pace (D2,E2,z)=(D2,E2,z):=by unfold gU;rw[if_pos hz]
      rw[hfin2] at hfin;subst hfin;clear hfin2 hz;go_upto_region 1 with fail;go_region_held3 (fun w'=>w'.cell? ⟨g,6,none⟩=some (I E'.tick)/\w'.cell? ⟨g,1,none⟩=some (.pointer (some ⟨e.gi,0,none⟩))) (first | go_keep | (refine⟨?_,?_⟩ <;> assumption)) (first | (go_at_call 119;go_call (hlen) as e' w3 ⟨rfl,rfl⟩) | fail);go_wp2_with (first | ((go_at_call 127;go_call (hfl) as e' w4 ⟨rfl,s4⟩);have X4:=aT s4;clear s4) | fail);go_ret
      first | exact⟨A,n,c,rfl,X4.out.d,X4.out.i,SD.out.s.trans X4.out.s⟩ | exact⟨rfl,A,n,c,X4.out.d,X4.out.i,SD.out.s.trans X4.out.s⟩
end
def logN (s:Int):Int:=if s > 4096\/s<13 then 0 else if (s - 11) / 2 > 1024 then 1024 else (s - 11) / 2
theorem plan_no (s:Int)(w:World)(h:s<13\/4096<s) :
 Ca 66 #[I s] w fun e w'=>e=.returned (.tuple #[.agg (#[I 0,I 0,I 0,I 0,I 0,I 0,I 0,I 0,I 0,I 0]),I 2])/\Below w.heap.size w w':=by
 rcases h with h | h
 all_goals
  go_enter Tryz.func66,Tryz.ntmps66;go_wp2;exact bodyPost_ret (v:=.tuple #[.agg (#[I 0,I 0,I 0,I 0,I 0,I 0,I 0,I 0,I 0,I 0]),I 2]) (by simp[results,Tryz.results66,go_sem]) rfl ⟨rfl,by go_grown⟩
theorem plan_yes (s:Int)(w:World)(h:13<=s)(h2:s<=4096) :
 Ca 66 #[I s] w fun e w'=>e=.returned (.tuple #[.agg (#[I 0,I 1,I 1,I 5,I 6,I 5,I 11,I (logN s),I (11+logN s),I (logN s)]),I 0])/\Below w.heap.size w w':=by
 have hl:(logN s=(s - 11) / 2/\(s - 11) / 2<=1024)\/(logN s=1024/\1024<(s - 11) / 2):=by
  unfold logN;rw[if_neg (by omega)];split <;> omega
 rcases hl with ⟨hl,h3⟩ | ⟨hl,h3⟩
 all_goals
  rw[hl];clear hl;go_enter Tryz.func66,Tryz.ntmps66;go_wp2;refine bodyPost_ret (v:=.tuple #[.agg (#[I 0,I 1,I 1,I 5,I 6,I 5,I 11,_,_,_]),I 0]) (by simp[results,Tryz.results66,go_sem];try rfl) rfl ⟨rfl,by go_grown⟩
theorem blkT {w:World}{g:Nat}{t:TypeId}{v0 v1 v2 v3 v4 v5 v6 v7 v8 v9:Value}(h:Blk w g t [v0,v1,v2,v3,v4,v5,v6,v7,v8,v9]):w.cell? ⟨g,0,none⟩=some v0/\w.cell? ⟨g,1,none⟩=some v1/\w.cell? ⟨g,2,none⟩=some v2/\w.cell? ⟨g,3,none⟩=some v3/\w.cell? ⟨g,4,none⟩=some v4/\w.cell? ⟨g,5,none⟩=some v5/\w.cell? ⟨g,6,none⟩=some v6/\w.cell? ⟨g,7,none⟩=some v7/\w.cell? ⟨g,8,none⟩=some v8/\w.cell? ⟨g,9,none⟩=some v9:=⟨h.cell 0,h.cell 1,h.cell 2,h.cell 3,h.cell 4,h.cell 5,h.cell 6,h.cell 7,h.cell 8,h.cell 9⟩
def ca (p:PV):Nat:=fnv (ge p) % 9223372036854775808
section
variable {w w':World} {base m:Nat} {q:bB} {D:aW} {p:PV} {x:PA}
theorem bc.size_ (h:bc w base q D):Ca 48 #[.pointer (some ⟨q.d,0,none⟩)] w fun e w'=>e=.returned (I (D.many:Nat))/\w=w':=by
 obtain⟨A,c,h⟩:=h;exact nu h
theorem bc.many0 (h:bc w base q D):1<=D.many/\D.many<=4096:=by
 obtain⟨A,c,h⟩:=h;exact⟨h.ok.many0,h.ok.many1⟩
theorem may_code (hd:bc w base q D)(hp:dd w x p)(hw:el p)(hv:dw p=false):Ca 99 #[.pointer (some ⟨q.d,0,none⟩),.agg #[.slice x.A1 x.n1 x.c1,.slice x.A2 x.n2 x.c2,I p.regs,.slice x.A3 x.n3 x.c3,.slice x.A4 x.n4 x.c4]] w fun e' w'=>e'=.returned (.tuple #[.agg #[I 0,I 0,I 0,I 0,I 0,I 0,I 0,I 0,I 0,I 0],I 0,I 40])/\Below w.heap.size w w':=by
 have hs:=fun (W:World) (hb:Below w.heap.size w W)=>(hd.below hb).size_
 have hm:=hd.many0;have hvr:=fun (W:World) (hb:Below w.heap.size w W)=>lc x p W (hp.below (b:=w.heap.size) hb aX) hw
 rw[hv] at hvr;have hz:((D.many:Nat):Int)≠0:=aS;have hzb:(((D.many:Nat):Int) == 0)=false:=by rw[af];exact hz
 clear hz hm hd hp;go_enter Tryz.func99,Tryz.ntmps99;go_wp2_with (first | (go_at_call 48;go_call (hs _ ba) as e w1 ⟨rfl,rfl⟩) | ((go_at_call 65;go_call (hvr _ ba) as e w1 ⟨rfl,hb1⟩);have P9:=Blk.below (w':=w1) (g:=w.heap.size+1) (t:=122) (cs:=[I 0,I 0,I 0,I 0,I 0,I 0,I 0,I 0,I 0,I 0]) bH hb1 bq;obtain⟨x0,x1,x2,x3,x4,x5,x6,x7,x8,x9⟩:=blkT P9;have fz:=P9.frozen;have xl:=P9.lt;have B1:=bM (a:=w) (B:=w.heap.size) ba hb1 bq;have s1:=B1.size) | fail);obtain⟨r0,r1,r2,r3,r4,r5,r6,r7,r8,r9⟩:=blkT (show Blk _ (w.heap.size+1) 122 [I 0,I 0,I 0,I 0,I 0,I 0,I 0,I 0,I 0,I 0] from ((((((((((P9.set_ 0 (I 0)).set_ 1 (I 0)).set_ 2 (I 0)).set_ 3 (I 0)).set_ 4 (I 0)).set_ 5 (I 0)).set_ 6 (I 0)).set_ 7 (I 0)).set_ 8 (I 0)).set_ 9 (I 0)));refine bodyPost_ret (v:=.tuple #[.agg #[I 0,I 0,I 0,I 0,I 0,I 0,I 0,I 0,I 0,I 0],I 0,I 40]) mJ rfl ?_;exact⟨rfl,ba⟩
theorem may_plan (hd:bc w base q D)(hp:dd w x p)(hw:el p)(hv:dw p=true)(h13:D.many<13):Ca 99 #[.pointer (some ⟨q.d,0,none⟩),.agg #[.slice x.A1 x.n1 x.c1,.slice x.A2 x.n2 x.c2,I p.regs,.slice x.A3 x.n3 x.c3,.slice x.A4 x.n4 x.c4]] w fun e' w'=>e'=.returned (.tuple #[.agg #[I 0,I 0,I 0,I 0,I 0,I 0,I 0,I 0,I 0,I 0],I 0,I 2])/\Below w.heap.size w w':=by
 have hs:=fun (W:World) (hb:Below w.heap.size w W)=>(hd.below hb).size_
 have hm:=hd.many0;have hvr:=fun (W:World) (hb:Below w.heap.size w W)=>lc x p W (hp.below (b:=w.heap.size) hb aX) hw
 rw[hv] at hvr;have hpl:=fun W=>plan_no (D.many:Nat) W (.inl aS)
 have hzb:(((D.many:Nat):Int) == 0)=false:=by rw[af];omega
 clear hm hd hp h13;go_enter Tryz.func99,Tryz.ntmps99;go_upto_region 7 with (first | (go_at_call 48;(with_reducible refine (hs _ ba).mono ?_);rintro e w1 ⟨rfl,rfl⟩) | (go_at_call 48;(with_reducible refine (hs _ B1).mono ?_);rintro e w1 ⟨rfl,rfl⟩) | ((go_at_call 65;go_call (hvr _ ba) as e w1 ⟨rfl,hb1⟩);have B1:=bM (a:=w) (B:=w.heap.size) ba hb1 bq;have s1:=B1.size;have P1:=Blk.below (w':=w1) (g:=w.heap.size+1) (t:=122) (cs:=[I 0,I 0,I 0,I 0,I 0,I 0,I 0,I 0,I 0,I 0]) bH hb1 bq) | ((go_at_call 66;go_call (hpl _) as e w2 ⟨rfl,hb2⟩);have B2:=B1.trans (hb2.mono s1);have s2:=B2.size;have P2:=Blk.below P1 hb2 P1.lt) | fail);refine dv (fun W=>Blk W (w.heap.size+1) 122 [I 0,I 0,I 0,I 0,I 0,I 0,I 0,I 0,I 0,I 0]/\Below w.heap.size w W) ⟨P2.alloc _,B2.alloc s2 _⟩ ?_;clear P2 P1 B2 B1 s1 s2 hb1 hb2 hs hvr hpl;rintro W ⟨P2,B2⟩;obtain⟨x0,x1,x2,x3,x4,x5,x6,x7,x8,x9⟩:=blkT P2;have fz:=P2.frozen;have xl:=P2.lt;go_wp2_with fail;obtain⟨r0,r1,r2,r3,r4,r5,r6,r7,r8,r9⟩:=blkT (show Blk _ (w.heap.size+1) 122 [I 0,I 0,I 0,I 0,I 0,I 0,I 0,I 0,I 0,I 0] from ((((((((((P2.set_ 0 (I 0)).set_ 1 (I 0)).set_ 2 (I 0)).set_ 3 (I 0)).set_ 4 (I 0)).set_ 5 (I 0)).set_ 6 (I 0)).set_ 7 (I 0)).set_ 8 (I 0)).set_ 9 (I 0)));refine bodyPost_ret (v:=.tuple #[.agg #[I 0,I 0,I 0,I 0,I 0,I 0,I 0,I 0,I 0,I 0],I 0,I 2]) mJ rfl ?_;exact⟨rfl,ba⟩
theorem may_yes (hd:bc w base q D)(hp:dd w x p)(hw:el p)(hv:dw p=true)(h13:13<=D.many)(hm:logN (D.many:Nat)=(m:Nat)):Ca 99 #[.pointer (some ⟨q.d,0,none⟩),.agg #[.slice x.A1 x.n1 x.c1,.slice x.A2 x.n2 x.c2,I p.regs,.slice x.A3 x.n3 x.c3,.slice x.A4 x.n4 x.c4]] w fun e' w'=>e'=.returned (.tuple #[.agg #[I 0,I 1,I 1,I 5,I 6,I 5,I 11,I (m:Nat),I (11+(m:Nat)),I (m:Nat)],I (ca p:Nat),I 0])/\Below w.heap.size w w':=by
 have hs:=fun (W:World) (hb:Below w.heap.size w W)=>(hd.below hb).size_
 have hm4:=hd.many0;have hvr:=fun (W:World) (hb:Below w.heap.size w W)=>lc x p W (hp.below (b:=w.heap.size) hb aX) hw
 rw[hv] at hvr;have hpl:=fun W=>plan_yes (D.many:Nat) W aS aS
 rw[hm] at hpl;have hdg:=fun (W:World) (hb:Below w.heap.size w W)=>digof_ok x p W (hp.below (b:=w.heap.size) hb aX) hw (jq hv).1
 have hzb:(((D.many:Nat):Int) == 0)=false:=by rw[af];omega
 have HHN:=aT (show fnv (ge p) % 9223372036854775808=ca p from rfl);rw[HHN.out] at hdg;generalize ca p=hh at *;clear hm hm4 hd hp h13 HHN;go_enter Tryz.func99,Tryz.ntmps99;go_upto_region 9 with (first | (go_at_call 48;(with_reducible refine (hs _ ba).mono ?_);rintro e w1 ⟨rfl,rfl⟩) | (go_at_call 48;(with_reducible refine (hs _ B1).mono ?_);rintro e w1 ⟨rfl,rfl⟩) | ((go_at_call 65;go_call (hvr _ ba) as e w1 ⟨rfl,hb1⟩);have B1:=bM (a:=w) (B:=w.heap.size) ba hb1 bq;have s1:=B1.size;have X1:=Blk.below (w':=w1) (g:=w.heap.size) (t:=26) (cs:=progC x p) bH hb1 bq;have P1:=Blk.below (w':=w1) (g:=w.heap.size+1) (t:=122) (cs:=[I 0,I 0,I 0,I 0,I 0,I 0,I 0,I 0,I 0,I 0]) bH hb1 bq) | ((go_at_call 66;go_call (hpl _) as e w2 ⟨rfl,hb2⟩);have B2:=B1.trans (hb2.mono s1);have s2:=B2.size;have P2:=Blk.below P1 hb2 P1.lt;have X2:=Blk.below X1 hb2 X1.lt;obtain⟨y0,y1,y2,y3,y4⟩:=blk5 X2;have rK:=X2.lt) | ((go_at_call 67;go_call (hdg _ (B2.alloc s2 _)) as e w3 ⟨rfl,hb3⟩)) | fail);have B3:=(B2.alloc s2 (.cells #[I 0,I 1,I 1,I 5,I 6,I 5,I 11,I (m:Nat),I (11+(m:Nat)),I (m:Nat)] 122)).trans (hb3.mono cH);have s3:=B3.size;have P3:=Blk.below (P2.alloc (.cells #[I 0,I 1,I 1,I 5,I 6,I 5,I 11,I (m:Nat),I (11+(m:Nat)),I (m:Nat)] 122)) hb3 (by have:=P2.lt;simp;omega);have Q3:Blk w3 w2.heap.size 122 [I 0,I 1,I 1,I 5,I 6,I 5,I 11,I (m:Nat),I (11+(m:Nat)),I (m:Nat)]:=Blk.below (Blk.top w2 rfl rfl) hb3 aZ;obtain⟨x0,x1,x2,x3,x4,x5,x6,x7,x8,x9⟩:=blkT P3;have fz:=P3.frozen;have xl:=P3.lt;obtain⟨z0,z1,z2,z3,z4,z5,z6,z7,z8,z9⟩:=blkT Q3;have zl:=Q3.lt;go_wp2_with fail;obtain⟨r0,r1,r2,r3,r4,r5,r6,r7,r8,r9⟩:=blkT (show Blk _ (w.heap.size+1) 122 [I 0,I 1,I 1,I 5,I 6,I 5,I 11,I (m:Nat),I (11+(m:Nat)),I (m:Nat)] from ((((((((((P3.set_ 0 (I 0)).set_ 1 (I 1)).set_ 2 (I 1)).set_ 3 (I 5)).set_ 4 (I 6)).set_ 5 (I 5)).set_ 6 (I 11)).set_ 7 (I (m:Nat))).set_ 8 (I (11+(m:Nat)))).set_ 9 (I (m:Nat))));refine bodyPost_ret (v:=.tuple #[.agg #[I 0,I 1,I 1,I 5,I 6,I 5,I 11,I (m:Nat),I (11+(m:Nat)),I (m:Nat)],I hh,I 0]) mJ rfl ?_;exact⟨rfl,ba⟩
end
end Go.Proofs.YtmeebofhlilcmaaGreat
