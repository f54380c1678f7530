/- Parts. -/
import Derived.Test.YtmeebofhlilcmaaGreatPr23
set_option linter.unusedVariables false
set_option linter.unusedSimpArgs false
set_option maxRecDepth 100000
set_option maxHeartbeats 0
namespace Go.Proofs.YtmeebofhlilcmaaGreat
variable {p:PV} {m:Nat} {D:aX} {E:EgV}
open Go.RowKit
theorem pZ (D:aX)(f m:Nat):-9223372036854775808<=(cd D f m).2.2.1/\(cd D f m).2.2.1<=9223372036854775807:=by
 have h:-9223372036854775808<=(cP D f m 0 2).1/\(cP D f m 0 2).1<=9223372036854775807:=by
  unfold cP
  split
  · exact⟨by simp,by simp⟩
  · unfold eH
    split
    · exact sg_bd (pC _)
    · exact⟨by simp,by simp⟩
 unfold cd
 split
 · exact⟨by simp,by simp⟩
 split
 · exact⟨by simp,by simp⟩
 split
 · exact⟨by simp,by simp⟩
 split
 · exact h
 · exact⟨by simp,by simp⟩
def SOk (s:SlV3):Prop:=(-9223372036854775808<=s.number/\s.number<=9223372036854775807)/\(s.now=2->s.number=0/\s.load=[])
theorem openSV_ok (D:aX)(fl ml fr mr:Nat):SOk (dq D fl ml fr mr).2.1/\(dq D fl ml fr mr).1.many=D.many/\(dq D fl ml fr mr).1.waits=D.waits:=by
 obtain⟨a1,a2⟩:=mK D fl ml;obtain⟨b1,b2⟩:=mK (cd D fl ml).1 fr mr;have n1:=pZ D fl ml;have n2:=pZ (cd D fl ml).1 fr mr;unfold dq
 split
 · exact⟨⟨⟨by simp,by simp⟩,fun _=>⟨rfl,rfl⟩⟩,a1,a2⟩
 split
 · exact⟨⟨⟨by simp,by simp⟩,fun _=>⟨rfl,rfl⟩⟩,b1.trans a1,b2.trans a2⟩
 split
 · exact⟨⟨n1,fun e=>absurd e aZ⟩,b1.trans a1,b2.trans a2⟩
 split
 · exact⟨⟨n2,fun e=>absurd e aZ⟩,b1.trans a1,b2.trans a2⟩
 · exact⟨⟨⟨by simp,by simp⟩,fun _=>⟨rfl,rfl⟩⟩,b1.trans a1,b2.trans a2⟩
theorem saveA_few (D:aX)(f m:Nat)(number:Int)(load:List UInt8)(hl:load.length<=512):(ea D f m number load).1.many=D.many/\(ea D f m number load).1.waits.length<=D.waits.length+6:=by
 obtain⟨a1,a2⟩:=jm D f m 0 bw;obtain⟨b1,b2⟩:=mJ (bK D f m 0 bw).1;obtain⟨f1,f2⟩:=fillV_few (bH (bK D f m 0 bw).1).1 f m load;obtain⟨p1,p2⟩:=pX (dX (bH (bK D f m 0 bw).1).1 f m load).1 f m 0 2 number (dJ load);obtain⟨g1,g2⟩:=mJ (cI (dX (bH (bK D f m 0 bw).1).1 f m load).1 f m 0 2 number (dJ load)).1;have hk4:cu load.length<=4:=by unfold cu;omega
 unfold ea
 split
 · exact⟨a1,aS⟩
 split
 · exact⟨b1.trans a1,aS⟩
 split
 · exact⟨(f1.trans b1).trans a1,aS⟩
 split
 · exact⟨((p1.trans f1).trans b1).trans a1,aS⟩
 · exact⟨(((g1.trans p1).trans f1).trans b1).trans a1,aS⟩
def KpOk (k:KpV):Prop:=SOk k.s/\(k.has=false->k.last=gz)/\k.last.cells.length<=100
theorem KpOk.none_:KpOk hJ:=⟨⟨⟨by decide,by decide⟩,fun _=>⟨rfl,rfl⟩⟩,fun _=>rfl,by decide⟩
theorem p6 {b:List UInt8}(h:(fI p b).2=0):fd p (fI p b).1=true:=by
 unfold fI at h ⊢
 split at h
 · exact absurd h aU
 · rename_i h0;rw[if_neg h0]
   split at h
   · exact absurd h aU
   · rename_i h1;rw[if_neg h1]
     split at h
     · exact absurd h aU
     · rename_i h2;rw[if_neg h2]
       split at h
       · rename_i h3;rw[if_pos h3];exact h3
       · exact absurd h aU
theorem qa {s:SV}(h:fd p s=true):s.cells.length<=100:=by
 obtain⟨m1,_,_,m4,_⟩:=jF.1 h;have:=(dV.1 m1).2.2.2.2.1;omega
theorem oH (D:aX)(fl ml fr mr:Nat)(p:PV)(hash:Int):KpOk (ec D fl ml fr mr p hash).2.1/\(ec D fl ml fr mr p hash).1.many=D.many/\(ec D fl ml fr mr p hash).1.waits=D.waits:=by
 obtain⟨h1,h2,h3⟩:=openSV_ok D fl ml fr mr;unfold ec
 split
 · exact⟨KpOk.none_,rfl,rfl⟩
 · split
   · exact⟨KpOk.none_,h2,h3⟩
   · split
     · exact⟨⟨h1,fun _=>rfl,show gz.cells.length<=100 by decide⟩,h2,h3⟩
     · split
       · exact⟨KpOk.none_,h2,h3⟩
       · rename_i _ _ _ h4
         split
         · exact⟨KpOk.none_,h2,h3⟩
         · refine⟨⟨h1,fun e=>Bool.noConfusion e,qa (p6 ?_)⟩,h2,h3⟩;exact Decidable.byContradiction h4
theorem kOpenV_fits (D:aX)(fl ml fr mr:Nat)(p:PV)(hash:Int)(h:(ec D fl ml fr mr p hash).2.1.has=true):fd p (ec D fl ml fr mr p hash).2.1.last=true/\∃ b,(ec D fl ml fr mr p hash).2.1.last=(fI p b).1/\(fI p b).2=0:=by
 unfold ec at h ⊢
 split
 · rename_i q;rw[if_pos q] at h;cases h
 rename_i q1;rw[if_neg q1] at h
 split
 · rename_i q;rw[if_pos q] at h;cases h
 rename_i q2;rw[if_neg q2] at h
 split
 · rename_i q;rw[if_pos q] at h;cases h
 rename_i q3;rw[if_neg q3] at h
 split
 · rename_i q;rw[if_pos q] at h;cases h
 rename_i q4;rw[if_neg q4] at h
 split
 · rename_i q;rw[if_pos q] at h;cases h
 rename_i q5;have e:=Decidable.byContradiction q4;exact⟨p6 e,_,rfl,e⟩
theorem numAt_in (bs:List UInt8)(i:Nat):In64 (fH bs i):=sg_bd (by
 have h:=lY ((bs.drop i).take 8);have h2:256 ^ ((bs.drop i).take 8).length<=256 ^ 8:=Nat.pow_le_pow_right aS (by rw[aA];omega);omega)
theorem cellsK_in (bs:List UInt8):∀ n,∀ z ∈ fY bs n,In64 z:=fun n z hz=>by
 unfold fY at hz;simp only[List.mem_map] at hz;obtain⟨i,_,rfl⟩:=hz;exact numAt_in _ _
theorem stRead_in {b:List UInt8}:∀ z ∈ (fI p b).1.cells,In64 z:=fun z hz=>by
 unfold fI at hz
 split at hz
 · cases hz
 split at hz
 · cases hz
 split at hz
 · cases hz
 split at hz
 · exact cellsK_in _ _ z hz
 · cases hz
theorem fits_cells {s:SV}(h:fd p s=true):ia p s.cells=true:=by
 obtain⟨_,_,_,h4,h5⟩:=jF.1 h;exact iV.2 ⟨h4,h5⟩
theorem sPutV_few (D:aX)(f m:Nat)(kind:Int)(next:Nat)(ts:List Int)(n:Int)(l:List Int)(hn:next<=m):(ff D f m kind next ts n l).1.many=D.many/\(ff D f m kind next ts n l).1.waits.length<=D.waits.length+1/\(ff D f m kind next ts n l).2.1<=m:=by
 obtain⟨a1,a2,a3⟩:=jAddV_few D f m kind next (rowB ts l ts.length) hn;unfold ff
 split
 · exact⟨rfl,by simp,hn⟩
 split
 · exact⟨rfl,by simp,hn⟩
 split
 · exact⟨rfl,by simp,hn⟩
 split
 · exact⟨a1,a2,a3⟩
 · exact⟨a1,a2,a3⟩
theorem fAddV_few (D:aX)(f m:Nat)(kind:Int)(next:Nat)(ts l:List Int)(hn:next<=m):(dY D f m kind next ts l).1.many=D.many/\(dY D f m kind next ts l).1.waits.length<=D.waits.length+1/\(dY D f m kind next ts l).2.1<=m/\next<=(dY D f m kind next ts l).2.1:=by
 obtain⟨a1,a2,a3⟩:=jAddV_few D f m kind next (rowB ts l ts.length) hn;have a4:next<=(cO D f m kind next (rowB ts l ts.length)).2.1:=by
  unfold cO
  split
  · exact Nat.le_refl _
  split
  · exact Nat.le_refl _
  split
  · exact Nat.le_refl _
  · exact Nat.le_succ _
 have h:(cE D f m kind next ts l).1.many=D.many/\(cE D f m kind next ts l).1.waits.length<=D.waits.length+1/\(cE D f m kind next ts l).2.1<=m/\next<=(cE D f m kind next ts l).2.1:=by
  unfold cE
  split
  · exact⟨rfl,by simp,hn,Nat.le_refl _⟩
  · exact⟨a1,a2,a3,a4⟩
 obtain⟨b1,b2,b3,b4⟩:=h;obtain⟨c1,c2⟩:=oB (cE D f m kind next ts l).1;unfold dY
 split
 · exact⟨b1,b2,b3,b4⟩
 split
 · exact⟨c1.trans b1,by simp only;omega,b3,b4⟩
 · exact⟨c1.trans b1,by simp only;omega,b3,b4⟩
section
variable {m:Nat} {p:PV} {D:aX} {E:EgV} {hash pace:Int}
structure OneOk (m:Nat)(p:PV)(D:aX)(E:EgV)(R:aX × EgV × Int):Prop where
 ok:EgOk m p R.2.1
 many:R.1.many=D.many
 waits:R.1.waits.length<=D.waits.length+1
 nin:R.2.1.nIn=E.nIn
 rep:R.2.1.replayed=E.replayed
 go:R.2.2=0->R.2.1.tick=E.tick+1
 st:R.2.2≠0->R.2.1.tick=E.tick
theorem lN (ok:EgOk m p E)(G:PrgW p m)(ht:E.tick<(E.nIn:Int)):OneOk m p D E (bL m p D E):=by
 have hrow:=fGetV_row (D:=D) (f:=11) (m:=m) (next:=E.nIn) (kind:=3) (ts:=p.ins) (n:=E.tick);have hkeep:=mu D 11 m 3 E.nIn p.ins E.tick;unfold bL;generalize dm D 11 m 3 E.nIn p.ins E.tick=R at *;obtain⟨D1,l,z1⟩:=R;simp only at hrow hkeep;obtain⟨o,hD1⟩:=hkeep;subst hD1;unfold iJ
 by_cases hz1:z1=0
 rotate_left 1
 · rw[if_pos hz1];exact⟨ok,rfl,Nat.le_succ _,rfl,rfl,fun q=>absurd q hz1,fun _=>rfl⟩
 subst hz1;rw[if_neg aZ];obtain⟨f1,f2⟩:=hrow rfl;obtain⟨g1,g2,_,g4,_⟩:=mC G.hv G.hw ok.cf f1 ok.c64 (intok_in f2);unfold eOneB;simp only;rw[if_neg (by rw[g1];simp)];generalize eQ p E.cells l=T at *;obtain⟨s1,s2,s3⟩:=sPutV_few { D with ops:=o } (11+m) m 4 E.nOut p.outs E.tick T.2.1 ok.o0;generalize ff { D with ops:=o } (11+m) m 4 E.nOut p.outs E.tick T.2.1=S at *;unfold gQ
 split
 · rename_i q;exact⟨⟨ok.i0,s3,ok.t0,ok.t1,ok.p0,ok.p1,ok.r0,ok.r1,ok.cf,ok.c64,ok.kl,ok.kn⟩,s1,s2,rfl,rfl,fun q'=>absurd q' q,fun _=>rfl⟩
 · have:=ok.t0;have:=ok.p0;have:=ok.p1;have:=ok.r1;refine⟨⟨ok.i0,s3,?_,?_,?_,?_,ok.r0,?_,g2,g4,ok.kl,ok.kn⟩,s1,s2,rfl,rfl,fun _=>rfl,fun q=>absurd rfl q⟩
   · show 0<=E.tick+1;omega
   · show E.tick+1<=(E.nIn:Int);omega
   · show 0<=E.passed+1;omega
   · show E.passed+1<=E.tick+1;omega
   · show E.replayed<=E.tick+1;omega
structure SameOk (m:Nat)(p:PV)(D:aX)(E:EgV)(more:Nat)(R:aX × EgV × Int):Prop where
 ok:EgOk m p R.2.1
 many:R.1.many=D.many
 waits:R.1.waits.length<=D.waits.length+more
 nin:R.2.1.nIn=E.nIn
 rep:R.2.1.replayed=E.replayed
 tick:R.2.1.tick=E.tick
 off:R.2.1.off=E.off
theorem oI (ok:EgOk m p E):SameOk m p D E 0 (cU D E):=by
 unfold cU
 split
 · exact⟨ok,rfl,by simp,rfl,rfl,rfl,rfl⟩
 · exact⟨⟨ok.i0,ok.o0,ok.t0,ok.t1,ok.p0,ok.p1,ok.r0,ok.r1,ok.cf,ok.c64,ok.kl,ok.kn⟩,oF D,oE D,rfl,rfl,rfl,rfl⟩
theorem kSaveV_ok2 (D:aX)(fl ml fr mr:Nat)(p:PV)(hash tick:Int)(k:KpV)(cells:List Int)(h:-9223372036854775808<=k.s.number/\k.s.number<=9223372036854775807)(hl:k.last.cells.length<=100) :
 (-9223372036854775808<=(eM D fl ml fr mr p hash k tick cells).2.1.s.number/\(eM D fl ml fr mr p hash k tick cells).2.1.s.number<=9223372036854775807)/\(eM D fl ml fr mr p hash k tick cells).2.1.last.cells.length<=100/\(eM D fl ml fr mr p hash k tick cells).1.many=D.many/\(eM D fl ml fr mr p hash k tick cells).1.waits.length<=D.waits.length+6:=by
 have hs:(-9223372036854775808<=(dj D fl ml fr mr k.s (stBs ⟨tick,hash,cells⟩)).2.1.number/\(dj D fl ml fr mr k.s (stBs ⟨tick,hash,cells⟩)).2.1.number<=9223372036854775807)/\(dj D fl ml fr mr k.s (stBs ⟨tick,hash,cells⟩)).1.many=D.many/\(dj D fl ml fr mr k.s (stBs ⟨tick,hash,cells⟩)).1.waits.length<=D.waits.length+6:=by
  unfold dj;generalize (if k.s.now=0 then fr else fl)=f1;generalize (if k.s.now=0 then mr else ml)=m1;generalize (if k.s.now=0 then 1 else 0)=o1
  split
  · exact⟨h,rfl,by simp⟩
  rename_i q;obtain⟨b1,b2⟩:=saveA_few D f1 m1 (k.s.number+1) (stBs ⟨tick,hash,cells⟩) aS
  split
  · exact⟨h,b1,b2⟩
  · exact⟨⟨by simp only;omega,by simp only;omega⟩,b1,b2⟩
 obtain⟨h1,h2,h3⟩:=hs;unfold eM
 split
 · exact⟨h,hl,rfl,by simp⟩
 rename_i hf
 split
 · exact⟨h1,hl,h2,h3⟩
 · exact⟨h1,qa (p:=p) (by cases q:fd p ⟨tick,hash,cells⟩ with | true=>rfl | false=>exact absurd q hf),h2,h3⟩
theorem mM (ok:EgOk m p E):SameOk m p D E 6 (dr p hash D E):=by
 unfold dr iX;have a1:=oF D;have a2:=oE D;have:=ok.t0
 split
 · exact⟨ok,a1,by simp only;omega,rfl,rfl,rfl,rfl⟩
 obtain⟨b1,b2,b3,b4⟩:=kSaveV_ok2 (bH D).1 1 5 6 5 p hash E.tick E.k E.cells ok.kn ok.kl;generalize eM (bH D).1 1 5 6 5 p hash E.k E.tick E.cells=K at *;unfold iW
 split
 · exact⟨⟨ok.i0,ok.o0,ok.t0,ok.t1,ok.p0,ok.p1,ok.r0,ok.r1,ok.cf,ok.c64,b2,b1⟩,b3.trans a1,by simp only;omega,rfl,rfl,rfl,rfl⟩
 · exact⟨⟨ok.i0,ok.o0,ok.t0,ok.t1,Int.le_refl _,ok.t0,ok.r0,ok.r1,ok.cf,ok.c64,b2,b1⟩,b3.trans a1,by simp only;omega,rfl,rfl,rfl,rfl⟩
end
def tickAt (w:World)(g:Nat):Int:=intOf ((w.cell? ⟨g,6,none⟩).getD (I 0))
theorem kY {w:World}{g:Nat}{t:Int}(h:w.cell? ⟨g,6,none⟩=some (I t)):tickAt w g=t:=by unfold tickAt;rw[h];rfl
theorem replK_end (h:(E.nIn:Int)<=E.tick):eD m p ((E.nIn:Int) - E.tick).toNat D E=(D,E,0):=by
 rw[show ((E.nIn:Int) - E.tick).toNat=0 by omega];rfl
theorem replK_stop (h:E.tick<(E.nIn:Int))(hz:(bL m p D E).2.2≠0):eD m p ((E.nIn:Int) - E.tick).toNat D E=bL m p D E:=by
 obtain⟨k,hk⟩:∃ k,((E.nIn:Int) - E.tick).toNat=k+1:=⟨((E.nIn:Int) - E.tick).toNat - 1,aS⟩;rw[hk]
 show (if _ then _ else _)=_
 rw[if_pos hz]
theorem replK_go (h:E.tick<(E.nIn:Int))(hz:(bL m p D E).2.2=0)(hn:(bL m p D E).2.1.nIn=E.nIn)(ht:(bL m p D E).2.1.tick=E.tick+1) :
 eD m p ((E.nIn:Int) - E.tick).toNat D E=eD m p ((({ (bL m p D E).2.1 with replayed:=(bL m p D E).2.1.replayed+1 }:EgV).nIn:Int) - ({ (bL m p D E).2.1 with replayed:=(bL m p D E).2.1.replayed+1 }:EgV).tick).toNat (bL m p D E).1 { (bL m p D E).2.1 with replayed:=(bL m p D E).2.1.replayed+1 }:=by
 obtain⟨k,hk⟩:∃ k,((E.nIn:Int) - E.tick).toNat=k+1:=⟨((E.nIn:Int) - E.tick).toNat - 1,aS⟩;have hk2:(((bL m p D E).2.1.nIn:Int) - (bL m p D E).2.1.tick).toNat=k:=by rw[hn,ht];omega
 rw[hk]
 show (if _ then _ else _)=eD m p (((bL m p D E).2.1.nIn:Int) - (bL m p D E).2.1.tick).toNat _ _
 rw[if_neg (by rw[hz];simp),hk2]
section
variable {w w':World} {base g m:Nat} {q:bE} {D:aX} {e:EP} {p:PV} {hash pace:Int} {E:EgV}
theorem erepl_any (h:cF w base q g e m p hash pace E)(ok:EgOk m p E)(G:PrgW p m)(hd:be w base q D)(hs:base<=w.heap.size)(big:11+2 * m<=D.many)(hwt:D.waits.length<700000)(ht0:E.replayed=0) :
 Ca 108 #[.pointer (some ⟨g,0,none⟩)] w fun e' w'=>∃ A n c,e'=.returned (I (eh m p hash pace D E).2.2)/\EngS w w' base q g { e with A:=A,n:=n,c:=c } m p hash pace (eh m p hash pace D E).1 (eh m p hash pace D E).2.1:=by
 have hm2:=G.m2;have HG:=aT G;have HF:=aT (show jo p hash pace (eD m p ((E.nIn:Int) - E.tick).toNat D E)=eh m p hash pace D E from rfl);generalize eh m p hash pace D E=FIN at *;have S0:=aT (EngX.done (EngX.of h hd (Step.refl mutE base q w) hs) rfl);have OK0:=aT ok;have hni:=ok.i0;have ht00:=ok.t0;clear h hd ok G;go_enter Tryz.func108,Tryz.ntmps108;go_wp2_with fail;go_loopw [] (fun wr=>∃ (D':aX) (E':EgV) (A:Option Addr) (n c:Nat),Hid (EngS w wr base q g { e with A:=A,n:=n,c:=c } m p hash pace D' E')/\Hid (EgOk m p E')/\Hid (jo p hash pace (eD m p ((E'.nIn:Int) - E'.tick).toNat D' E')=FIN)/\Hid (E'.nIn=E.nIn)/\D'.waits.length+(E.nIn - E'.tick).toNat<=D.waits.length+(E.nIn - E.tick).toNat/\Hid (D'.many=D.many)) (fun wr=>((E.nIn:Int) - tickAt wr g).toNat)
 case atStart=>exact⟨D,E,e.A,e.n,e.c,S0,OK0,HF,aT rfl,Nat.le_refl _,aT rfl⟩
 case round=>
  obtain⟨D',E',A,n,c,S1,OK1,HF1,HN1,hw1,HM1⟩:=hrel;clear S0 OK0 HF;obtain⟨c0,c1,c2,c3,c4,c5,c6,c7,c8,c9,c10⟩:=S1.out.i.words;have tk1:=aT (kY c6);have hbs:=ae hs S1.out.s.size;have hlen:=lM (S1.out.i.r.below (Below.drew (Below.refl _ _))).inn;have Xd:=aT ((EngX.of S1.out.i S1.out.d S1.out.s hbs).below (Below.drew (Below.refl _ _)));have SD:=aT (EngX.done Xd.out rfl)
  by_cases hlt:E'.tick<(E'.nIn:Int)
  · have hn1:=HN1.out;have hone:=one_any (hash:=hash) (pace:=pace) SD.out.i OK1.out HG.out SD.out.d Xd.out.hs (by rw[HM1.out];exact big) hlt aS;have hok:=aT (lN (D:=D') OK1.out HG.out hlt);have hstop:=fun hz=>replK_stop (m:=m) (p:=p) (D:=D') (E:=E') hlt hz
    have hgo:=fun hz hn ht=>replK_go (m:=m) (p:=p) (D:=D') (E:=E') hlt hz hn ht
    have HF2:=HF1.out;clear hn1 HF1;have t0:=OK1.out.t0;have hru:=OK1.out.r1;have hr0:=OK1.out.r0;have hin:=OK1.out.i0;generalize bL m p D' E'=R at *;obtain⟨D2,E2,z⟩:=R;simp only at hone hstop hgo
    by_cases hz:z=0
    · subst hz;rw[hgo rfl hok.out.nin (hok.out.go rfl)] at HF2;have HF3:=aT HF2;have HT:=aT (hok.out.go rfl);have HR:=aT hok.out.rep;clear HF2 hgo hstop;go_upto_region 1 with fail;go_region_held3 (fun w'=>w'.cell? ⟨g,6,none⟩=some (I E'.tick)/\w'.cell? ⟨g,1,none⟩=some (.pointer (some ⟨e.gi,0,none⟩))) (first | go_keep | (refine⟨?_,?_⟩ <;> assumption)) (first | (go_at_call 119;go_call (hlen) as e' w3 ⟨rfl,rfl⟩) | fail);go_upto_region 3 with (first | ((go_at_call 126;go_call (hone) as e' w4 ⟨A4,n4,c4',rfl,s4⟩);have X4:=aT s4;have hbs4:=ae Xd.out.hs s4.s.size;obtain⟨c0,c1,c2,c3,c4,c5,c6,c7,c8,c9,c10⟩:=s4.i.words;have f8:=s4.i.b.frozen 8;have gl:=s4.i.b.lt;clear s4) | fail);have X5:=aT (EngX.of X4.out.i X4.out.d (SD.out.s.trans X4.out.s) hbs4);have r2:0<=E2.replayed/\E2.replayed<=1024:=by rw[HR.out];omega
      have tk:=kY c6;go_wp2_with fail;go_roundw
      case rel=>
       exact⟨D2,{ E2 with replayed:=E2.replayed+1 },A4,n4,c4',aT (EngX.done (E:={ E2 with replayed:=E2.replayed+1 }) (X5.out.set 8 (I (E2.replayed+1))) rfl),
        aT ⟨hok.out.ok.i0,hok.out.ok.o0,hok.out.ok.t0,hok.out.ok.t1,hok.out.ok.p0,hok.out.ok.p1,by show 0<=E2.replayed+1;omega,by show E2.replayed+1<=E2.tick;rw[HT.out];have:=HR.out;omega,hok.out.ok.cf,hok.out.ok.c64,hok.out.ok.kl,hok.out.ok.kn⟩,HF3,aT (hok.out.nin.trans HN1.out),by
        have h1:=hok.out.waits;have h2:=HT.out;have h3:=HN1.out;simp only at h1 h2 ⊢;omega,aT (hok.out.many.trans HM1.out)⟩
      case measure=>
       have h6:(w4.setCell ⟨g,8,none⟩ (I (E2.replayed+1))).cell? ⟨g,6,none⟩=some (I E2.tick):=(X5.out.set 8 (I (E2.replayed+1))).b.cell 6;have h7:=kY h6;have h8:=tk1.out;have h9:=HT.out;have h3:=HN1.out;simp only[h7,h8];omega
    · have hzb:(z != 0)=true:=by rw[ag];exact hz
      rw[hstop hz] at HF2;have hfin:FIN=(D2,E2,z):=by rw[<- HF2];unfold jo;rw[if_pos hz]
      subst hfin;clear HF2 hgo hstop hz;go_upto_region 1 with fail;go_region_held3 (fun w'=>w'.cell? ⟨g,6,none⟩=some (I E'.tick)/\w'.cell? ⟨g,1,none⟩=some (.pointer (some ⟨e.gi,0,none⟩))) (first | go_keep | (refine⟨?_,?_⟩ <;> assumption)) (first | (go_at_call 119;go_call (hlen) as e' w3 ⟨rfl,rfl⟩) | fail);go_upto_region 3 with (first | ((go_at_call 126;go_call (hone) as e' w4 ⟨A4,n4,c4',rfl,s4⟩);have X4:=aT s4;have hbs4:=ae Xd.out.hs s4.s.size;obtain⟨c0,c1,c2,c3,c4,c5,c6,c7,c8,c9,c10⟩:=s4.i.words;have f8:=s4.i.b.frozen 8;have gl:=s4.i.b.lt;clear s4) | fail);have SF:=aT (show EngS w w4 base q g { e with A:=A4,n:=n4,c:=c4' } m p hash pace D2 E2 from ⟨X4.out.d,X4.out.i,SD.out.s.trans X4.out.s⟩);go_wp2_with fail;go_ret
      first | exact⟨A4,n4,c4',rfl,SF.out⟩ | exact⟨rfl,A4,n4,c4',SF.out⟩
  · have hge:(E'.nIn:Int)<=E'.tick:=aS;have hfin:FIN=iK p hash pace (cU D' E'):=by
     rw[<- HF1.out,replK_end hge];unfold jo;rw[if_neg aZ]
    have hfl:=ku (hash:=hash) (pace:=pace) SD.out.i SD.out.d Xd.out.hs;have hok:=oI (D:=D') OK1.out;clear HF1;have HM2:=aT (hok.many.trans HM1.out);have hw2:(cU D' E').1.waits.length<800000:=by
     have h1:=hok.waits;have h3:=OK1.out.t0;omega
    have OK2:=aT hok.ok;clear hok;generalize cU D' E'=R at *;obtain⟨D2,E2,z⟩:=R;simp only at hfl hw2
    by_cases hz:z=0
    · subst hz;have hsv:=fun (W:World) (h1:cF W base q g { e with A:=A,n:=n,c:=c } m p hash pace E2) (h2:be W base q D2) (h3:base<=W.heap.size)=>oG (hash:=hash) (pace:=pace) h1 OK2.out HG.out h2 h3 (by rw[HM2.out];exact big) hw2
      by_cases hp:pace<=E2.passed
      · have hfin2:iK p hash pace (D2,E2,0)=dr p hash D2 E2:=by unfold iK;rw[if_neg aZ,if_pos hp]
        rw[hfin2] at hfin;clear hfin2;generalize dr p hash D2 E2=V at *;obtain⟨D3,E3,z3⟩:=V;simp only at hsv;subst hfin;go_upto_region 1 with fail;go_region_held3 (fun w'=>w'.cell? ⟨g,6,none⟩=some (I E'.tick)/\w'.cell? ⟨g,1,none⟩=some (.pointer (some ⟨e.gi,0,none⟩))) (first | go_keep | (refine⟨?_,?_⟩ <;> assumption)) (first | (go_at_call 119;go_call (hlen) as e' w3 ⟨rfl,rfl⟩) | fail);go_upto_region 9 with (first | ((go_at_call 127;go_call (hfl) as e' w4 ⟨rfl,s4⟩);have X4:=aT s4;have hbs4:=ae Xd.out.hs s4.s.size;obtain⟨c0,c1,c2,c3,c4,c5,c6,c7,c8,c9,c10⟩:=s4.i.words;clear s4) | fail);have X5:=aT (EngX.done ((EngX.of X4.out.i X4.out.d X4.out.s hbs4).below (Below.drew (Below.refl _ _))) rfl);have hbs5:base<=w4.drew.heap.size:=hbs4;have hsv5:=hsv _ X5.out.i X5.out.d hbs5;go_upto_region 9 with fail;go_region_held3 (fun w'=>w'.cell? ⟨g,7,none⟩=some (I E2.passed)/\w'.cell? ⟨g,5,none⟩=some (I pace)) (first | go_keep | (refine⟨?_,?_⟩ <;> assumption)) (fail);go_wp2_with (first | ((go_at_call 125;go_call (hsv5) as e' w6 ⟨rfl,s6⟩);have X6:=aT s6;clear s6) | fail);go_ret
        first | exact⟨A,n,c,rfl,X6.out.d,X6.out.i,(SD.out.s.trans X5.out.s).trans X6.out.s⟩ | exact⟨rfl,A,n,c,X6.out.d,X6.out.i,(SD.out.s.trans X5.out.s).trans X6.out.s⟩
      · have hfin2:iK p hash pace (D2,E2,0)=(D2,E2,0):=by unfold iK;rw[if_neg aZ,if_neg hp]
        rw[hfin2] at hfin;subst hfin;clear hfin2 hsv;go_upto_region 1 with fail;go_region_held3 (fun w'=>w'.cell? ⟨g,6,none⟩=some (I E'.tick)/\w'.cell? ⟨g,1,none⟩=some (.pointer (some ⟨e.gi,0,none⟩))) (first | go_keep | (refine⟨?_,?_⟩ <;> assumption)) (first | (go_at_call 119;go_call (hlen) as e' w3 ⟨rfl,rfl⟩) | fail);go_upto_region 9 with (first | ((go_at_call 127;go_call (hfl) as e' w4 ⟨rfl,s4⟩);have X4:=aT s4;have hbs4:=ae Xd.out.hs s4.s.size;obtain⟨c0,c1,c2,c3,c4,c5,c6,c7,c8,c9,c10⟩:=s4.i.words;clear s4) | fail);have X5:=aT (EngX.done ((EngX.of X4.out.i X4.out.d X4.out.s hbs4).below (Below.drew (Below.refl _ _))) rfl);have hbs5:base<=w4.drew.heap.size:=hbs4;go_upto_region 9 with fail;go_region_held3 (fun w'=>w'.cell? ⟨g,7,none⟩=some (I E2.passed)/\w'.cell? ⟨g,5,none⟩=some (I pace)) (first | go_keep | (refine⟨?_,?_⟩ <;> assumption)) (fail);go_wp2_with fail;go_ret
        first | exact⟨A,n,c,rfl,X5.out.d,X5.out.i,SD.out.s.trans X5.out.s⟩ | exact⟨rfl,A,n,c,X5.out.d,X5.out.i,SD.out.s.trans X5.out.s⟩
    · have hzb:(z != 0)=true:=by rw[ag];exact hz
      have hfin2:iK p hash pace (D2,E2,z)=(D2,E2,z):=by unfold iK;rw[if_pos hz]
      rw[hfin2] at hfin;subst hfin;clear hfin2 hz;go_upto_region 1 with fail;go_region_held3 (fun w'=>w'.cell? ⟨g,6,none⟩=some (I E'.tick)/\w'.cell? ⟨g,1,none⟩=some (.pointer (some ⟨e.gi,0,none⟩))) (first | go_keep | (refine⟨?_,?_⟩ <;> assumption)) (first | (go_at_call 119;go_call (hlen) as e' w3 ⟨rfl,rfl⟩) | fail);go_wp2_with (first | ((go_at_call 127;go_call (hfl) as e' w4 ⟨rfl,s4⟩);have X4:=aT s4;clear s4) | fail);go_ret
      first | exact⟨A,n,c,rfl,X4.out.d,X4.out.i,SD.out.s.trans X4.out.s⟩ | exact⟨rfl,A,n,c,X4.out.d,X4.out.i,SD.out.s.trans X4.out.s⟩
end
def logN (s:Int):Int:=if s > 4096\/s<13 then 0 else if (s - 11) / 2 > 1024 then 1024 else (s - 11) / 2
theorem plan_yes (s:Int)(w:World)(h:13<=s)(h2:s<=4096) :
 Ca 66 #[I s] w fun e w'=>e=.returned (.tuple #[.agg (#[I 0,I 1,I 1,I 5,I 6,I 5,I 11,I (logN s),I (11+logN s),I (logN s)]),I 0])/\Below w.heap.size w w':=by
 have hl:(logN s=(s - 11) / 2/\(s - 11) / 2<=1024)\/(logN s=1024/\1024<(s - 11) / 2):=by
  unfold logN;rw[if_neg (by omega)];split <;> omega
 rcases hl with ⟨hl,h3⟩ | ⟨hl,h3⟩
 all_goals
  rw[hl];clear hl;go_enter Tryz.func66,Tryz.ntmps66;go_wp2;refine bodyPost_ret (v:=.tuple #[.agg (#[I 0,I 1,I 1,I 5,I 6,I 5,I 11,_,_,_]),I 0]) (by simp[results,Tryz.results66,go_sem];try rfl) rfl ⟨rfl,by go_grown⟩
theorem log_any (s:Int)(w:World) :
 Ca 18 #[I s] w fun e w'=>e=.returned (I (logN s))/\w=w':=by
 have hl:(logN s=0/\s<13)\/(logN s=0/\4096<s)\/(logN s=(s - 11) / 2/\(s - 11) / 2<=1024/\13<=s/\s<=4096)\/(logN s=1024/\1024<(s - 11) / 2/\13<=s/\s<=4096):=by
  unfold logN;split;omega;split <;> omega
 rcases hl with ⟨hl,h3⟩ | ⟨hl,h3⟩ | ⟨hl,h3,h4,h5⟩ | ⟨hl,h3,h4,h5⟩
 all_goals
  rw[hl];clear hl;go_enter Tryz.func18,Tryz.ntmps18;go_wp2;go_ret;exact⟨rfl,rfl⟩
theorem blkT {w:World}{g:Nat}{t:TypeId}{v0 v1 v2 v3 v4 v5 v6 v7 v8 v9:Value}(h:Blk w g t [v0,v1,v2,v3,v4,v5,v6,v7,v8,v9]):w.cell? ⟨g,0,none⟩=some v0/\w.cell? ⟨g,1,none⟩=some v1/\w.cell? ⟨g,2,none⟩=some v2/\w.cell? ⟨g,3,none⟩=some v3/\w.cell? ⟨g,4,none⟩=some v4/\w.cell? ⟨g,5,none⟩=some v5/\w.cell? ⟨g,6,none⟩=some v6/\w.cell? ⟨g,7,none⟩=some v7/\w.cell? ⟨g,8,none⟩=some v8/\w.cell? ⟨g,9,none⟩=some v9:=⟨h.cell 0,h.cell 1,h.cell 2,h.cell 3,h.cell 4,h.cell 5,h.cell 6,h.cell 7,h.cell 8,h.cell 9⟩
def cw (p:PV):Nat:=fnv (gw p) % 9223372036854775808
section
variable {w w':World} {base m:Nat} {q:bE} {D:aX} {p:PV} {x:PA}
theorem be.size_ (h:be w base q D):Ca 48 #[.pointer (some ⟨q.d,0,none⟩)] w fun e w'=>e=.returned (I (D.many:Nat))/\w=w':=by
 obtain⟨A,c,h⟩:=h;exact size_any h
theorem be.many0 (h:be w base q D):1<=D.many/\D.many<=4096:=by
 obtain⟨A,c,h⟩:=h;exact⟨h.ok.many0,h.ok.many1⟩
theorem may_yes (hd:be w base q D)(hp:cC w x p)(hw:eO p)(hv:dF p=true)(h13:13<=D.many)(hm:logN (D.many:Nat)=(m:Nat)):Ca 99 #[.pointer (some ⟨q.d,0,none⟩),.agg #[.slice x.A1 x.n1 x.c1,.slice x.A2 x.n2 x.c2,I p.regs,.slice x.A3 x.n3 x.c3,.slice x.A4 x.n4 x.c4]] w fun e' w'=>e'=.returned (.tuple #[.agg #[I 0,I 1,I 1,I 5,I 6,I 5,I 11,I (m:Nat),I (11+(m:Nat)),I (m:Nat)],I (cw p:Nat),I 0])/\Below w.heap.size w w':=by
 have hs:=fun (W:World) (hb:Below w.heap.size w W)=>(hd.below hb).size_
 have hm4:=hd.many0;have hvr:=fun (W:World) (hb:Below w.heap.size w W)=>oy x p W (hp.below (b:=w.heap.size) hb aW) hw
 rw[hv] at hvr;have hpl:=fun W=>plan_yes (D.many:Nat) W aS aS
 rw[hm] at hpl;have hdg:=fun (W:World) (hb:Below w.heap.size w W)=>digof_ok x p W (hp.below (b:=w.heap.size) hb aW) hw (jK hv).1
 have hzb:(((D.many:Nat):Int) == 0)=false:=by rw[af];omega
 have HHN:=aT (show fnv (gw p) % 9223372036854775808=cw p from rfl);rw[HHN.out] at hdg;generalize cw p=hh at *;clear hm hm4 hd hp h13 HHN;go_enter Tryz.func99,Tryz.ntmps99;go_upto_region 9 with (first | (go_at_call 48;(with_reducible refine (hs _ bc).mono ?_);rintro e w1 ⟨rfl,rfl⟩) | (go_at_call 48;(with_reducible refine (hs _ B1).mono ?_);rintro e w1 ⟨rfl,rfl⟩) | ((go_at_call 65;go_call (hvr _ bc) as e w1 ⟨rfl,hb1⟩);have B1:=bO (a:=w) (B:=w.heap.size) bc hb1 br;have s1:=B1.size;have X1:=Blk.below (w':=w1) (g:=w.heap.size) (t:=26) (cs:=progC x p) bI hb1 br;have P1:=Blk.below (w':=w1) (g:=w.heap.size+1) (t:=122) (cs:=[I 0,I 0,I 0,I 0,I 0,I 0,I 0,I 0,I 0,I 0]) bI hb1 br) | ((go_at_call 66;go_call (hpl _) as e w2 ⟨rfl,hb2⟩);have B2:=B1.trans (hb2.mono s1);have s2:=B2.size;have P2:=Blk.below P1 hb2 P1.lt;have X2:=Blk.below X1 hb2 X1.lt;obtain⟨y0,y1,y2,y3,y4⟩:=blk5 X2;have qD:=X2.lt) | ((go_at_call 67;go_call (hdg _ (B2.alloc s2 _)) as e w3 ⟨rfl,hb3⟩)) | fail);have B3:=(B2.alloc s2 (.cells #[I 0,I 1,I 1,I 5,I 6,I 5,I 11,I (m:Nat),I (11+(m:Nat)),I (m:Nat)] 122)).trans (hb3.mono cR);have s3:=B3.size;have P3:=Blk.below (P2.alloc (.cells #[I 0,I 1,I 1,I 5,I 6,I 5,I 11,I (m:Nat),I (11+(m:Nat)),I (m:Nat)] 122)) hb3 (by have:=P2.lt;simp;omega);have Q3:Blk w3 w2.heap.size 122 [I 0,I 1,I 1,I 5,I 6,I 5,I 11,I (m:Nat),I (11+(m:Nat)),I (m:Nat)]:=Blk.below (Blk.top w2 rfl rfl) hb3 aZ;obtain⟨x0,x1,x2,x3,x4,x5,x6,x7,x8,x9⟩:=blkT P3;have fz:=P3.frozen;have xl:=P3.lt;obtain⟨z0,z1,z2,z3,z4,z5,z6,z7,z8,z9⟩:=blkT Q3;have zl:=Q3.lt;go_wp2_with fail;obtain⟨r0,r1,r2,r3,r4,r5,r6,r7,r8,r9⟩:=blkT (show Blk _ (w.heap.size+1) 122 [I 0,I 1,I 1,I 5,I 6,I 5,I 11,I (m:Nat),I (11+(m:Nat)),I (m:Nat)] from ((((((((((P3.set_ 0 (I 0)).set_ 1 (I 1)).set_ 2 (I 1)).set_ 3 (I 5)).set_ 4 (I 6)).set_ 5 (I 5)).set_ 6 (I 11)).set_ 7 (I (m:Nat))).set_ 8 (I (11+(m:Nat)))).set_ 9 (I (m:Nat))));refine bodyPost_ret (v:=.tuple #[.agg #[I 0,I 1,I 1,I 5,I 6,I 5,I 11,I (m:Nat),I (11+(m:Nat)),I (m:Nat)],I hh,I 0]) (by simp[results,Tryz.results99,go_sem ,r0,r1,r2,r3,r4,r5,r6,r7,r8,r9]) rfl ?_;exact⟨rfl,bc⟩
end
