/- Parts. -/
import Derived.Test.YtmeebofhlilcmaaGreatPr29
set_option linter.unusedVariables false
set_option linter.unusedSimpArgs false
set_option maxRecDepth 100000
set_option maxHeartbeats 0
namespace Go.Proofs.YtmeebofhlilcmaaGreat
variable {w:World} {cs:List Value} {c' many:Nat} {D:aX}
open Go.RowKit
section
variable {m:Nat} {p:PV} {hash pace most:Int} {D:aX} {E:EgV} {k:Nat}
theorem runK_most {f:Nat}(h:most<=(k:Int)):runK m p hash pace most f k D E=(D,E,k,0):=by
 cases f with
 | zero=>rfl
 | succ f=>show (if _ then _ else _)=_;rw[if_pos h]
theorem runK_end (h:(E.nIn:Int)<=E.tick):runK m p hash pace most ((E.nIn:Int) - E.tick).toNat k D E=(D,E,k,0):=by
 rw[show ((E.nIn:Int) - E.tick).toNat=0 by omega];rfl
theorem runK_step (h1:(k:Int)<most)(h:E.tick<(E.nIn:Int)):∃ f,((E.nIn:Int) - E.tick).toNat=f+1/\runK m p hash pace most ((E.nIn:Int) - E.tick).toNat k D E =
 if (bL m p D E).2.2≠0 then ((bL m p D E).1,(bL m p D E).2.1,k,(bL m p D E).2.2)
 else if (runT p hash pace (bL m p D E)).2.2≠0 then ((runT p hash pace (bL m p D E)).1,(runT p hash pace (bL m p D E)).2.1,k+1,(runT p hash pace (bL m p D E)).2.2)
 else runK m p hash pace most f (k+1) (runT p hash pace (bL m p D E)).1 (runT p hash pace (bL m p D E)).2.1:=by
 obtain⟨f,hf⟩:∃ f,((E.nIn:Int) - E.tick).toNat=f+1:=⟨((E.nIn:Int) - E.tick).toNat - 1,aS⟩;refine⟨f,hf,?_⟩;rw[hf]
 show (if _ then _ else _)=_
 rw[if_neg aS]
end
structure RunAt (w wr:World)(base:Nat)(q:bE)(g:Nat)(e:EP)(m:Nat)(p:PV)(hash pace most:Int)(D:aX)(E:EgV)(RK:aX × EgV × Nat × Int)(D':aX)(E':EgV)(k:Nat)(z:Int):Prop where
 s:EngS w wr base q g e m p hash pace D' E'
 ok:EgOk m p E'
 go:z=0->runK m p hash pace most ((E'.nIn:Int) - E'.tick).toNat k D' E'=RK
 st:z≠0->RK=(D',E',k,z)
 nin:E'.nIn=E.nIn
 wt:D'.waits.length+8 * ((E.nIn:Int) - E'.tick).toNat<=D.waits.length+8 * ((E.nIn:Int) - E.tick).toNat
 kt:k+((E.nIn:Int) - E'.tick).toNat<=((E.nIn:Int) - E.tick).toNat
 many:D'.many=D.many
section
variable {w w':World} {base g m:Nat} {q:bE} {D:aX} {e:EP} {p:PV} {hash pace:Int} {E:EgV}
theorem run_on (h:cF w base q g e m p hash pace E)(ok:EgOk m p E)(G:PrgW p m)(hd:be w base q D)(hs:base<=w.heap.size)(big:11+2 * m<=D.many)(hwt:D.waits.length<700000)(most:Int)(hmo:0<=most)(hoff:E.off=false) :
 Ca 33 #[.pointer (some ⟨g,0,none⟩),I most] w fun e' w'=>∃ A n c,e'=.returned (.tuple #[I (runA (runK m p hash pace most ((E.nIn:Int) - E.tick).toNat 0 D E)).2.2.1,I (runA (runK m p hash pace most ((E.nIn:Int) - E.tick).toNat 0 D E)).2.2.2])/\EngS w w' base q g { e with A:=A,n:=n,c:=c } m p hash pace (runA (runK m p hash pace most ((E.nIn:Int) - E.tick).toNat 0 D E)).1 (runA (runK m p hash pace most ((E.nIn:Int) - E.tick).toNat 0 D E)).2.1:=by
 have hrd:=mT h;rw[hoff,if_neg aZ] at hrd;have hm2:=G.m2;have HG:=aT G;have hni:=ok.i0;have ht00:=ok.t0;have R0:=aT (show RunAt w w base q g e m p hash pace most D E (runK m p hash pace most ((E.nIn:Int) - E.tick).toNat 0 D E) D E 0 0 from ⟨EngX.done (EngX.of h hd (Step.refl mutE base q w) hs) rfl,ok,fun _=>rfl,fun q=>absurd rfl q,rfl,Nat.le_refl _,aS,rfl⟩);generalize runK m p hash pace most ((E.nIn:Int) - E.tick).toNat 0 D E=RK at *;clear h hd ok G hoff;go_enter Tryz.func33,Tryz.ntmps33;go_wp2_with (first | (go_at_call 122;(with_reducible refine (hrd).mono ?_);rintro e' w2 ⟨rfl,rfl⟩) | fail);go_loopw [7,8] (fun nv zv wr=>∃ (D':aX) (E':EgV) (A:Option Addr) (n c:Nat) (k:Nat) (z:Int),nv=I (k:Nat)/\zv=I z/\Hid (RunAt w wr base q g { e with A:=A,n:=n,c:=c } m p hash pace most D E RK D' E' k z)) (fun _ _ wr=>((E.nIn:Int) - tickAt wr g).toNat)
 case atStart=>exact⟨D,E,e.A,e.n,e.c,0,0,rfl,rfl,R0⟩
 case round=>
  obtain⟨D',E',A,n,c,k,z,rfl,rfl,S1⟩:=hrel;clear R0;obtain⟨c0,c1,c2,c3,c4,c5,c6,c7,c8,c9,c10⟩:=S1.out.s.i.words;have tk1:=aT (kY c6);have hbs:=ae hs S1.out.s.s.size;have hlen:=lM (S1.out.s.i.r.below (Below.drew (Below.refl _ _))).inn;have Xd:=aT ((EngX.of S1.out.s.i S1.out.s.d S1.out.s.s hbs).below (Below.drew (Below.refl _ _)));have SD:=aT (EngX.done Xd.out rfl);have hkt:=S1.out.kt;have bsd:base<=wr.drew.heap.size:=hbs
  by_cases hk:most<=(k:Int)
  · have dk:decide ((k:Int)<most)=false:=aj aS
    by_cases hz:z=0
    · subst hz;have HRK:=aT (show RK=(D',E',k,0) by rw[<- S1.out.go rfl];exact runK_most hk);clear hk;go_upto_region 7 with fail;obtain⟨v0,v1,v2,v3,v4,v5,v6,v7,v8,v9,v10⟩:=SD.out.i.words;refine wp_region_held_drew (S:=fun w'=>w'.cell? ⟨g,6,none⟩=some (I E'.tick)/\w'.cell? ⟨g,1,none⟩=some (.pointer (some ⟨e.gi,0,none⟩))) bM ⟨v6,v1⟩ (fun hHeld=>?_);refine aV 0 ?_;refine aV 1 ?_;refine aV 2 ?_;refine aV 3 ?_;refine bB 4 ?_;refine bB 5 ?_;refine bB 6 ?_;refine bB 7 ?_;refine bB 8 ?_;refine bB 9 ?_;refine bB 10 ?_;refine bB 11 ?_;refine bB 12 ?_;refine bB 13 ?_;refine aV 14 ?_;refine aV 15 ?_;refine bB 16 ?_;refine bB 17 ?_;refine aV 18 ?_;refine wpAnyH_done bT ?_ _;have hfl:=ku (hash:=hash) (pace:=pace) SD.out.i SD.out.d bsd;have hrun:runA (D',E',k,0)=runB k 0 (cU D' E'):=rfl;generalize cU D' E'=F at *;obtain⟨D5,E5,f5⟩:=F;simp only at hfl;have HRUN:=aT (hrun.trans (show runB k 0 (D5,E5,f5)=(D5,fy E5 f5,((k:Nat):Int),f5) by unfold runB;simp));clear hrun;go_wp2_with (first | ((go_at_call 127;(with_reducible refine (hfl).mono ?_);rintro e' w6 ⟨rfl,s6⟩);have X6:=aT s6;have hb6:=ae bsd s6.s.size;have htl6:=jL (hash:=hash) (pace:=pace) s6.i s6.d hb6 f5;clear s6) | ((go_at_call 124;(with_reducible refine (htl6).mono ?_);rintro e' w7 ⟨rfl,s7⟩);have X7:=aT s7;clear s7) | fail);go_ret2;rw[HRK.out,HRUN.out]
      first | exact⟨A,n,c,rfl,X7.out.d,X7.out.i,(SD.out.s.trans X6.out.s).trans X7.out.s⟩ | exact⟨rfl,A,n,c,X7.out.d,X7.out.i,(SD.out.s.trans X6.out.s).trans X7.out.s⟩
    · have hzb:(z == 0)=false:=by rw[af];exact hz
      have HRK:=aT (S1.out.st hz);have HZ:=aT hz;clear hk hz;go_upto_region 7 with fail;obtain⟨v0,v1,v2,v3,v4,v5,v6,v7,v8,v9,v10⟩:=SD.out.i.words;refine wp_region_held_drew (S:=fun w'=>w'.cell? ⟨g,6,none⟩=some (I E'.tick)/\w'.cell? ⟨g,1,none⟩=some (.pointer (some ⟨e.gi,0,none⟩))) bM ⟨v6,v1⟩ (fun hHeld=>?_);refine aV 0 ?_;refine aV 1 ?_;refine aV 2 ?_;refine aV 3 ?_;refine bB 4 ?_;refine bB 5 ?_;refine bB 6 ?_;refine bB 7 ?_;refine bB 8 ?_;refine bB 9 ?_;refine bB 10 ?_;refine bB 11 ?_;refine bB 12 ?_;refine bB 13 ?_;refine aV 14 ?_;refine aV 15 ?_;refine bB 16 ?_;refine bB 17 ?_;refine aV 18 ?_;refine wpAnyH_done bT ?_ _;have hfl:=ku (hash:=hash) (pace:=pace) SD.out.i SD.out.d bsd;have hrun:runA (D',E',k,z)=runB k z (cU D' E'):=rfl;generalize cU D' E'=F at *;obtain⟨D5,E5,f5⟩:=F;simp only at hfl;have HRUN:=aT (hrun.trans (show runB k z (D5,E5,f5)=(D5,fy E5 z,((k:Nat):Int),z) by unfold runB;rw[if_neg HZ.out]));clear hrun;go_wp2_with (first | ((go_at_call 127;(with_reducible refine (hfl).mono ?_);rintro e' w6 ⟨rfl,s6⟩);have X6:=aT s6;have hb6:=ae bsd s6.s.size;have htl6:=jL (hash:=hash) (pace:=pace) s6.i s6.d hb6 z;clear s6) | ((go_at_call 124;(with_reducible refine (htl6).mono ?_);rintro e' w7 ⟨rfl,s7⟩);have X7:=aT s7;clear s7) | fail);go_ret2;rw[HRK.out,HRUN.out]
      first | exact⟨A,n,c,rfl,X7.out.d,X7.out.i,(SD.out.s.trans X6.out.s).trans X7.out.s⟩ | exact⟨rfl,A,n,c,X7.out.d,X7.out.i,(SD.out.s.trans X6.out.s).trans X7.out.s⟩
  have dk:decide ((k:Int)<most)=true:=am aS
  by_cases hlt:E'.tick<(E'.nIn:Int)
  rotate_left 1
  · have dt:=aj hlt
    by_cases hz:z=0
    · subst hz;have HRK:=aT (show RK=(D',E',k,0) by rw[<- S1.out.go rfl];exact runK_end aS);clear hlt;go_upto_region 7 with fail;obtain⟨v0,v1,v2,v3,v4,v5,v6,v7,v8,v9,v10⟩:=SD.out.i.words;refine wp_region_held_drew (S:=fun w'=>w'.cell? ⟨g,6,none⟩=some (I E'.tick)/\w'.cell? ⟨g,1,none⟩=some (.pointer (some ⟨e.gi,0,none⟩))) bM ⟨v6,v1⟩ (fun hHeld=>?_);refine aV 0 ?_;refine aV 1 ?_;refine aV 2 ?_;refine aV 3 ?_;refine aV 4 ?_;refine aV 5 ?_;refine aV 6 ?_;refine aV 7 ?_ (hy:=Or.inl ⟨by rfl,dh⟩);refine aV 8 ?_;refine aV 9 ?_;refine aV 10 ?_;refine aV 11 ?_ (hy:=Or.inl ⟨by rfl,dh⟩);refine bR 12 (fun K hK=>?_);go_simp
      (go_at_call 119;(with_reducible refine (hlen).mono ?_);rintro e' w3 ⟨rfl,rfl⟩)
      refine hK.out _ _ (⟨v6,v1⟩) (fun hHeld=>?_);clear hK K;refine bJ ?_;refine aV 13 ?_;refine aV 14 ?_;refine aV 15 ?_;refine bB 16 ?_;refine bB 17 ?_;refine aV 18 ?_;refine wpAnyH_done bT ?_ _;have hfl:=ku (hash:=hash) (pace:=pace) SD.out.i SD.out.d bsd;have hrun:runA (D',E',k,0)=runB k 0 (cU D' E'):=rfl;generalize cU D' E'=F at *;obtain⟨D5,E5,f5⟩:=F;simp only at hfl;have HRUN:=aT (hrun.trans (show runB k 0 (D5,E5,f5)=(D5,fy E5 f5,((k:Nat):Int),f5) by unfold runB;simp));clear hrun;go_wp2_with (first | ((go_at_call 127;(with_reducible refine (hfl).mono ?_);rintro e' w6 ⟨rfl,s6⟩);have X6:=aT s6;have hb6:=ae bsd s6.s.size;have htl6:=jL (hash:=hash) (pace:=pace) s6.i s6.d hb6 f5;clear s6) | ((go_at_call 124;(with_reducible refine (htl6).mono ?_);rintro e' w7 ⟨rfl,s7⟩);have X7:=aT s7;clear s7) | fail);go_ret2;rw[HRK.out,HRUN.out]
      first | exact⟨A,n,c,rfl,X7.out.d,X7.out.i,(SD.out.s.trans X6.out.s).trans X7.out.s⟩ | exact⟨rfl,A,n,c,X7.out.d,X7.out.i,(SD.out.s.trans X6.out.s).trans X7.out.s⟩
    · have hzb:(z == 0)=false:=by rw[af];exact hz
      have HRK:=aT (S1.out.st hz);have HZ:=aT hz;clear hlt hz;go_upto_region 7 with fail;obtain⟨v0,v1,v2,v3,v4,v5,v6,v7,v8,v9,v10⟩:=SD.out.i.words;refine wp_region_held_drew (S:=fun w'=>w'.cell? ⟨g,6,none⟩=some (I E'.tick)/\w'.cell? ⟨g,1,none⟩=some (.pointer (some ⟨e.gi,0,none⟩))) bM ⟨v6,v1⟩ (fun hHeld=>?_);refine aV 0 ?_;refine aV 1 ?_;refine aV 2 ?_;refine aV 3 ?_;refine aV 4 ?_;refine aV 5 ?_;refine aV 6 ?_;refine aV 7 ?_ (hy:=Or.inl ⟨by rfl,dh⟩);refine aV 8 ?_;refine aV 9 ?_;refine aV 10 ?_;refine aV 11 ?_ (hy:=Or.inl ⟨by rfl,dh⟩);refine bR 12 (fun K hK=>?_);go_simp
      (go_at_call 119;(with_reducible refine (hlen).mono ?_);rintro e' w3 ⟨rfl,rfl⟩)
      refine hK.out _ _ (⟨v6,v1⟩) (fun hHeld=>?_);clear hK K;refine bJ ?_;refine aV 13 ?_;refine aV 14 ?_;refine aV 15 ?_;refine bB 16 ?_;refine bB 17 ?_;refine aV 18 ?_;refine wpAnyH_done bT ?_ _;have hfl:=ku (hash:=hash) (pace:=pace) SD.out.i SD.out.d bsd;have hrun:runA (D',E',k,z)=runB k z (cU D' E'):=rfl;generalize cU D' E'=F at *;obtain⟨D5,E5,f5⟩:=F;simp only at hfl;have HRUN:=aT (hrun.trans (show runB k z (D5,E5,f5)=(D5,fy E5 z,((k:Nat):Int),z) by unfold runB;rw[if_neg HZ.out]));clear hrun;go_wp2_with (first | ((go_at_call 127;(with_reducible refine (hfl).mono ?_);rintro e' w6 ⟨rfl,s6⟩);have X6:=aT s6;have hb6:=ae bsd s6.s.size;have htl6:=jL (hash:=hash) (pace:=pace) s6.i s6.d hb6 z;clear s6) | ((go_at_call 124;(with_reducible refine (htl6).mono ?_);rintro e' w7 ⟨rfl,s7⟩);have X7:=aT s7;clear s7) | fail);go_ret2;rw[HRK.out,HRUN.out]
      first | exact⟨A,n,c,rfl,X7.out.d,X7.out.i,(SD.out.s.trans X6.out.s).trans X7.out.s⟩ | exact⟨rfl,A,n,c,X7.out.d,X7.out.i,(SD.out.s.trans X6.out.s).trans X7.out.s⟩
  have dt:=am hlt
  by_cases hz:z=0
  rotate_left 1
  · have hzb:(z == 0)=false:=by rw[af];exact hz
    have HRK:=aT (S1.out.st hz);have HZ:=aT hz;clear hlt hz;go_upto_region 7 with fail;obtain⟨v0,v1,v2,v3,v4,v5,v6,v7,v8,v9,v10⟩:=SD.out.i.words;refine wp_region_held_drew (S:=fun w'=>w'.cell? ⟨g,6,none⟩=some (I E'.tick)/\w'.cell? ⟨g,1,none⟩=some (.pointer (some ⟨e.gi,0,none⟩))) bM ⟨v6,v1⟩ (fun hHeld=>?_);refine aV 0 ?_;refine aV 1 ?_;refine aV 2 ?_;refine aV 3 ?_;refine aV 4 ?_;refine aV 5 ?_;refine aV 6 ?_;refine aV 7 ?_ (hy:=Or.inl ⟨by rfl,dh⟩);refine aV 8 ?_;refine aV 9 ?_;refine aV 10 ?_;refine aV 11 ?_ (hy:=Or.inl ⟨by rfl,dh⟩);refine bR 12 (fun K hK=>?_);go_simp
    (go_at_call 119;(with_reducible refine (hlen).mono ?_);rintro e' w3 ⟨rfl,rfl⟩)
    refine hK.out _ _ (⟨v6,v1⟩) (fun hHeld=>?_);clear hK K;refine bJ ?_;refine aV 13 ?_;refine aV 14 ?_;refine aV 15 ?_;refine aV 16 ?_;refine aV 17 ?_;refine aV 18 ?_;refine wpAnyH_done bT ?_ _;have hfl:=ku (hash:=hash) (pace:=pace) SD.out.i SD.out.d bsd;have hrun:runA (D',E',k,z)=runB k z (cU D' E'):=rfl;generalize cU D' E'=F at *;obtain⟨D5,E5,f5⟩:=F;simp only at hfl;have HRUN:=aT (hrun.trans (show runB k z (D5,E5,f5)=(D5,fy E5 z,((k:Nat):Int),z) by unfold runB;rw[if_neg HZ.out]));clear hrun;go_wp2_with (first | ((go_at_call 127;(with_reducible refine (hfl).mono ?_);rintro e' w6 ⟨rfl,s6⟩);have X6:=aT s6;have hb6:=ae bsd s6.s.size;have htl6:=jL (hash:=hash) (pace:=pace) s6.i s6.d hb6 z;clear s6) | ((go_at_call 124;(with_reducible refine (htl6).mono ?_);rintro e' w7 ⟨rfl,s7⟩);have X7:=aT s7;clear s7) | fail);go_ret2;rw[HRK.out,HRUN.out]
    first | exact⟨A,n,c,rfl,X7.out.d,X7.out.i,(SD.out.s.trans X6.out.s).trans X7.out.s⟩ | exact⟨rfl,A,n,c,X7.out.d,X7.out.i,(SD.out.s.trans X6.out.s).trans X7.out.s⟩
  subst hz;have hzb0:((0:Int) == 0)=true:=rfl;have hmany1:=S1.out.many;have hwt1:=S1.out.wt;have ht1:=S1.out.ok.t0;have hone:=one_any (hash:=hash) (pace:=pace) SD.out.i S1.out.ok HG.out SD.out.d bsd (by rw[hmany1];exact big) hlt aS;have hok:=aT (lN (D:=D') S1.out.ok HG.out hlt);obtain⟨f,hf,hrk⟩:=runK_step (m:=m) (p:=p) (hash:=hash) (pace:=pace) (most:=most) (D:=D') (E:=E') (k:=k) aS hlt;rw[S1.out.go rfl] at hrk;have hkk:k+1<=1024:=by have:=S1.out.nin;omega
  generalize bL m p D' E'=R at *;obtain⟨D2,E2,z2⟩:=R;simp only at hone hrk
  by_cases hz2:z2=0
  rotate_left 1
  · have hzb2:(z2 != 0)=true:=by rw[ag];exact hz2
    have hzb:(z2 == 0)=false:=by rw[af];exact hz2
    rw[if_pos hz2] at hrk;have HRK:=aT hrk;have HZ:=aT hz2;clear hlt hz2 hrk hf hmany1 hwt1 ht1 hkt;go_upto_region 7 with fail;obtain⟨v0,v1,v2,v3,v4,v5,v6,v7,v8,v9,v10⟩:=SD.out.i.words;refine wp_region_held_drew (S:=fun w'=>w'.cell? ⟨g,6,none⟩=some (I E'.tick)/\w'.cell? ⟨g,1,none⟩=some (.pointer (some ⟨e.gi,0,none⟩))) bM ⟨v6,v1⟩ (fun hHeld=>?_);refine aV 0 ?_;refine aV 1 ?_;refine aV 2 ?_;refine aV 3 ?_;refine aV 4 ?_;refine aV 5 ?_;refine aV 6 ?_;refine aV 7 ?_ (hy:=Or.inl ⟨by rfl,dh⟩);refine aV 8 ?_;refine aV 9 ?_;refine aV 10 ?_;refine aV 11 ?_ (hy:=Or.inl ⟨by rfl,dh⟩);refine bR 12 (fun K hK=>?_);go_simp
    (go_at_call 119;(with_reducible refine (hlen).mono ?_);rintro e' w3 ⟨rfl,rfl⟩)
    refine hK.out _ _ (⟨v6,v1⟩) (fun hHeld=>?_);clear hK K;refine bJ ?_;refine aV 13 ?_;refine aV 14 ?_;refine aV 15 ?_;refine aV 16 ?_;refine aV 17 ?_;refine aV 18 ?_;refine wpAnyH_done bT ?_ _;go_upto_region 9 with (first | ((go_at_call 126;(with_reducible refine (hone).mono ?_);rintro e' w4 ⟨A4,n4,c4',rfl,s4⟩);have S4:=aT (show EngS w w4 base q g { e with A:=A4,n:=n4,c:=c4' } m p hash pace D2 E2 from ⟨s4.d,s4.i,SD.out.s.trans s4.s⟩);have hbs4:=ae bsd s4.s.size;clear s4) | fail);have hfl:=ku (hash:=hash) (pace:=pace) S4.out.i S4.out.d hbs4;have hrun:runA (D2,E2,k,z2)=runB k z2 (cU D2 E2):=rfl;generalize cU D2 E2=F at *;obtain⟨D5,E5,f5⟩:=F;simp only at hfl;have HRUN:=aT (hrun.trans (show runB k z2 (D5,E5,f5)=(D5,fy E5 z2,((k:Nat):Int),z2) by unfold runB;rw[if_neg HZ.out]));clear hrun;go_wp2_with (first | ((go_at_call 127;(with_reducible refine (hfl).mono ?_);rintro e' w6 ⟨rfl,s6⟩);have X6:=aT s6;have hb6:=ae hbs4 s6.s.size;have htl6:=jL (hash:=hash) (pace:=pace) s6.i s6.d hb6 z2;clear s6) | ((go_at_call 124;(with_reducible refine (htl6).mono ?_);rintro e' w7 ⟨rfl,s7⟩);have X7:=aT s7;clear s7) | fail);go_ret2;rw[HRK.out,HRUN.out]
    first | exact⟨A4,n4,c4',rfl,X7.out.d,X7.out.i,(S4.out.s.trans X6.out.s).trans X7.out.s⟩ | exact⟨rfl,A4,n4,c4',X7.out.d,X7.out.i,(S4.out.s.trans X6.out.s).trans X7.out.s⟩
  subst hz2;rw[if_neg aZ] at hrk;have HT:=aT (hok.out.go rfl);have hmany2:=hok.out.many.trans hmany1;have hwt2:=hok.out.waits;have HNI:=aT (hok.out.nin.trans S1.out.nin)
  by_cases hp:pace<=E2.passed
  · have hT:runT p hash pace (D2,E2,0)=dr p hash D2 E2:=by unfold runT;rw[if_pos hp]
    rw[hT] at hrk;have hsv:=fun (W:World) (c1:Option Addr) (c2 c3:Nat) (h1:cF W base q g { e with A:=c1,n:=c2,c:=c3 } m p hash pace E2) (h2:be W base q D2) (h3:base<=W.heap.size)=>oG (hash:=hash) (pace:=pace) h1 hok.out.ok HG.out h2 h3 (by rw[hmany2];exact big) (by simp only at hwt2;omega)
    have hok3:=aT (mM (p:=p) (hash:=hash) (D:=D2) hok.out.ok);generalize dr p hash D2 E2=V at *;obtain⟨D3,E3,z3⟩:=V;simp only at hsv hrk;have HRK:=aT hrk;have HF:=aT hf;have hge:=am hp;clear hrk hf hT hmany1 hwt1 ht1 hwt2 hmany2 hkt;go_upto_region 7 with fail;obtain⟨v0,v1,v2,v3,v4,v5,v6,v7,v8,v9,v10⟩:=SD.out.i.words;refine wp_region_held_drew (S:=fun w'=>w'.cell? ⟨g,6,none⟩=some (I E'.tick)/\w'.cell? ⟨g,1,none⟩=some (.pointer (some ⟨e.gi,0,none⟩))) bM ⟨v6,v1⟩ (fun hHeld=>?_);refine aV 0 ?_;refine aV 1 ?_;refine aV 2 ?_;refine aV 3 ?_;refine aV 4 ?_;refine aV 5 ?_;refine aV 6 ?_;refine aV 7 ?_ (hy:=Or.inl ⟨by rfl,dh⟩);refine aV 8 ?_;refine aV 9 ?_;refine aV 10 ?_;refine aV 11 ?_ (hy:=Or.inl ⟨by rfl,dh⟩);refine bR 12 (fun K hK=>?_);go_simp
    (go_at_call 119;(with_reducible refine (hlen).mono ?_);rintro e' w3 ⟨rfl,rfl⟩)
    refine hK.out _ _ (⟨v6,v1⟩) (fun hHeld=>?_);clear hK K;refine bJ ?_;refine aV 13 ?_;refine aV 14 ?_;refine aV 15 ?_;refine aV 16 ?_;refine aV 17 ?_;refine aV 18 ?_;refine wpAnyH_done bT ?_ _;go_upto_region 11 with (first | ((go_at_call 126;(with_reducible refine (hone).mono ?_);rintro e' w4 ⟨A4,n4,c4',rfl,s4⟩);have S4:=aT (show EngS w w4 base q g { e with A:=A4,n:=n4,c:=c4' } m p hash pace D2 E2 from ⟨s4.d,s4.i,SD.out.s.trans s4.s⟩);have hbs4:=ae bsd s4.s.size;obtain⟨c0,c1,c2,c3,c4,c5,c6,c7,c8,c9,c10⟩:=s4.i.words;clear s4) | fail);have X5:=aT (EngX.done ((EngX.of S4.out.i S4.out.d S4.out.s hbs4).below (Below.drew (Below.refl _ _))) rfl);have hsv4:=hsv
    try (have hsv4:=hsv _ _ _ _ X5.out.i X5.out.d hbs4)
    go_region_held3 (fun w'=>w'.cell? ⟨g,7,none⟩=some (I E2.passed)/\w'.cell? ⟨g,5,none⟩=some (I pace)) (first | go_keep | (refine⟨?_,?_⟩ <;> assumption)) (fail);go_wp2_with (first | ((go_at_call 125;(with_reducible refine (hsv4).mono ?_);rintro e' w6 ⟨rfl,s6⟩);have S6:=aT (show EngS w w6 base q g { e with A:=A4,n:=n4,c:=c4' } m p hash pace D3 E3 from ⟨s6.d,s6.i,X5.out.s.trans s6.s⟩);have c6':=kY s6.i.words.2.2.2.2.2.2.1;clear s6) | fail);go_roundw
    case rel=>
     refine⟨D3,E3,A4,n4,c4',k+1,z3,by go_num,rfl,⟨S6.out,hok3.out.ok,fun q=>?_,fun q=>?_,hok3.out.nin.trans HNI.out,?_,?_,(hok3.out.many.trans hok.out.many).trans S1.out.many⟩⟩
     · have:=HRK.out;rw[if_neg (by rw[q];simp)] at this;rw[this];have e1:=hok3.out.nin;have e2:=hok3.out.tick;have e3:=hok.out.nin;have e4:=HT.out;have e5:=HF.out
       try simp only at e1 e2 e3 e4
       rw[show ((E3.nIn:Int) - E3.tick).toNat=f by rw[e1,e2,e3,e4];omega]
     · have:=HRK.out;rw[if_pos q] at this;exact this
     · have e2:=hok3.out.tick;have e4:=HT.out;have e5:=hok3.out.waits;have e6:=hok.out.waits;have e7:=S1.out.wt;have e8:=S1.out.nin
       try simp only at e2 e4 e5 e6
       rw[e2,e4];omega
     · have e2:=hok3.out.tick;have e4:=HT.out;have e7:=S1.out.kt;have e8:=S1.out.nin
       try simp only at e2 e4
       rw[e2,e4];omega
    case measure=>
     have e2:=hok3.out.tick;have e4:=HT.out;have e8:=S1.out.nin;have h8:=tk1.out
     try simp only at e2 e4
     simp only[c6',h8,e2,e4];omega
  · have hT:runT p hash pace (D2,E2,0)=(D2,E2,0):=by unfold runT;rw[if_neg hp]
    rw[hT] at hrk;have hrk2:=hrk;rw[if_neg aZ] at hrk2;have HRK:=aT hrk2;have HF:=aT hf;have hsv:=True.intro;have hge:=aj hp;clear hrk hrk2 hf hT hmany1 hwt1 ht1 hwt2 hmany2 hkt;go_upto_region 7 with fail;obtain⟨v0,v1,v2,v3,v4,v5,v6,v7,v8,v9,v10⟩:=SD.out.i.words;refine wp_region_held_drew (S:=fun w'=>w'.cell? ⟨g,6,none⟩=some (I E'.tick)/\w'.cell? ⟨g,1,none⟩=some (.pointer (some ⟨e.gi,0,none⟩))) bM ⟨v6,v1⟩ (fun hHeld=>?_);refine aV 0 ?_;refine aV 1 ?_;refine aV 2 ?_;refine aV 3 ?_;refine aV 4 ?_;refine aV 5 ?_;refine aV 6 ?_;refine aV 7 ?_ (hy:=Or.inl ⟨by rfl,dh⟩);refine aV 8 ?_;refine aV 9 ?_;refine aV 10 ?_;refine aV 11 ?_ (hy:=Or.inl ⟨by rfl,dh⟩);refine bR 12 (fun K hK=>?_);go_simp
    (go_at_call 119;(with_reducible refine (hlen).mono ?_);rintro e' w3 ⟨rfl,rfl⟩)
    refine hK.out _ _ (⟨v6,v1⟩) (fun hHeld=>?_);clear hK K;refine bJ ?_;refine aV 13 ?_;refine aV 14 ?_;refine aV 15 ?_;refine aV 16 ?_;refine aV 17 ?_;refine aV 18 ?_;refine wpAnyH_done bT ?_ _;go_upto_region 11 with (first | ((go_at_call 126;(with_reducible refine (hone).mono ?_);rintro e' w4 ⟨A4,n4,c4',rfl,s4⟩);have S4:=aT (show EngS w w4 base q g { e with A:=A4,n:=n4,c:=c4' } m p hash pace D2 E2 from ⟨s4.d,s4.i,SD.out.s.trans s4.s⟩);have hbs4:=ae bsd s4.s.size;obtain⟨c0,c1,c2,c3,c4,c5,c6,c7,c8,c9,c10⟩:=s4.i.words;clear s4) | fail);have X5:=aT (EngX.done ((EngX.of S4.out.i S4.out.d S4.out.s hbs4).below (Below.drew (Below.refl _ _))) rfl);have hsv4:=hsv
    try (have hsv4:=hsv _ _ _ _ X5.out.i X5.out.d hbs4)
    go_region_held3 (fun w'=>w'.cell? ⟨g,7,none⟩=some (I E2.passed)/\w'.cell? ⟨g,5,none⟩=some (I pace)) (first | go_keep | (refine⟨?_,?_⟩ <;> assumption)) (fail);have c6':=kY X5.out.i.words.2.2.2.2.2.2.1;go_wp2_with fail;go_roundw
    case rel=>
     refine⟨D2,E2,A4,n4,c4',k+1,0,by go_num,rfl,⟨X5.out,hok.out.ok,fun q=>?_,fun q=>absurd rfl q,HNI.out,?_,?_,hok.out.many.trans S1.out.many⟩⟩
     · rw[HRK.out];have e3:=hok.out.nin;have e4:=HT.out;have e5:=HF.out
       try simp only at e3 e4
       rw[show ((E2.nIn:Int) - E2.tick).toNat=f by rw[e3,e4];omega]
     · have e4:=HT.out;have e6:=hok.out.waits;have e7:=S1.out.wt;have e8:=S1.out.nin
       try simp only at e4 e6
       rw[e4];omega
     · have e4:=HT.out;have e7:=S1.out.kt;have e8:=S1.out.nin
       try simp only at e4
       rw[e4];omega
    case measure=>
     have e4:=HT.out;have e8:=S1.out.nin;have h8:=tk1.out
     try simp only at e4
     simp only[c6',h8,e4];omega
end
theorem wp_store_eqS {P:Program}{op:Oper}{a:Act}{K:Act->World->Prop}{Q:Exit->Act->World->Prop}(ty:TypeId)(x y:Operand)(ho:op.op=.store ty x y)
 (b o:Nat) (cells:Array Value) (hx:a.eval x=.pointer (some ⟨b,o,none⟩)) (hy:a.eval y=.agg cells)
 (ht:w.there b o cells.size) (hi:(P.info? ty).map (·.size)=some cells.size) (h1:cells.all (·.oneCell')=true)
 (h:∀ w',w'=w.setCells b o cells.toList->K (a.put op.dst undef) w'):op.wp P a w K Q:=wp_store_mid ty x y ho b o cells hx hy ht hi h1 (h _ rfl)
theorem Blk.setAllS {g:Nat}{t:TypeId}{xs:List Value}(h:Blk w g t cs)(hl:xs.length=cs.length):Blk (w.setCells g 0 xs) g t xs:=by
 have:=Blk.setCells xs 0 w cs h aS;rw[dS _ _ aS] at this;exact this
theorem below_setCellsS {B:Nat}{w0:World}{g:Nat}(h:Below B w0 w)(hg:B<=g):∀ (o:Nat) (xs:List Value),Below B w0 (w.setCells g o xs):=by
 intro o xs
 induction xs generalizing o w with
 | nil=>exact h
 | cons x xs ih=>exact ih (h.setCell (p:=⟨g,o,none⟩) hg x) (o+1)
section
variable {w w':World} {base g m:Nat} {q:bE} {D:aX} {e:EP} {p:PV} {hash pace:Int} {E:EgV}
theorem estat_any (h:cF w base q g e m p hash pace E)(hk100:E.k.last.cells.length<=100) :
 Ca 29 #[.pointer (some ⟨g,0,none⟩)] w fun e' w'=>e'=.returned (.agg #[I (E.nIn:Nat),I (E.nOut:Nat),I E.tick,I E.passed,I E.replayed,I (gS E.k).tick])/\Below w.heap.size w w':=by
 have H:=aT h;obtain⟨c0,c1,c2,c3,c4,c5,c6,c7,c8,c9,c10⟩:=h.words;have gl:=h.b.lt;have b1:Below w.heap.size w (w.alloc (.cells #[I 0,I 0,I 0,I 0,I 0,I 0] 54)):=bc;have hla:=klast_any (h.r.below b1).kp hk100;clear h;generalize gS E.k=la at *;go_enter Tryz.func29,Tryz.ntmps29;go_upto_region 4 with (first | ((go_at_call 118;(with_reducible refine (hla).mono ?_);rintro e' w2 ⟨A2,n2,c2',rfl,o2,b2⟩)) | fail);have X2:=Blk.below (w':=w2) (Blk.top w rfl rfl) b2 aZ;have bW:Below w.heap.size w (w2.alloc (.cells #[I la.tick,I la.hash,.slice A2 n2 c2'] 139)):=(b1.trans (b2.mono aZ)).alloc (by have:=b2.size;simp at this;omega) _;have XW:=X2.alloc (.cells #[I la.tick,I la.hash,.slice A2 n2 c2'] 139);have S3:Blk (w2.alloc (.cells #[I la.tick,I la.hash,.slice A2 n2 c2'] 139)) w2.heap.size 139 [I la.tick,I la.hash,.slice A2 n2 c2']:=Blk.top _ rfl rfl;have HW:=aT (H.out.below bW);have BW:=aT bW;have hsn:w2.heap.size≠w.heap.size:=by have:=X2.lt;omega
 refine eG (fun W=>cF W base q g e m p hash pace E/\Blk W w.heap.size 54 [I 0,I 0,I 0,I 0,I 0,I 0]/\Blk W w2.heap.size 139 [I la.tick,I la.hash,.slice A2 n2 c2']/\Below w.heap.size w W) ⟨HW.out,XW,S3,BW.out⟩ ?_;clear bW XW S3 HW BW X2 b2 o2 b1 hla c0 c1 c2 c3 c4 c5 c6 c7 c8 c9 c10 H;generalize w2.heap.size=gs at *;rintro W ⟨HW,XW,SW,BW⟩;obtain⟨c0,c1,c2,c3,c4,c5,c6,c7,c8,c9,c10⟩:=HW.words;have s0:=SW.c0;have hld:=lM (HW.r.below (Below.drew (Below.refl _ _))).inn;have hlo:=oC (HW.r.below (Below.drew (Below.refl _ _))).out;have x0:=XW.cell 0;have xl:=XW.lt;have qE:=XW.frozen 0;have qF:=XW.frozen 1;have qG:=XW.frozen 2;have qH:=XW.frozen 3;have qI:=XW.frozen 4;have qJ:=XW.frozen 5;have gne:=HW.b.ne_ XW aU;go_upto_region 4 with fail;refine wp_region_held_drew (S:=fun w'=>Blk w' g 180 (engC e pace E)/\Blk w' gs 139 [I la.tick,I la.hash,.slice A2 n2 c2']) bM ⟨HW.b.drew,SW.drew⟩ (fun hHeld=>?_);refine aV 0 ?_;refine aV 1 ?_;refine aV 2 ?_;refine aV 3 ?_ (hy:=Or.inl ⟨by rfl,by (intro w hSw;(try dsimp only at hSw);obtain⟨hX,hY⟩:=hSw;have z:=hX.c1;go_simp;rfl)⟩);refine aV 5 ?_;refine aV 6 ?_;refine aV 7 ?_;refine aV 8 ?_ (hy:=Or.inl ⟨by rfl,by (intro w hSw;(try dsimp only at hSw);obtain⟨hX,hY⟩:=hSw;have z:=hX.c2;go_simp;rfl)⟩);refine aV 10 ?_;refine aV 11 ?_;refine aV 12 ?_;refine aV 13 ?_ (hy:=Or.inl ⟨by rfl,by (intro w hSw;(try dsimp only at hSw);obtain⟨hX,hY⟩:=hSw;have z:=hX.c6;go_simp;rfl)⟩);refine aV 14 ?_;refine aV 15 ?_;refine aV 16 ?_;refine aV 17 ?_ (hy:=Or.inl ⟨by rfl,by (intro w hSw;(try dsimp only at hSw);obtain⟨hX,hY⟩:=hSw;have z:=hX.c7;go_simp;rfl)⟩);refine aV 18 ?_;refine aV 19 ?_;refine aV 20 ?_;refine aV 21 ?_ (hy:=Or.inl ⟨by rfl,by (intro w hSw;(try dsimp only at hSw);obtain⟨hX,hY⟩:=hSw;have z:=hX.c8;go_simp;rfl)⟩);refine aV 22 ?_;refine aV 23 ?_ (hy:=Or.inl ⟨by rfl,by (intro w hSw;(try dsimp only at hSw);obtain⟨hX,hY⟩:=hSw;have z:=hY.c0;go_simp;rfl)⟩);refine bR 4 (fun K hK=>?_);go_simp
 (go_at_call 119;(with_reducible refine (hld).mono ?_);rintro e' w3 ⟨rfl,rfl⟩)
 refine hK.out _ _ (⟨HW.b.drew,SW.drew⟩) (fun hHeld=>?_);clear hK K;refine bJ ?_;refine bR 9 (fun K hK=>?_);go_simp
 (go_at_call 120;(with_reducible refine (hlo).mono ?_);rintro e' w4 ⟨rfl,rfl⟩)
 refine hK.out _ _ (⟨HW.b.drew,SW.drew⟩) (fun hHeld=>?_);clear hK K;refine bJ ?_;refine aV 24 ?_;refine bR 25 (fun K hK=>?_);rw[if_pos (by rfl)];refine wp_store_eqS 54 (.tmp 2) (.tmp 47) rfl w.heap.size 0 ([I (E.nIn:Nat),I (E.nOut:Nat),I E.tick,I E.passed,I E.replayed,I la.tick]).toArray rfl rfl (XW.drew.there 0 6 aZ) bM (all_oneCell_toArray (by intro u hu;simp only[List.mem_cons,List.not_mem_nil,or_false] at hu;rcases hu with rfl | rfl | rfl | rfl | rfl | rfl <;> rfl)) ?_;intro S hS;have XS:Blk S w.heap.size 54 [I (E.nIn:Nat),I (E.nOut:Nat),I E.tick,I E.passed,I E.replayed,I la.tick]:=by rw[hS];exact Blk.setAllS XW.drew rfl
 have HS:Blk S g 180 (engC e pace E):=by rw[hS];exact Blk.setCellsFar gne _ _ _ HW.b.drew
 have SS:Blk S gs 139 [I la.tick,I la.hash,.slice A2 n2 c2']:=by rw[hS];exact Blk.setCellsFar hsn _ _ _ SW.drew
 have BS:Below w.heap.size w S:=by rw[hS];exact below_setCellsS (Below.drew BW) aW _ _
 clear hS;refine hK.out _ _ (⟨HS,SS⟩) (fun hHeld=>?_);clear hK K;refine bJ ?_;refine wpAnyH_done bT ?_ _;go_wp2_with fail;have x0:=XS.c0;have x1:=XS.c1;have x2:=XS.c2;have x3:=XS.c3;have x4:=XS.c4;have x5:=XS.c5;refine bodyPost_ret (v:=.agg #[I (E.nIn:Nat),I (E.nOut:Nat),I E.tick,I E.passed,I E.replayed,I la.tick]) (by simp[results,Tryz.results29,go_sem ,x0,x1,x2,x3,x4,x5]) rfl ?_;exact⟨rfl,BS⟩
end
structure Env (p:PV)(m:Nat)(pace:Int)(many:Nat):Prop where
 g:Prg p (cw p) m pace
 w:PrgW p m
 h13:13<=many
 lg:logN (many:Nat)=(m:Nat)
 big:11+m+m<=many
 pc:pace<=1024
structure StOn (w:World)(base:Nat)(q:bE)(g:Nat)(p:PV)(m c:Nat)(pace:Int)(many:Nat)(calm:Bool)(rows:List (List Int))(tick:Nat)(rep:Int):Prop where
 hs:base<=w.heap.size
 ex:∃ D E e,be w base q D/\cF w base q g e m p (cw p:Nat) pace E/\EgOk m p E/\EgOn p (cw p) m c pace D E rows/\D.many=many/\(calm=true->D.cut=-1)/\E.tick=(tick:Int)/\E.replayed=rep
structure dx (w:World)(base:Nat)(q:bE)(g:Nat)(p:PV)(m c:Nat)(pace:Int)(many k:Nat)(all:List (List Int))(ran:Int):Prop where
 hs:base<=w.heap.size
 ex:∃ D E e,be w base q D/\cF w base q g e m p (cw p:Nat) pace E/\EgOk m p E/\E.off=true/\D.off=true/\D.many=many/\D.waits.length<=100000/\May D (Good p (cw p) m c pace k all ran)/\k<=E.nIn/\E.nOut<=E.nIn
structure ft (w:World)(base:Nat)(q:bE)(p:PV)(m c:Nat)(pace:Int)(many k:Nat)(all:List (List Int))(ran:Int):Prop where
 hs:base<=w.heap.size
 ex:∃ D,be w base q D/\D.many=many/\May D (Good p (cw p) m c pace k all ran)
structure gg (w:World)(base:Nat)(q:bE)(p:PV)(m c:Nat)(pace:Int)(many:Nat)(calm:Bool)(k:Nat)(all:List (List Int))(ran:Int):Prop where
 hs:base<=w.heap.size
 ex:∃ D N,be w base q D/\Rest D N/\D.many=many/\(calm=true->D.cut=-1)/\Good p (cw p) m c pace k all ran N
section
variable {M:List TypeId} {w w':World} {base g m c many k tick:Nat} {q:bE} {p:PV} {pace rep ran:Int} {calm:Bool} {rows all:List (List Int)} {x:PA}
theorem StOn.may (h:StOn w base q g p m c pace many calm rows tick rep):ft w base q p m c pace many rows.length rows tick:=by
 obtain⟨D,E,e,hd,hi,ok,on,hm,hc,ht,hr⟩:=h.ex;exact⟨h.hs,D,hd,hm,by rw[<- ht];exact on.may⟩
theorem dx.may (h:dx w base q g p m c pace many k all ran):ft w base q p m c pace many k all ran:=by
 obtain⟨D,E,e,hd,hi,ok,ho,hdo,hm,hw,hmay,_⟩:=h.ex;exact⟨h.hs,D,hd,hm,hmay⟩
theorem ft.more (h:ft w base q p m c pace many k all ran)(hc:c<=c'):ft w base q p m c' pace many k all ran:=by
 obtain⟨D,hd,hm,hmay⟩:=h.ex;exact⟨h.hs,D,hd,hm,hmay.mono fun N g=>g.mono hc⟩
theorem dx.more (h:dx w base q g p m c pace many k all ran)(hc:c<=c'):dx w base q g p m c' pace many k all ran:=by
 obtain⟨D,E,e,hd,hi,ok,ho,hdo,hm,hw,hmay,h1,h2⟩:=h.ex;exact⟨h.hs,D,E,e,hd,hi,ok,ho,hdo,hm,hw,hmay.mono fun N g=>g.mono hc,h1,h2⟩
theorem StOn.more (h:StOn w base q g p m c pace many calm rows tick rep)(hc:c<=c'):StOn w base q g p m c' pace many calm rows tick rep:=by
 obtain⟨D,E,e,hd,hi,ok,on,hm,h4,ht,hr⟩:=h.ex;exact⟨h.hs,D,E,e,hd,hi,ok,on.more hc,hm,h4,ht,hr⟩
theorem StOn.below (h:StOn w base q g p m c pace many calm rows tick rep)(hb:Below w.heap.size w w'):StOn w' base q g p m c pace many calm rows tick rep:=by
 obtain⟨D,E,e,hd,hi,ok,on,hm,hc,ht,hr⟩:=h.ex;exact⟨ae h.hs hb.size,D,E,e,hd.below hb,hi.below hb,ok,on,hm,hc,ht,hr⟩
theorem dx.below (h:dx w base q g p m c pace many k all ran)(hb:Below w.heap.size w w'):dx w' base q g p m c pace many k all ran:=by
 obtain⟨D,E,e,hd,hi,h2⟩:=h.ex;exact⟨ae h.hs hb.size,D,E,e,hd.below hb,hi.below hb,h2⟩
theorem ft.below (h:ft w base q p m c pace many k all ran)(hb:Below w.heap.size w w'):ft w' base q p m c pace many k all ran:=by
 obtain⟨D,hd,h2⟩:=h.ex;exact⟨ae h.hs hb.size,D,hd.below hb,h2⟩
theorem gg.below (h:gg w base q p m c pace many calm k all ran)(hb:Below w.heap.size w w'):gg w' base q p m c pace many calm k all ran:=by
 obtain⟨D,N,hd,h2⟩:=h.ex;exact⟨ae h.hs hb.size,D,N,hd.below hb,h2⟩
theorem be.other {gy i:Nat}{t:TypeId}(hd:be w base q D)(Y:Blk w gy t cs)(ht:t ∉ 4 :: mutD)(u:Value):be (w.setCell ⟨gy,i,none⟩ u) base q D:=by
 obtain⟨A9,c9,h9⟩:=hd;exact⟨A9,c9,h9.keep (F:=(·=gy)) (Keep.one (dw _)) (fun g9 hf e=>by
  subst e;rcases h9.foot_ty Y hf with r | r | r | r | r <;> exact absurd (by rw[r];decide) ht)⟩
def SubR (w':World)(base:Nat)(q:bE)(g:Nat)(p:PV)(m c:Nat)(pace:Int)(many:Nat)(calm:Bool)(rows:List (List Int))(tick:Nat)(rep:Int)(l:List Int)(n z:Int):Prop :=
 (z=41/\n=0/\cx p.ins l=false/\StOn w' base q g p m c pace many calm rows tick rep) \/
 (z=52/\n=0/\cx p.ins l=true/\rows.length=m/\StOn w' base q g p m c pace many calm rows tick rep) \/
 (z=0/\n=(rows.length:Int)/\cx p.ins l=true/\rows.length<m/\StOn w' base q g p m c pace many calm (rows ++ [l]) tick rep) \/
 (z=50/\n=0/\cx p.ins l=true/\rows.length<m/\calm=false/\dx w' base q g p m c pace many rows.length (rows ++ [l]) tick)
theorem mU (hc:calm=true->D.cut=-1)(h:D.cut≠-1):calm=false:=by
 cases calm with
 | false=>rfl
 | true=>exact absurd (hc rfl) h
theorem sub_okE {E:EgV}{l:List Int}(ok:EgOk m p E):EgOk m p (subE m p D E l).2.1/\(subE m p D E l).1.many=D.many/\(subE m p D E l).1.waits.length<=D.waits.length+1/\(subE m p D E l).2.1.nOut=E.nOut/\E.nIn<=(subE m p D E l).2.1.nIn/\(subE m p D E l).2.1.replayed=E.replayed:=by
 unfold subE
 split
 · exact⟨ok,rfl,by simp,rfl,Nat.le_refl _,rfl⟩
 obtain⟨a1,a2,a3,a4⟩:=fAddV_few D 11 m 3 E.nIn p.ins l ok.i0;unfold subB;have:=ok.t1;refine⟨EgOk.told (E:={ E with nIn:=(dY D 11 m 3 E.nIn p.ins l).2.1 }) ⟨a3,ok.o0,ok.t0,?_,ok.p0,ok.p1,ok.r0,ok.r1,ok.cf,ok.c64,ok.kl,ok.kn⟩ _,a1,a2,rfl,a4,rfl⟩
 show E.tick<=((dY D 11 m 3 E.nIn p.ins l).2.1:Int)
 omega
theorem t_submit (V:Env p m pace many)(h:StOn w base q g p m c pace many calm rows tick rep)(B:Option Addr)(n d:Nat)(l:List Int)(hl:RI w B n l)(hn:n<=maxLen)(hi:eN l) :
 Ca 31 #[.pointer (some ⟨g,0,none⟩),.slice B n d] w fun e' w'=>Step mutE base q w w'/\∃ v z,e'=.returned (.tuple #[I v,I z])/\SubR w' base q g p m c pace many calm rows tick rep l v z:=by
 have hs:=h.hs;obtain⟨D,E,e,hd,hin,ok,on,hm,hc,ht,hr⟩:=h.ex;obtain⟨f1,f2,f3,f4,f5,f6,f7,f8,f9,f10,f11⟩:=on.facts;have hm2:=V.g.m2;refine (qf hin ok V.w hd hs f8 (by rw[f7];simp) B n d l hl hn hi).mono fun e' w' ⟨h1,h2⟩=>⟨h2.s,_,_,h1,?_⟩
 obtain⟨o1,o2,o3,o4,o5,o6⟩:=sub_okE (D:=D) (l:=l) ok;have hun:cx p.ins l=false->(subE m p D E l).2.2=(0,41):=fun q=>sub_unfit f1 q
 rcases on.sub V.g hi with ⟨x1,x2⟩ | ⟨x1,x2⟩ | ⟨x1,x2,x3,x4,x5,x6⟩ | ⟨x1,x2,x3,x4,x5⟩
 · left
   rw[x1] at h2;rw[x1];exact⟨rfl,rfl,x2,ae hs h2.s.size,D,E,e,h2.d,h2.i,ok,on,hm,hc,ht,hr⟩
 · right;left
   have hf:cx p.ins l=true:=by
    cases hb:cx p.ins l with
    | true=>rfl
    | false=>
      have:=hun hb;rw[x1] at this;simp at this
   rw[x1] at h2;rw[x1];exact⟨rfl,rfl,hf,x2,ae hs h2.s.size,D,E,e,h2.d,h2.i,ok,on,hm,hc,ht,hr⟩
 · right;right;left
   have:=x3.facts;have hlen:=this.2.2.2.2.1;rw[aw,aJ] at hlen;rw[x1];exact⟨rfl,rfl,x2,aS,ae hs h2.s.size,_,_,e,h2.d,h2.i,o1,x3,x5.trans hm,fun q=>x6 (hc q),x4.trans ht,o6.trans hr⟩
 · right;right;right
   obtain⟨y1,y2,y3,y4⟩:=x4;rw[x1];exact⟨rfl,rfl,x2,x3,mU hc y2,ae hs h2.s.size,_,_,e,h2.d,h2.i,o1,x5,y1,y3.trans hm,by rw[f7] at o3;simp at o3;omega,by rw[<- ht];exact y4,aS,aS⟩
def RunR (w':World)(base:Nat)(q:bE)(g:Nat)(p:PV)(m c:Nat)(pace:Int)(many:Nat)(calm:Bool)(rows:List (List Int))(tick:Nat)(rep most:Int)(n z:Int):Prop :=
 (z=0/\n=min most ((rows.length:Int) - tick)/\StOn w' base q g p m (c+2000) pace many calm rows (tick+n.toNat) rep) \/
 (z=50/\0<=n/\n<=min most ((rows.length:Int) - tick)/\calm=false/\dx w' base q g p m (c+2000) pace many rows.length rows (tick+n))
theorem StOn.le (h:StOn w base q g p m c pace many calm rows tick rep):tick<=rows.length/\rows.length<=m/\0<=rep/\rep<=tick/\dN p.ins rows:=by
 obtain⟨D,E,e,hd,hin,ok,on,hm,hc,ht,hr⟩:=h.ex;obtain⟨f1,f2,f3,f4,f5,f6,f7,f8,f9,f10,f11⟩:=on.facts;have:=ok.r0;have:=ok.r1;exact⟨aS,f5,aS,by omega,f9⟩
theorem t_run (V:Env p m pace many)(h:StOn w base q g p m c pace many calm rows tick rep)(most:Int)(hmo:0<=most)(hcb:c<7000000000000000000) :
 Ca 33 #[.pointer (some ⟨g,0,none⟩),I most] w fun e' w'=>Step mutE base q w w'/\∃ n z,e'=.returned (.tuple #[I n,I z])/\RunR w' base q g p m c pace many calm rows tick rep most n z:=by
 have hs:=h.hs;obtain⟨hle,_⟩:=h.le;obtain⟨D,E,e,hd,hin,ok,on,hm,hc,ht,hr⟩:=h.ex;obtain⟨f1,f2,f3,f4,f5,f6,f7,f8,f9,f10,f11⟩:=on.facts;have hm2:=V.g.m2;have hp:=runE_pub (D:=D) (hash:=(cw p:Nat)) (pace:=pace) V.w most ok;have hun:runE m p (cw p:Nat) pace most D E=runA (runK m p (cw p:Nat) pace most ((E.nIn:Int) - E.tick).toNat 0 D E):=by
  unfold runE;rw[if_neg (by rw[f1];simp),if_neg aS]
 have hc1:=run_on hin ok V.w hd hs f8 (by rw[f7];simp) most hmo f1;rw[<- hun] at hc1;refine hc1.mono fun e' w' ⟨A,n,cc,h1,h2⟩=>⟨h2.s,_,_,h1,?_⟩
 have hw:=hp.waits;rw[f7] at hw;simp at hw;rcases on.run V.g most hmo aS with ⟨x1,x2,x3,x4,x5,x6⟩ | ⟨x1,x2,x3,x4,x5⟩
 · left
   refine⟨x1,by rw[x4,ht],ae hs h2.s.size,_,_,_,h2.d,h2.i,hp.ok,x2.more aS,x5.trans hm,fun q=>x6 (hc q),?_,hp.rep.trans hr⟩;rw[x3,ht,x4];have h5:(0:Int)<=min most ((rows.length:Int) - E.tick):=aS
   push_cast
   rw[Int.toNat_of_nonneg h5]
 · right
   obtain⟨y1,y2,y3,y4⟩:=x4;rw[ht] at x3 y4;exact⟨x1,x2,x3,mU hc y2,ae hs h2.s.size,_,_,_,h2.d,h2.i,hp.ok,x5,y1,y3.trans hm,aS,y4.mono fun N g=>g.mono aS,by rw[hp.nin];omega,by rw[hp.nin];exact hp.io aS⟩
def SaveR (w':World)(base:Nat)(q:bE)(g:Nat)(p:PV)(m c:Nat)(pace:Int)(many:Nat)(calm:Bool)(rows:List (List Int))(tick:Nat)(rep:Int)(z:Int):Prop :=
 (z=0/\StOn w' base q g p m (c+2000) pace many calm rows tick rep) \/
 (z=50/\calm=false/\dx w' base q g p m (c+2000) pace many rows.length rows tick)
theorem t_save (V:Env p m pace many)(h:StOn w base q g p m c pace many calm rows tick rep)(hcb:c<7000000000000000000) :
 Ca 32 #[.pointer (some ⟨g,0,none⟩)] w fun e' w'=>Step mutE base q w w'/\∃ z,e'=.returned (I z)/\SaveR w' base q g p m c pace many calm rows tick rep z:=by
 have hs:=h.hs;obtain⟨D,E,e,hd,hin,ok,on,hm,hc,ht,hr⟩:=h.ex;obtain⟨f1,f2,f3,f4,f5,f6,f7,f8,f9,f10,f11⟩:=on.facts;have hp:=saveE_pub (D:=D) (hash:=(cw p:Nat)) ok;refine (saveE_any hin ok V.w hd hs f8 (by rw[f7];simp)).mono fun e' w' ⟨h1,h2⟩=>⟨h2.s,_,h1,?_⟩
 have hw:=hp.waits;rw[f7] at hw;simp at hw;rcases on.save V.g aS with ⟨x1,x2,x3,x5,x6⟩ | ⟨x1,x4,x5⟩
 · left
   exact⟨x1,ae hs h2.s.size,_,_,_,h2.d,h2.i,hp.ok,x2.more aS,x5.trans hm,fun q=>x6 (hc q),x3.trans ht,hp.rep.trans hr⟩
 · right
   obtain⟨y1,y2,y3,y4⟩:=x4;rw[ht] at y4;exact⟨x1,mU hc y2,ae hs h2.s.size,_,_,_,h2.d,h2.i,hp.ok,x5,y1,y3.trans hm,aS,y4.mono fun N g=>g.mono aS,by rw[hp.nin];omega,by rw[hp.nin];exact hp.io aS⟩
theorem t_input (V:Env p m pace many)(h:StOn w base q g p m c pace many calm rows tick rep)(t:Nat)(l:List Int)(ht0:rows[t]?=some l) :
 Ca 141 #[.pointer (some ⟨g,0,none⟩),I (t:Nat)] w fun e' w'=>∃ B k d,e'=.returned (.tuple #[.slice B k d,I 0])/\Ow iv w' w.heap.size 3 B k d l/\StOn w' base q g p m c pace many calm rows tick rep/\Step mutE base q w w':=by
 have hs:=h.hs;obtain⟨D,E,e,hd,hin,ok,on,hm,hc,ht,hr⟩:=h.ex;obtain⟨f1,f2,f3,f4,f5,f6,f7,f8,f9,f10,f11⟩:=on.facts;have hg:=on.input V.g ht0;have h1:=input_any hin ok V.w hd hs f8 (t:Int);rw[hg] at h1;refine h1.mono fun e' w' ⟨B,k,d,h1,h2,h3⟩=>⟨B,k,d,h1,h2,⟨ae hs h3.s.size,_,E,e,h3.d,h3.i,ok,on.ops _,hm,hc,ht,hr⟩,h3.s⟩
theorem t_output (V:Env p m pace many)(h:StOn w base q g p m c pace many calm rows tick rep)(t:Nat)(ht0:t<tick) :
 Ca 98 #[.pointer (some ⟨g,0,none⟩),I (t:Nat)] w fun e' w'=>∃ B k d,e'=.returned (.tuple #[.slice B k d,I 0])/\Ow iv w' w.heap.size 3 B k d (dH p rows t)/\StOn w' base q g p m c pace many calm rows tick rep/\Step mutE base q w w':=by
 have hs:=h.hs;obtain⟨D,E,e,hd,hin,ok,on,hm,hc,ht,hr⟩:=h.ex;obtain⟨f1,f2,f3,f4,f5,f6,f7,f8,f9,f10,f11⟩:=on.facts;have hg:=on.output V.g (t:=t) aS;have h1:=qg hin ok V.w hd hs f8 (t:Int);rw[hg] at h1;refine h1.mono fun e' w' ⟨B,k,d,h1,h2,h3⟩=>⟨B,k,d,h1,h2,⟨ae hs h3.s.size,_,E,e,h3.d,h3.i,ok,on.ops _,hm,hc,ht,hr⟩,h3.s⟩
theorem EgOn.saved {E:EgV}{H:Nat}(h:EgOn p H m c pace D E rows):0<=(gS E.k).tick/\(gS E.k).tick<=E.tick:=by
 obtain⟨N,kS,s,n,last,is,h⟩:=h;have q:=h.mid;have h0:=q.t0;have hks:=q.ksle;have hat:=h.at_;rw[q.ek];unfold gS kOf;rcases aI n with z | z
 · subst z;simp[gz];exact h0
 · obtain⟨_,k1,k2⟩:=q.kc z;have hne:¬ n=0:=aS;simp only[hne,z,decide_true,if_true,if_false]
   first
    | exact⟨k1,aS⟩
    | (simp[hne];exact⟨k1,aS⟩)
theorem t_stat (h:StOn w base q g p m c pace many calm rows tick rep) :
 Ca 29 #[.pointer (some ⟨g,0,none⟩)] w fun e' w'=>∃ pa sv,e'=.returned (.agg #[I (rows.length:Nat),I (tick:Nat),I (tick:Nat),I pa,I rep,I sv])/\0<=pa/\pa<pace/\pa<=tick/\0<=sv/\sv<=tick/\Below w.heap.size w w':=by
 obtain⟨D,E,e,hd,hin,ok,on,hm,hc,ht,hr⟩:=h.ex;obtain⟨f1,f2,f3,f4,f5,f6,f7,f8,f9,f10,f11⟩:=on.facts;obtain⟨s1,s2⟩:=on.saved;have hp1:=ok.p1;refine (estat_any hin ok.kl).mono fun e' w' ⟨h1,h2⟩=>⟨E.passed,(gS E.k).tick,?_,f11,f10,aS,s1,aS,h2⟩
 rw[h1,f2,hr,<- ht,<- f3]
theorem t_cutR (h:gg w base q p m c pace many calm k all ran)(n:Int)(hn:n<=9223372036854775807) :
 Ca 42 #[.pointer (some ⟨q.d,0,none⟩),I n] w fun e' w'=>e'=.returned (.tuple #[])/\gg w' base q p m c pace many (decide (n<=-1)) k all ran/\Step mutE base q w w':=by
 have hs:=h.hs;obtain⟨D,N,hd,r,hm,hc,hg⟩:=h.ex;exact (s_cut hd hs n hn).mono fun e' w' ⟨h1,h2,h3⟩=>⟨h1,⟨ae hs h3.size,_,N,h2,r.cutTo _ aS aS,hm,fun q=>by have:=of_decide_eq_true q;show max n (-1)=-1;omega,hg⟩,h3.dToE⟩
theorem t_cut (h:StOn w base q g p m c pace many calm rows tick rep)(n:Int)(hn:n<=9223372036854775807) :
 Ca 42 #[.pointer (some ⟨q.d,0,none⟩),I n] w fun e' w'=>e'=.returned (.tuple #[])/\StOn w' base q g p m c pace many (decide (n<=-1)) rows tick rep/\Step mutE base q w w':=by
 have hs:=h.hs;obtain⟨D,E,e,hd,hin,ok,on,hm,hc,ht,hr⟩:=h.ex;exact (s_cut hd hs n hn).mono fun e' w' ⟨h1,h2,h3⟩=>⟨h1,⟨ae hs h3.size,_,E,e,h2,hin.stepD hd h3,ok,on.cutTo _ aS aS,hm,fun q=>by have:=of_decide_eq_true q;show max n (-1)=-1;omega,ht,hr⟩,h3.dToE⟩
theorem May.cutTo {G:Secs->Prop}(h:May D G)(n:Int)(h0:-1<=n)(h1:n<=9223372036854775807):May { D with cut:=n } G:=by
 obtain⟨P,hs,h2⟩:=h;exact⟨P,⟨by
  have o:=hs.ok;exact⟨o.many0,o.many1,o.kept,o.now,o.inuse,o.might,o.waits,o.room,⟨h0,h1⟩,o.few⟩,hs.room,hs.kept,hs.shut⟩,h2⟩
theorem t_cutO (h:dx w base q g p m c pace many k all ran)(n:Int)(hn:n<=9223372036854775807) :
 Ca 42 #[.pointer (some ⟨q.d,0,none⟩),I n] w fun e' w'=>e'=.returned (.tuple #[])/\dx w' base q g p m c pace many k all ran/\Step mutE base q w w':=by
 have hs:=h.hs;obtain⟨D,E,e,hd,hin,ok,ho,hdo,hm,hw,hmay,i1,i2⟩:=h.ex;exact (s_cut hd hs n hn).mono fun e' w' ⟨h1,h2,h3⟩=>⟨h1,⟨ae hs h3.size,_,E,e,h2,hin.stepD hd h3,ok,ho,hdo,hm,hw,hmay.cutTo _ aS aS,i1,i2⟩,h3.dToE⟩
theorem t_cutM (h:ft w base q p m c pace many k all ran)(n:Int)(hn:n<=9223372036854775807) :
 Ca 42 #[.pointer (some ⟨q.d,0,none⟩),I n] w fun e' w'=>e'=.returned (.tuple #[])/\ft w' base q p m c pace many k all ran/\Step mutE base q w w':=by
 have hs:=h.hs;obtain⟨D,hd,hm,hmay⟩:=h.ex;exact (s_cut hd hs n hn).mono fun e' w' ⟨h1,h2,h3⟩=>⟨h1,⟨ae hs h3.size,_,h2,hm,hmay.cutTo _ aS aS⟩,h3.dToE⟩
def OpenR (w':World)(base:Nat)(q:bE)(g:Nat)(p:PV)(m c:Nat)(pace:Int)(many:Nat)(calm:Bool)(k:Nat)(all:List (List Int))(ran:Int)(z:Int):Prop :=
 (z=0/\∃ (nx:Nat) (rep:Int),k<=nx/\nx<=all.length/\0<=rep/\rep<=pace+(nx:Int) - ran/\StOn w' base q g p m (c+2000) pace many calm (all.take nx) nx rep) \/
 (z=50/\calm=false/\∃ k' nx:Nat,k<=k'/\k'<=nx/\nx<=all.length/\ft w' base q p m (c+2000) pace many k' (all.take nx) ran)
theorem t_open (V:Env p m pace many)(h:gg w base q p m c pace many calm k all ran)(hx:ej w base x p)(hcb:c<7000000000000000000) :
 Ca 25 #[.pointer (some ⟨q.d,0,none⟩),.agg #[.slice x.A1 x.n1 x.c1,.slice x.A2 x.n2 x.c2,I p.regs,.slice x.A3 x.n3 x.c3,.slice x.A4 x.n4 x.c4],I pace] w fun e' w'=>
  Step mutE base q w w'/\∃ g z,e'=.returned (.tuple #[.pointer (if z=0 then some ⟨g,0,none⟩ else none),I z])/\OpenR w' base q g p m c pace many calm k all ran z:=by
 have hs:=h.hs;obtain⟨D,N,hd,r,hm,hc,hg⟩:=h.ex;have hV:=V.big;refine (engopen_any hd hs hx V.w (by rw[hm];exact V.h13) (by rw[hm];exact V.lg) V.g.m1 (by rw[hm];exact hV) V.g.pc V.pc (by rw[r.waits];simp)).mono fun e' w' ⟨g,h2,h1⟩=>⟨h2.2.1,g,_,h1,?_⟩
 rcases hg.opened V.g r (by rw[hm];omega) aS with ⟨x1,nx,x2,x3,x4,x5,x6,x7,x8,x9⟩ | ⟨x1,k',nx,x2,x3,x4,y1,y2,y3,y4⟩
 · left
   obtain⟨e,he⟩:=h2.2.2 x1;exact⟨x1,nx,_,x2,x3,x6,x7,ae hs h2.2.1.size,_,_,e,h2.1,he,openE_ok V.w x1,x4.more aS,x8.trans hm,fun q=>x9 (hc q),x5,rfl⟩
 · right
   exact⟨x1,mU hc y2,k',nx,x2,x3,x4,ae hs h2.2.1.size,_,h2.1,y3.trans hm,y4.mono fun N g=>g.mono aS⟩
theorem t_format (V:Env p m pace many){N:Secs}(hd:be w base q D)(hr:Rest D N)(hm:D.many=many)(hs:base<=w.heap.size)(hx:cC w x p) :
 Ca 27 #[.pointer (some ⟨q.d,0,none⟩),.agg #[.slice x.A1 x.n1 x.c1,.slice x.A2 x.n2 x.c2,I p.regs,.slice x.A3 x.n3 x.c3,.slice x.A4 x.n4 x.c4]] w fun e' w'=>Step mutE base q w w'/\∃ z,e'=.returned (I z) /\
  ((z=0/\gg w' base q p m 0 pace many (decide (D.cut=-1)) 0 [] 0)\/(z=50/\D.cut≠-1/\∃ D',be w' base q D'/\D'.many=many/\Safe D' anyP)):=by
 have hV:=V.big;refine (format_any (m:=m) hd hs hx V.w.hw V.w.hv (by rw[hm];exact V.h13) (by rw[hm];exact V.lg) (by rw[hm];exact hV) (by rw[hr.waits];simp)).mono fun e' w' ⟨h1,h2,h3⟩=>⟨h3.dToE,_,h1,?_⟩
 obtain⟨a1,a2⟩:=hr.formatted (M:=11+m+m) (H:=cw p) aS (by rw[hm];exact hV);rcases a2 with ⟨b1,⟨N',b2,b3,b4⟩,b5⟩ | ⟨b1,b2,b3,b4⟩
 · left
   exact⟨b1,ae hs h3.size,_,N',h2,b2,a1.trans hm,fun q=>b5 (of_decide_eq_true q),good_new V.g.pc b3 b4⟩
 · right
   exact⟨b1,b3,_,h2,a1.trans hm,b4⟩
theorem rest_new (h0:1<=many)(h1:many<=4096):Rest (newV many many) (fun s=>ch (newV many many).now (s:Int)):=⟨(calm_new h0 h1).fit,rfl,fun _ _=>rfl⟩
theorem t_new (w:World)(h0:1<=many)(h1:many<=4096):Ca 28 #[I (many:Nat),I (many:Nat)] w fun e' w'=>∃ q,e'=.returned (.tuple #[.pointer (some ⟨q.d,0,none⟩),I 0])/\be w' w.heap.size q (newV many many)/\Below w.heap.size w w' :=
 (new_ok many many w h0 h1 aS aS).mono fun e' w' ⟨q,h1,h2,h3⟩=>⟨q,h1,⟨_,_,h2⟩,h3⟩
theorem Env.of {p:PV}{pace:Int}{m:Nat}(hv:dF p=true)(hw:eO p)(h1:13<=many)(h2:many<=2059)(hm:m=(many - 11) / 2)(p1:1<=pace)(p2:pace<=1024):Env p m pace many:=by
 subst hm;refine⟨⟨hv,hw,?_,aS,by omega,p1⟩,⟨hv,hw,aS⟩,h1,?_,aS,p2⟩
 · unfold cw;omega
 · unfold logN;rw[if_neg aS,if_neg aS];omega
end
