/- Parts. -/
import Derived.Test.YtmeebofhlilcmaaGreatPr44
set_option linter.unusedVariables false
set_option linter.unusedSimpArgs false
set_option maxRecDepth 100000
set_option maxHeartbeats 0
namespace Go.Proofs.YtmeebofhlilcmaaGreat
open Go.RowKit
section
variable {m:Nat} {p:PV} {hash pace most:Int} {D:aY} {E:EgV} {k:Nat}
theorem runK_most {f:Nat}(h:most<=(k:Int)):runK m p hash pace most f k D E=(D,E,k,0):=by
 cases f with
 | zero=>rfl
 | succ f=>show (if _ then _ else _)=_;rw[if_pos h]
theorem runK_end (h:(E.nIn:Int)<=E.tick):runK m p hash pace most ((E.nIn:Int) - E.tick).toNat k D E=(D,E,k,0):=by
 rw[show ((E.nIn:Int) - E.tick).toNat=0 by omega];rfl
theorem runK_step (h1:(k:Int)<most)(h:E.tick<(E.nIn:Int)):∃ f,((E.nIn:Int) - E.tick).toNat=f+1/\runK m p hash pace most ((E.nIn:Int) - E.tick).toNat k D E =
 if (bM m p D E).2.2≠0 then ((bM m p D E).1,(bM m p D E).2.1,k,(bM m p D E).2.2)
 else if (runT p hash pace (bM m p D E)).2.2≠0 then ((runT p hash pace (bM m p D E)).1,(runT p hash pace (bM m p D E)).2.1,k+1,(runT p hash pace (bM m p D E)).2.2)
 else runK m p hash pace most f (k+1) (runT p hash pace (bM m p D E)).1 (runT p hash pace (bM m p D E)).2.1:=by
 obtain⟨f,hf⟩:∃ f,((E.nIn:Int) - E.tick).toNat=f+1:=⟨((E.nIn:Int) - E.tick).toNat - 1,aS⟩;refine⟨f,hf,?_⟩;rw[hf]
 show (if _ then _ else _)=_
 rw[if_neg aS]
end
structure RunAt (w wr:World)(base:Nat)(q:bJ)(g:Nat)(e:EP)(m:Nat)(p:PV)(hash pace most:Int)(D:aY)(E:EgV)(RK:aY × EgV × Nat × Int)(D':aY)(E':EgV)(k:Nat)(z:Int):Prop where
 s:EngS w wr base q g e m p hash pace D' E'
 ok:EgOk m p E'
 go:z=0->runK m p hash pace most ((E'.nIn:Int) - E'.tick).toNat k D' E'=RK
 st:z≠0->RK=(D',E',k,z)
 nin:E'.nIn=E.nIn
 wt:D'.waits.length+8 * ((E.nIn:Int) - E'.tick).toNat<=D.waits.length+8 * ((E.nIn:Int) - E.tick).toNat
 kt:k+((E.nIn:Int) - E'.tick).toNat<=((E.nIn:Int) - E.tick).toNat
 many:D'.many=D.many
section
variable {w w':World} {base g m:Nat} {q:bJ} {D:aY} {e:EP} {p:PV} {hash pace:Int} {E:EgV}
theorem run_on (h:cQ w base q g e m p hash pace E)(ok:EgOk m p E)(G:PrgW p m)(hd:br w base q D)(hs:base<=w.heap.size)(big:11+2 * m<=D.many)(hwt:D.waits.length<700000)(most:Int)(hmo:0<=most)(hoff:E.off=false) :
 Ca 33 #[.pointer (some ⟨g,0,none⟩),I most] w fun e' w'=>∃ A n c,e'=.returned (.tuple #[I (runA (runK m p hash pace most ((E.nIn:Int) - E.tick).toNat 0 D E)).2.2.1,I (runA (runK m p hash pace most ((E.nIn:Int) - E.tick).toNat 0 D E)).2.2.2])/\EngS w w' base q g { e with A:=A,n:=n,c:=c } m p hash pace (runA (runK m p hash pace most ((E.nIn:Int) - E.tick).toNat 0 D E)).1 (runA (runK m p hash pace most ((E.nIn:Int) - E.tick).toNat 0 D E)).2.1:=by
 have hrd:=ot h;rw[hoff,if_neg bj] at hrd;have hm2:=G.m2;have HG:=aT G;have hni:=ok.i0;have ht00:=ok.t0;have R0:=aT (show RunAt w w base q g e m p hash pace most D E (runK m p hash pace most ((E.nIn:Int) - E.tick).toNat 0 D E) D E 0 0 from ⟨EngX.done (EngX.of h hd (Step.refl mutE base q w) hs) rfl,ok,fun _=>rfl,fun q=>absurd rfl q,rfl,Nat.le_refl _,aS,rfl⟩);generalize runK m p hash pace most ((E.nIn:Int) - E.tick).toNat 0 D E=RK at *;clear h hd ok G hoff;go_enter Tryz.func33,Tryz.ntmps33;go_wp2_with (first | (go_at_call 122;(with_reducible refine (hrd).mono ?_);rintro e' w2 ⟨rfl,rfl⟩) | fail);go_loopw [7,8] (fun nv zv wr=>∃ (D':aY) (E':EgV) (A:Option Addr) (n c:Nat) (k:Nat) (z:Int),nv=I (k:Nat)/\zv=I z/\Hid (RunAt w wr base q g { e with A:=A,n:=n,c:=c } m p hash pace most D E RK D' E' k z)) (fun _ _ wr=>((E.nIn:Int) - tickAt wr g).toNat)
 case atStart=>exact⟨D,E,e.A,e.n,e.c,0,0,rfl,rfl,R0⟩
 case round=>
  obtain⟨D',E',A,n,c,k,z,rfl,rfl,S1⟩:=hrel;clear R0;obtain⟨c0,c1,c2,c3,c4,c5,c6,c7,c8,c9,c10⟩:=S1.out.s.i.words;have tk1:=aT (kD c6);have hbs:=aj hs S1.out.s.s.size;have hlen:=lv (S1.out.s.i.r.below (Below.drew (Below.refl _ _))).inn;have Xd:=aT ((EngX.of S1.out.s.i S1.out.s.d S1.out.s.s hbs).below (Below.drew (Below.refl _ _)));have SD:=aT (EngX.done Xd.out rfl);have hkt:=S1.out.kt;have bsd:base<=wr.drew.heap.size:=hbs
  by_cases hk:most<=(k:Int)
  · have dk:decide ((k:Int)<most)=false:=ah aS
    by_cases hz:z=0
    · subst hz;have HRK:=aT (show RK=(D',E',k,0) by rw[<- S1.out.go rfl];exact runK_most hk);clear hk;go_upto_region 7 with fail;obtain⟨v0,v1,v2,v3,v4,v5,v6,v7,v8,v9,v10⟩:=SD.out.i.words;refine wp_region_held_drew (S:=fun w'=>w'.cell? ⟨g,6,none⟩=some (I E'.tick)/\w'.cell? ⟨g,1,none⟩=some (.pointer (some ⟨e.gi,0,none⟩))) bQ ⟨v6,v1⟩ (fun hHeld=>?_);refine aW 0 ?_;refine aW 1 ?_;refine aW 2 ?_;refine aW 3 ?_;refine bD 4 ?_;refine bD 5 ?_;refine bD 6 ?_;refine bD 7 ?_;refine bD 8 ?_;refine bD 9 ?_;refine bD 10 ?_;refine bD 11 ?_;refine bD 12 ?_;refine bD 13 ?_;refine aW 14 ?_;refine aW 15 ?_;refine bD 16 ?_;refine bD 17 ?_;refine aW 18 ?_;refine wpAnyH_done bV ?_ _;have hfl:=jY (hash:=hash) (pace:=pace) SD.out.i SD.out.d bsd;have hrun:runA (D',E',k,0)=runB k 0 (cW D' E'):=rfl;generalize cW D' E'=F at *;obtain⟨D5,E5,f5⟩:=F;simp only at hfl;have HRUN:=aT (hrun.trans (show runB k 0 (D5,E5,f5)=(D5,fB E5 f5,((k:Nat):Int),f5) by unfold runB;simp));clear hrun;go_wp2_with (first | ((go_at_call 127;(with_reducible refine (hfl).mono ?_);rintro e' w6 ⟨rfl,s6⟩);have X6:=aT s6;have hb6:=aj bsd s6.s.size;have htl6:=jB (hash:=hash) (pace:=pace) s6.i s6.d hb6 f5;clear s6) | ((go_at_call 124;(with_reducible refine (htl6).mono ?_);rintro e' w7 ⟨rfl,s7⟩);have X7:=aT s7;clear s7) | fail);go_ret2;rw[HRK.out,HRUN.out]
      first | exact⟨A,n,c,rfl,X7.out.d,X7.out.i,(SD.out.s.trans X6.out.s).trans X7.out.s⟩ | exact⟨rfl,A,n,c,X7.out.d,X7.out.i,(SD.out.s.trans X6.out.s).trans X7.out.s⟩
    · have hzb:(z == 0)=false:=by rw[ae];exact hz
      have HRK:=aT (S1.out.st hz);have HZ:=aT hz;clear hk hz;go_upto_region 7 with fail;obtain⟨v0,v1,v2,v3,v4,v5,v6,v7,v8,v9,v10⟩:=SD.out.i.words;refine wp_region_held_drew (S:=fun w'=>w'.cell? ⟨g,6,none⟩=some (I E'.tick)/\w'.cell? ⟨g,1,none⟩=some (.pointer (some ⟨e.gi,0,none⟩))) bQ ⟨v6,v1⟩ (fun hHeld=>?_);refine aW 0 ?_;refine aW 1 ?_;refine aW 2 ?_;refine aW 3 ?_;refine bD 4 ?_;refine bD 5 ?_;refine bD 6 ?_;refine bD 7 ?_;refine bD 8 ?_;refine bD 9 ?_;refine bD 10 ?_;refine bD 11 ?_;refine bD 12 ?_;refine bD 13 ?_;refine aW 14 ?_;refine aW 15 ?_;refine bD 16 ?_;refine bD 17 ?_;refine aW 18 ?_;refine wpAnyH_done bV ?_ _;have hfl:=jY (hash:=hash) (pace:=pace) SD.out.i SD.out.d bsd;have hrun:runA (D',E',k,z)=runB k z (cW D' E'):=rfl;generalize cW D' E'=F at *;obtain⟨D5,E5,f5⟩:=F;simp only at hfl;have HRUN:=aT (hrun.trans (show runB k z (D5,E5,f5)=(D5,fB E5 z,((k:Nat):Int),z) by unfold runB;rw[if_neg HZ.out]));clear hrun;go_wp2_with (first | ((go_at_call 127;(with_reducible refine (hfl).mono ?_);rintro e' w6 ⟨rfl,s6⟩);have X6:=aT s6;have hb6:=aj bsd s6.s.size;have htl6:=jB (hash:=hash) (pace:=pace) s6.i s6.d hb6 z;clear s6) | ((go_at_call 124;(with_reducible refine (htl6).mono ?_);rintro e' w7 ⟨rfl,s7⟩);have X7:=aT s7;clear s7) | fail);go_ret2;rw[HRK.out,HRUN.out]
      first | exact⟨A,n,c,rfl,X7.out.d,X7.out.i,(SD.out.s.trans X6.out.s).trans X7.out.s⟩ | exact⟨rfl,A,n,c,X7.out.d,X7.out.i,(SD.out.s.trans X6.out.s).trans X7.out.s⟩
  have dk:decide ((k:Int)<most)=true:=am aS
  by_cases hlt:E'.tick<(E'.nIn:Int)
  rotate_left 1
  · have dt:=ah hlt
    by_cases hz:z=0
    · subst hz;have HRK:=aT (show RK=(D',E',k,0) by rw[<- S1.out.go rfl];exact runK_end aS);clear hlt;go_upto_region 7 with fail;obtain⟨v0,v1,v2,v3,v4,v5,v6,v7,v8,v9,v10⟩:=SD.out.i.words;refine wp_region_held_drew (S:=fun w'=>w'.cell? ⟨g,6,none⟩=some (I E'.tick)/\w'.cell? ⟨g,1,none⟩=some (.pointer (some ⟨e.gi,0,none⟩))) bQ ⟨v6,v1⟩ (fun hHeld=>?_);refine aW 0 ?_;refine aW 1 ?_;refine aW 2 ?_;refine aW 3 ?_;refine aW 4 ?_;refine aW 5 ?_;refine aW 6 ?_;refine aW 7 ?_ (hy:=Or.inl ⟨by rfl,dq⟩);refine aW 8 ?_;refine aW 9 ?_;refine aW 10 ?_;refine aW 11 ?_ (hy:=Or.inl ⟨by rfl,dq⟩);refine bS 12 (fun K hK=>?_);go_simp
      (go_at_call 119;(with_reducible refine (hlen).mono ?_);rintro e' w3 ⟨rfl,rfl⟩)
      refine hK.out _ _ (⟨v6,v1⟩) (fun hHeld=>?_);clear hK K;refine bK ?_;refine aW 13 ?_;refine aW 14 ?_;refine aW 15 ?_;refine bD 16 ?_;refine bD 17 ?_;refine aW 18 ?_;refine wpAnyH_done bV ?_ _;have hfl:=jY (hash:=hash) (pace:=pace) SD.out.i SD.out.d bsd;have hrun:runA (D',E',k,0)=runB k 0 (cW D' E'):=rfl;generalize cW D' E'=F at *;obtain⟨D5,E5,f5⟩:=F;simp only at hfl;have HRUN:=aT (hrun.trans (show runB k 0 (D5,E5,f5)=(D5,fB E5 f5,((k:Nat):Int),f5) by unfold runB;simp));clear hrun;go_wp2_with (first | ((go_at_call 127;(with_reducible refine (hfl).mono ?_);rintro e' w6 ⟨rfl,s6⟩);have X6:=aT s6;have hb6:=aj bsd s6.s.size;have htl6:=jB (hash:=hash) (pace:=pace) s6.i s6.d hb6 f5;clear s6) | ((go_at_call 124;(with_reducible refine (htl6).mono ?_);rintro e' w7 ⟨rfl,s7⟩);have X7:=aT s7;clear s7) | fail);go_ret2;rw[HRK.out,HRUN.out]
      first | exact⟨A,n,c,rfl,X7.out.d,X7.out.i,(SD.out.s.trans X6.out.s).trans X7.out.s⟩ | exact⟨rfl,A,n,c,X7.out.d,X7.out.i,(SD.out.s.trans X6.out.s).trans X7.out.s⟩
    · have hzb:(z == 0)=false:=by rw[ae];exact hz
      have HRK:=aT (S1.out.st hz);have HZ:=aT hz;clear hlt hz;go_upto_region 7 with fail;obtain⟨v0,v1,v2,v3,v4,v5,v6,v7,v8,v9,v10⟩:=SD.out.i.words;refine wp_region_held_drew (S:=fun w'=>w'.cell? ⟨g,6,none⟩=some (I E'.tick)/\w'.cell? ⟨g,1,none⟩=some (.pointer (some ⟨e.gi,0,none⟩))) bQ ⟨v6,v1⟩ (fun hHeld=>?_);refine aW 0 ?_;refine aW 1 ?_;refine aW 2 ?_;refine aW 3 ?_;refine aW 4 ?_;refine aW 5 ?_;refine aW 6 ?_;refine aW 7 ?_ (hy:=Or.inl ⟨by rfl,dq⟩);refine aW 8 ?_;refine aW 9 ?_;refine aW 10 ?_;refine aW 11 ?_ (hy:=Or.inl ⟨by rfl,dq⟩);refine bS 12 (fun K hK=>?_);go_simp
      (go_at_call 119;(with_reducible refine (hlen).mono ?_);rintro e' w3 ⟨rfl,rfl⟩)
      refine hK.out _ _ (⟨v6,v1⟩) (fun hHeld=>?_);clear hK K;refine bK ?_;refine aW 13 ?_;refine aW 14 ?_;refine aW 15 ?_;refine bD 16 ?_;refine bD 17 ?_;refine aW 18 ?_;refine wpAnyH_done bV ?_ _;have hfl:=jY (hash:=hash) (pace:=pace) SD.out.i SD.out.d bsd;have hrun:runA (D',E',k,z)=runB k z (cW D' E'):=rfl;generalize cW D' E'=F at *;obtain⟨D5,E5,f5⟩:=F;simp only at hfl;have HRUN:=aT (hrun.trans (show runB k z (D5,E5,f5)=(D5,fB E5 z,((k:Nat):Int),z) by unfold runB;rw[if_neg HZ.out]));clear hrun;go_wp2_with (first | ((go_at_call 127;(with_reducible refine (hfl).mono ?_);rintro e' w6 ⟨rfl,s6⟩);have X6:=aT s6;have hb6:=aj bsd s6.s.size;have htl6:=jB (hash:=hash) (pace:=pace) s6.i s6.d hb6 z;clear s6) | ((go_at_call 124;(with_reducible refine (htl6).mono ?_);rintro e' w7 ⟨rfl,s7⟩);have X7:=aT s7;clear s7) | fail);go_ret2;rw[HRK.out,HRUN.out]
      first | exact⟨A,n,c,rfl,X7.out.d,X7.out.i,(SD.out.s.trans X6.out.s).trans X7.out.s⟩ | exact⟨rfl,A,n,c,X7.out.d,X7.out.i,(SD.out.s.trans X6.out.s).trans X7.out.s⟩
  have dt:=am hlt
  by_cases hz:z=0
  rotate_left 1
  · have hzb:(z == 0)=false:=by rw[ae];exact hz
    have HRK:=aT (S1.out.st hz);have HZ:=aT hz;clear hlt hz;go_upto_region 7 with fail;obtain⟨v0,v1,v2,v3,v4,v5,v6,v7,v8,v9,v10⟩:=SD.out.i.words;refine wp_region_held_drew (S:=fun w'=>w'.cell? ⟨g,6,none⟩=some (I E'.tick)/\w'.cell? ⟨g,1,none⟩=some (.pointer (some ⟨e.gi,0,none⟩))) bQ ⟨v6,v1⟩ (fun hHeld=>?_);refine aW 0 ?_;refine aW 1 ?_;refine aW 2 ?_;refine aW 3 ?_;refine aW 4 ?_;refine aW 5 ?_;refine aW 6 ?_;refine aW 7 ?_ (hy:=Or.inl ⟨by rfl,dq⟩);refine aW 8 ?_;refine aW 9 ?_;refine aW 10 ?_;refine aW 11 ?_ (hy:=Or.inl ⟨by rfl,dq⟩);refine bS 12 (fun K hK=>?_);go_simp
    (go_at_call 119;(with_reducible refine (hlen).mono ?_);rintro e' w3 ⟨rfl,rfl⟩)
    refine hK.out _ _ (⟨v6,v1⟩) (fun hHeld=>?_);clear hK K;refine bK ?_;refine aW 13 ?_;refine aW 14 ?_;refine aW 15 ?_;refine aW 16 ?_;refine aW 17 ?_;refine aW 18 ?_;refine wpAnyH_done bV ?_ _;have hfl:=jY (hash:=hash) (pace:=pace) SD.out.i SD.out.d bsd;have hrun:runA (D',E',k,z)=runB k z (cW D' E'):=rfl;generalize cW D' E'=F at *;obtain⟨D5,E5,f5⟩:=F;simp only at hfl;have HRUN:=aT (hrun.trans (show runB k z (D5,E5,f5)=(D5,fB E5 z,((k:Nat):Int),z) by unfold runB;rw[if_neg HZ.out]));clear hrun;go_wp2_with (first | ((go_at_call 127;(with_reducible refine (hfl).mono ?_);rintro e' w6 ⟨rfl,s6⟩);have X6:=aT s6;have hb6:=aj bsd s6.s.size;have htl6:=jB (hash:=hash) (pace:=pace) s6.i s6.d hb6 z;clear s6) | ((go_at_call 124;(with_reducible refine (htl6).mono ?_);rintro e' w7 ⟨rfl,s7⟩);have X7:=aT s7;clear s7) | fail);go_ret2;rw[HRK.out,HRUN.out]
    first | exact⟨A,n,c,rfl,X7.out.d,X7.out.i,(SD.out.s.trans X6.out.s).trans X7.out.s⟩ | exact⟨rfl,A,n,c,X7.out.d,X7.out.i,(SD.out.s.trans X6.out.s).trans X7.out.s⟩
  subst hz;have hzb0:((0:Int) == 0)=true:=rfl;have hmany1:=S1.out.many;have hwt1:=S1.out.wt;have ht1:=S1.out.ok.t0;have hone:=one_any (hash:=hash) (pace:=pace) SD.out.i S1.out.ok HG.out SD.out.d bsd (by rw[hmany1];exact big) hlt aS;have hok:=aT (lz (D:=D') S1.out.ok HG.out hlt);obtain⟨f,hf,hrk⟩:=runK_step (m:=m) (p:=p) (hash:=hash) (pace:=pace) (most:=most) (D:=D') (E:=E') (k:=k) aS hlt;rw[S1.out.go rfl] at hrk;have hkk:k+1<=1024:=by have:=S1.out.nin;omega
  generalize bM m p D' E'=R at *;obtain⟨D2,E2,z2⟩:=R;simp only at hone hrk
  by_cases hz2:z2=0
  rotate_left 1
  · have hzb2:(z2 != 0)=true:=by rw[af];exact hz2
    have hzb:(z2 == 0)=false:=by rw[ae];exact hz2
    rw[if_pos hz2] at hrk;have HRK:=aT hrk;have HZ:=aT hz2;clear hlt hz2 hrk hf hmany1 hwt1 ht1 hkt;go_upto_region 7 with fail;obtain⟨v0,v1,v2,v3,v4,v5,v6,v7,v8,v9,v10⟩:=SD.out.i.words;refine wp_region_held_drew (S:=fun w'=>w'.cell? ⟨g,6,none⟩=some (I E'.tick)/\w'.cell? ⟨g,1,none⟩=some (.pointer (some ⟨e.gi,0,none⟩))) bQ ⟨v6,v1⟩ (fun hHeld=>?_);refine aW 0 ?_;refine aW 1 ?_;refine aW 2 ?_;refine aW 3 ?_;refine aW 4 ?_;refine aW 5 ?_;refine aW 6 ?_;refine aW 7 ?_ (hy:=Or.inl ⟨by rfl,dq⟩);refine aW 8 ?_;refine aW 9 ?_;refine aW 10 ?_;refine aW 11 ?_ (hy:=Or.inl ⟨by rfl,dq⟩);refine bS 12 (fun K hK=>?_);go_simp
    (go_at_call 119;(with_reducible refine (hlen).mono ?_);rintro e' w3 ⟨rfl,rfl⟩)
    refine hK.out _ _ (⟨v6,v1⟩) (fun hHeld=>?_);clear hK K;refine bK ?_;refine aW 13 ?_;refine aW 14 ?_;refine aW 15 ?_;refine aW 16 ?_;refine aW 17 ?_;refine aW 18 ?_;refine wpAnyH_done bV ?_ _;go_upto_region 9 with (first | ((go_at_call 126;(with_reducible refine (hone).mono ?_);rintro e' w4 ⟨A4,n4,c4',rfl,s4⟩);have S4:=aT (show EngS w w4 base q g { e with A:=A4,n:=n4,c:=c4' } m p hash pace D2 E2 from ⟨s4.d,s4.i,SD.out.s.trans s4.s⟩);have hbs4:=aj bsd s4.s.size;clear s4) | fail);have hfl:=jY (hash:=hash) (pace:=pace) S4.out.i S4.out.d hbs4;have hrun:runA (D2,E2,k,z2)=runB k z2 (cW D2 E2):=rfl;generalize cW D2 E2=F at *;obtain⟨D5,E5,f5⟩:=F;simp only at hfl;have HRUN:=aT (hrun.trans (show runB k z2 (D5,E5,f5)=(D5,fB E5 z2,((k:Nat):Int),z2) by unfold runB;rw[if_neg HZ.out]));clear hrun;go_wp2_with (first | ((go_at_call 127;(with_reducible refine (hfl).mono ?_);rintro e' w6 ⟨rfl,s6⟩);have X6:=aT s6;have hb6:=aj hbs4 s6.s.size;have htl6:=jB (hash:=hash) (pace:=pace) s6.i s6.d hb6 z2;clear s6) | ((go_at_call 124;(with_reducible refine (htl6).mono ?_);rintro e' w7 ⟨rfl,s7⟩);have X7:=aT s7;clear s7) | fail);go_ret2;rw[HRK.out,HRUN.out]
    first | exact⟨A4,n4,c4',rfl,X7.out.d,X7.out.i,(S4.out.s.trans X6.out.s).trans X7.out.s⟩ | exact⟨rfl,A4,n4,c4',X7.out.d,X7.out.i,(S4.out.s.trans X6.out.s).trans X7.out.s⟩
  subst hz2;rw[if_neg bj] at hrk;have HT:=aT (hok.out.go rfl);have hmany2:=hok.out.many.trans hmany1;have hwt2:=hok.out.waits;have HNI:=aT (hok.out.nin.trans S1.out.nin)
  by_cases hp:pace<=E2.passed
  · have hT:runT p hash pace (D2,E2,0)=dw p hash D2 E2:=by unfold runT;rw[if_pos hp]
    rw[hT] at hrk;have hsv:=fun (W:World) (c1:Option Addr) (c2 c3:Nat) (h1:cQ W base q g { e with A:=c1,n:=c2,c:=c3 } m p hash pace E2) (h2:br W base q D2) (h3:base<=W.heap.size)=>n8 (hash:=hash) (pace:=pace) h1 hok.out.ok HG.out h2 h3 (by rw[hmany2];exact big) (by simp only at hwt2;omega)
    have hok3:=aT (mB (p:=p) (hash:=hash) (D:=D2) hok.out.ok);generalize dw p hash D2 E2=V at *;obtain⟨D3,E3,z3⟩:=V;simp only at hsv hrk;have HRK:=aT hrk;have HF:=aT hf;have hge:=am hp;clear hrk hf hT hmany1 hwt1 ht1 hwt2 hmany2 hkt;go_upto_region 7 with fail;obtain⟨v0,v1,v2,v3,v4,v5,v6,v7,v8,v9,v10⟩:=SD.out.i.words;refine wp_region_held_drew (S:=fun w'=>w'.cell? ⟨g,6,none⟩=some (I E'.tick)/\w'.cell? ⟨g,1,none⟩=some (.pointer (some ⟨e.gi,0,none⟩))) bQ ⟨v6,v1⟩ (fun hHeld=>?_);refine aW 0 ?_;refine aW 1 ?_;refine aW 2 ?_;refine aW 3 ?_;refine aW 4 ?_;refine aW 5 ?_;refine aW 6 ?_;refine aW 7 ?_ (hy:=Or.inl ⟨by rfl,dq⟩);refine aW 8 ?_;refine aW 9 ?_;refine aW 10 ?_;refine aW 11 ?_ (hy:=Or.inl ⟨by rfl,dq⟩);refine bS 12 (fun K hK=>?_);go_simp
    (go_at_call 119;(with_reducible refine (hlen).mono ?_);rintro e' w3 ⟨rfl,rfl⟩)
    refine hK.out _ _ (⟨v6,v1⟩) (fun hHeld=>?_);clear hK K;refine bK ?_;refine aW 13 ?_;refine aW 14 ?_;refine aW 15 ?_;refine aW 16 ?_;refine aW 17 ?_;refine aW 18 ?_;refine wpAnyH_done bV ?_ _;go_upto_region 11 with (first | ((go_at_call 126;(with_reducible refine (hone).mono ?_);rintro e' w4 ⟨A4,n4,c4',rfl,s4⟩);have S4:=aT (show EngS w w4 base q g { e with A:=A4,n:=n4,c:=c4' } m p hash pace D2 E2 from ⟨s4.d,s4.i,SD.out.s.trans s4.s⟩);have hbs4:=aj bsd s4.s.size;obtain⟨c0,c1,c2,c3,c4,c5,c6,c7,c8,c9,c10⟩:=s4.i.words;clear s4) | fail);have X5:=aT (EngX.done ((EngX.of S4.out.i S4.out.d S4.out.s hbs4).below (Below.drew (Below.refl _ _))) rfl);have hsv4:=hsv
    try (have hsv4:=hsv _ _ _ _ X5.out.i X5.out.d hbs4)
    go_region_held3 (fun w'=>w'.cell? ⟨g,7,none⟩=some (I E2.passed)/\w'.cell? ⟨g,5,none⟩=some (I pace)) (first | go_keep | (refine⟨?_,?_⟩ <;> assumption)) (fail);go_wp2_with (first | ((go_at_call 125;(with_reducible refine (hsv4).mono ?_);rintro e' w6 ⟨rfl,s6⟩);have S6:=aT (show EngS w w6 base q g { e with A:=A4,n:=n4,c:=c4' } m p hash pace D3 E3 from ⟨s6.d,s6.i,X5.out.s.trans s6.s⟩);have c6':=kD s6.i.words.2.2.2.2.2.2.1;clear s6) | fail);go_roundw
    case rel=>
     refine⟨D3,E3,A4,n4,c4',k+1,z3,by go_num,rfl,⟨S6.out,hok3.out.ok,fun q=>?_,fun q=>?_,hok3.out.nin.trans HNI.out,?_,?_,(hok3.out.many.trans hok.out.many).trans S1.out.many⟩⟩
     · have:=HRK.out;rw[if_neg (by rw[q];simp)] at this;rw[this];have e1:=hok3.out.nin;have e2:=hok3.out.tick;have e3:=hok.out.nin;have e4:=HT.out;have e5:=HF.out
       try simp only at e1 e2 e3 e4
       rw[show ((E3.nIn:Int) - E3.tick).toNat=f by rw[e1,e2,e3,e4];omega]
     · have:=HRK.out;rw[if_pos q] at this;exact this
     · have e2:=hok3.out.tick;have e4:=HT.out;have e5:=hok3.out.waits;have e6:=hok.out.waits;have e7:=S1.out.wt;have e8:=S1.out.nin
       try simp only at e2 e4 e5 e6
       rw[e2,e4];omega
     · have e2:=hok3.out.tick;have e4:=HT.out;have e7:=S1.out.kt;have e8:=S1.out.nin
       try simp only at e2 e4
       rw[e2,e4];omega
    case measure=>
     have e2:=hok3.out.tick;have e4:=HT.out;have e8:=S1.out.nin;have h8:=tk1.out
     try simp only at e2 e4
     simp only[c6',h8,e2,e4];omega
  · have hT:runT p hash pace (D2,E2,0)=(D2,E2,0):=by unfold runT;rw[if_neg hp]
    rw[hT] at hrk;have hrk2:=hrk;rw[if_neg bj] at hrk2;have HRK:=aT hrk2;have HF:=aT hf;have hsv:=True.intro;have hge:=ah hp;clear hrk hrk2 hf hT hmany1 hwt1 ht1 hwt2 hmany2 hkt;go_upto_region 7 with fail;obtain⟨v0,v1,v2,v3,v4,v5,v6,v7,v8,v9,v10⟩:=SD.out.i.words;refine wp_region_held_drew (S:=fun w'=>w'.cell? ⟨g,6,none⟩=some (I E'.tick)/\w'.cell? ⟨g,1,none⟩=some (.pointer (some ⟨e.gi,0,none⟩))) bQ ⟨v6,v1⟩ (fun hHeld=>?_);refine aW 0 ?_;refine aW 1 ?_;refine aW 2 ?_;refine aW 3 ?_;refine aW 4 ?_;refine aW 5 ?_;refine aW 6 ?_;refine aW 7 ?_ (hy:=Or.inl ⟨by rfl,dq⟩);refine aW 8 ?_;refine aW 9 ?_;refine aW 10 ?_;refine aW 11 ?_ (hy:=Or.inl ⟨by rfl,dq⟩);refine bS 12 (fun K hK=>?_);go_simp
    (go_at_call 119;(with_reducible refine (hlen).mono ?_);rintro e' w3 ⟨rfl,rfl⟩)
    refine hK.out _ _ (⟨v6,v1⟩) (fun hHeld=>?_);clear hK K;refine bK ?_;refine aW 13 ?_;refine aW 14 ?_;refine aW 15 ?_;refine aW 16 ?_;refine aW 17 ?_;refine aW 18 ?_;refine wpAnyH_done bV ?_ _;go_upto_region 11 with (first | ((go_at_call 126;(with_reducible refine (hone).mono ?_);rintro e' w4 ⟨A4,n4,c4',rfl,s4⟩);have S4:=aT (show EngS w w4 base q g { e with A:=A4,n:=n4,c:=c4' } m p hash pace D2 E2 from ⟨s4.d,s4.i,SD.out.s.trans s4.s⟩);have hbs4:=aj bsd s4.s.size;obtain⟨c0,c1,c2,c3,c4,c5,c6,c7,c8,c9,c10⟩:=s4.i.words;clear s4) | fail);have X5:=aT (EngX.done ((EngX.of S4.out.i S4.out.d S4.out.s hbs4).below (Below.drew (Below.refl _ _))) rfl);have hsv4:=hsv
    try (have hsv4:=hsv _ _ _ _ X5.out.i X5.out.d hbs4)
    go_region_held3 (fun w'=>w'.cell? ⟨g,7,none⟩=some (I E2.passed)/\w'.cell? ⟨g,5,none⟩=some (I pace)) (first | go_keep | (refine⟨?_,?_⟩ <;> assumption)) (fail);have c6':=kD X5.out.i.words.2.2.2.2.2.2.1;go_wp2_with fail;go_roundw
    case rel=>
     refine⟨D2,E2,A4,n4,c4',k+1,0,by go_num,rfl,⟨X5.out,hok.out.ok,fun q=>?_,fun q=>absurd rfl q,HNI.out,?_,?_,hok.out.many.trans S1.out.many⟩⟩
     · rw[HRK.out];have e3:=hok.out.nin;have e4:=HT.out;have e5:=HF.out
       try simp only at e3 e4
       rw[show ((E2.nIn:Int) - E2.tick).toNat=f by rw[e3,e4];omega]
     · have e4:=HT.out;have e6:=hok.out.waits;have e7:=S1.out.wt;have e8:=S1.out.nin
       try simp only at e4 e6
       rw[e4];omega
     · have e4:=HT.out;have e7:=S1.out.kt;have e8:=S1.out.nin
       try simp only at e4
       rw[e4];omega
    case measure=>
     have e4:=HT.out;have e8:=S1.out.nin;have h8:=tk1.out
     try simp only at e4
     simp only[c6',h8,e4];omega
end
