/- PlayWrong. -/
import Derived.Test.YtmeebofhlilcmaaGreatPr51
set_option maxRecDepth 100000
set_option maxHeartbeats 0
namespace Go.Proofs.YtmeebofhlilcmaaGreat
open Go.RowKit Go.WideShapes Go.ChangeShapes Go.Deep Go.Joins
set_option linter.unusedVariables false
set_option linter.unusedSimpArgs false
section
variable {H:Type} {enc:TypeId × Value→H} {w:World} {base b0:Nat} {held:Bool} {r:Reach} {v:Value} {d:DataW H} {ps:List MemPlace}
theorem args_setup (hval:Value.okWide Tryz.prog w r b0 83 v)(hd:DataW.Trod enc Tryz.prog w base (fun _=>true) held 83 v d ps) :
 ∃ s r c,v=.agg #[I s,I r,I c]:=by
 obtain⟨vs,n,rfl,hlen,hf⟩:=nh Tryz.underlying83 bE bE hval hd
 match vs,hlen with
 | [v0,v1,v2],_=>
   obtain⟨u0,y0,e0,t0⟩:=hf 0 _ rfl;obtain⟨u1,y1,e1,t1⟩:=hf 1 _ rfl;obtain⟨u2,y2,e2,t2⟩:=hf 2 _ rfl;injection e0 with e0;injection e1 with e1;injection e2 with e2;subst e0 e1 e2;obtain⟨z0,hz0,_,hw0⟩:=DataW.trod_int Tryz.underlying3 t0;obtain⟨z1,hz1,_,hw1⟩:=DataW.trod_int Tryz.underlying3 t1;obtain⟨z2,hz2,_,hw2⟩:=DataW.trod_int Tryz.underlying3 t2;have hz0:v0=I z0:=by simpa using hz0
   have hz1:v1=I z1:=by simpa using hz1
   have hz2:v2=I z2:=by simpa using hz2
   subst hz0 hz1 hz2;exact⟨z0,z1,z2,rfl⟩
end
section
variable {w:World} {x:PA} {n m:Nat} {s r pc:Int}
def PnNo (w:World)(x:PA)(s r pc z:Int):Prop :=
 Ca 45 #[.agg #[.slice x.A1 x.n1 x.c1,.slice x.A2 x.n2 x.c2,I du.regs,.slice x.A3 x.n3 x.c3,.slice x.A4 x.n4 x.c4],.agg #[I s,I r,I pc]] w fun e w'=>e=.returned (.tuple #[.pointer none,I z])/\Below w.heap.size w w'
theorem pn_size (h:s<1\/4096<s\/r<0\/s<r):PnNo w x s r pc 2:=by
 refine (jy (N1:=fun P z w1=>z=2/\Below w.heap.size w w1) (N2:=fun _ _ _=>False) (N3:=fun _ _ _ _=>False) ?_ ?_ ?_ ?_).mono ?_
 · intro W hb;exact (new_no s r W h).mono fun e w1 ⟨he,hw⟩=>by
    subst hw;exact⟨fun _ _ _ _ h9=>h9,_,_,he,rfl,hb⟩
 · rintro P w1 ⟨h9,_⟩;exact absurd h9 aU
 · rintro d W ⟨h9,_⟩;exact absurd h9 aU
 · exact fun _ _ h9=>h9.elim
 · rintro e w' (⟨z,hz,rfl,⟨P,rfl,hb⟩ | ⟨_,h9⟩ | ⟨_,_,h9⟩⟩ | ⟨_,_,_,h9,_⟩)
   · exact⟨rfl,hb⟩
   · exact h9.elim
   · exact h9.elim
   · exact h9.elim
theorem pn_plan (hx:∀ W,Below w.heap.size w W->dG W w.heap.size x du)(h0:1<=n)(h1:n<13)(r0:0<=r)(r1:r<=(n:Int)):PnNo w x (n:Nat) r pc 2:=by
 refine (jy (N1:=fun P z w1=>∃ q:bB,P=some ⟨q.d,0,none⟩/\z=0/\bc w1 w.heap.size q (newV n r)/\Below w.heap.size w w1) (N2:=fun _ z w1=>z=2/\Below w.heap.size w w1) (N3:=fun _ _ _ _=>False) ?_ ?_ ?_ ?_).mono ?_
 · intro W hb;exact (new_ok n r W h0 aS r0 r1).mono fun e w1 ⟨q,he,hd,hb2⟩=>⟨db.of_below hb2,_,_,he,q,rfl,rfl,(show bc w1 W.heap.size q (newV n r) from ⟨_,_,hd⟩).rebase hb.size,hb.trans (hb2.mono hb.size)⟩
 · rintro P w1 ⟨q,rfl,_⟩;exact⟨q.d,rfl⟩
 · rintro d W ⟨q,hP,_,hd,hb⟩;obtain rfl:d=q.d:=by simpa using hP
   exact (format_plan hd (hx W hb).rd ky kx h1).mono fun e w1 ⟨he,hb2⟩=>⟨db.of_below hb2,_,he,rfl,hb.trans (hb2.mono hb.size)⟩
 · rintro d W ⟨h9,_⟩;exact absurd h9 aU
 · rintro e w' (⟨z,hz,rfl,⟨P,q,_,h9,_⟩ | ⟨_,rfl,hb⟩ | ⟨_,_,h9⟩⟩ | ⟨_,_,_,h9,_⟩)
   · exact absurd h9 hz
   · exact⟨rfl,hb⟩
   · exact h9.elim
   · exact h9.elim
theorem pn_full (hx:∀ W,Below w.heap.size w W->dG W w.heap.size x du)(h0:13<=n)(h1:n<=60):PnNo w x (n:Nat) 0 pc 52:=by
 have V:Env du ((n - 11) / 2) 1 n:=lp h0 aS rfl aS aS;have hb9:=V.big;have hf:=(ox (n:=n) (M:=11+(n - 11) / 2+(n - 11) / 2) (H:=ca du) (r:=0) aS aS hb9 V.g.h63).1 rfl;refine (jy (N1:=fun P z w1=>∃ q:bB,P=some ⟨q.d,0,none⟩/\z=0/\bc w1 w.heap.size q (newV n 0)/\Below w.heap.size w w1) (N2:=fun _ z w1=>z=52/\Below w.heap.size w w1) (N3:=fun _ _ _ _=>False) ?_ ?_ ?_ ?_).mono ?_
 · intro W hb;exact (new_ok n 0 W aS aS aS aS).mono fun e w1 ⟨q,he,hd,hb2⟩=>⟨db.of_below hb2,_,_,he,q,rfl,rfl,(show bc w1 W.heap.size q (newV n 0) from ⟨_,_,hd⟩).rebase hb.size,hb.trans (hb2.mono hb.size)⟩
 · rintro P w1 ⟨q,rfl,_⟩;exact⟨q.d,rfl⟩
 · rintro d W ⟨q,hP,_,hd,hb⟩;obtain rfl:d=q.d:=by simpa using hP
   refine (ms hd hb.size (hx W hb).rd ky kx h0 V.lg hb9 (by show 0<600000;omega)).mono fun e w1 ⟨he,_,hs⟩=>⟨db.of hd hs.dToE,_,he,hf.1,hb.trans hs.bel⟩
 · rintro d W ⟨h9,_⟩;exact absurd h9 aU
 · rintro e w' (⟨z,hz,rfl,⟨P,q,_,h9,_⟩ | ⟨_,rfl,hb⟩ | ⟨_,_,h9⟩⟩ | ⟨_,_,_,h9,_⟩)
   · exact absurd h9 hz
   · exact⟨rfl,hb⟩
   · exact h9.elim
   · exact h9.elim
theorem pn_pace (hx:∀ W,Below w.heap.size w W->dG W w.heap.size x du)(h0:13<=n)(h1:n<=60)(r0:0<r)(r1:r<=(n:Int))(hp:pc<1\/1024<pc):PnNo w x (n:Nat) r pc 2:=by
 have V:Env du ((n - 11) / 2) 1 n:=lp h0 aS rfl aS aS;have hb9:=V.big;have hf:=(ox (n:=n) (M:=11+(n - 11) / 2+(n - 11) / 2) (H:=ca du) (r:=r) aS aS hb9 V.g.h63).2 aS;refine (jy (N1:=fun P z w1=>∃ q:bB,P=some ⟨q.d,0,none⟩/\z=0/\bc w1 w.heap.size q (newV n r)/\Below w.heap.size w w1) (N2:=fun d z w1=>z=0/\∃ (q:bB) (D:aW),q.d=d/\bc w1 w.heap.size q D/\D.many=n/\Below w.heap.size w w1) (N3:=fun _ _ z w1=>z=2/\Below w.heap.size w w1) ?_ ?_ ?_ ?_).mono ?_
 · intro W hb;exact (new_ok n r W aS aS aS r1).mono fun e w1 ⟨q,he,hd,hb2⟩=>⟨db.of_below hb2,_,_,he,q,rfl,rfl,(show bc w1 W.heap.size q (newV n r) from ⟨_,_,hd⟩).rebase hb.size,hb.trans (hb2.mono hb.size)⟩
 · rintro P w1 ⟨q,rfl,_⟩;exact⟨q.d,rfl⟩
 · rintro d W ⟨q,hP,_,hd,hb⟩;obtain rfl:d=q.d:=by simpa using hP
   refine (ms hd hb.size (hx W hb).rd ky kx h0 V.lg hb9 (by show 0<600000;omega)).mono fun e w1 ⟨he,hd2,hs⟩=>⟨db.of hd hs.dToE,_,he,hf.1,q,_,rfl,hd2,hf.2.2.1,hb.trans hs.bel⟩
 · rintro d W ⟨_,q,D,rfl,hd,hm,hb⟩;exact (open_pace hd (hx W hb).rd ky kx aS (by rw[hm];exact V.lg) hp).mono fun e w1 ⟨he,hb2⟩=>⟨db.of_below hb2,_,_,he,rfl,hb.trans (hb2.mono hb.size)⟩
 · rintro e w' (⟨z,hz,rfl,⟨P,q,_,h9,_⟩ | ⟨_,h9,_⟩ | ⟨_,_,rfl,hb⟩⟩ | ⟨_,_,_,⟨h9,_⟩,_⟩)
   · exact absurd h9 hz
   · exact absurd h9 hz
   · exact⟨rfl,hb⟩
   · exact absurd h9 aU
theorem pn_ok (hx:∀ W,Below w.heap.size w W->dG W w.heap.size x du)(h0:13<=n)(h1:n<=60)(r0:0<r)(r1:r<=(n:Int))(p1:1<=pc)(p2:pc<=1024) :
 Ca 45 #[.agg #[.slice x.A1 x.n1 x.c1,.slice x.A2 x.n2 x.c2,I du.regs,.slice x.A3 x.n3 x.c3,.slice x.A4 x.n4 x.c4],.agg #[I (n:Nat),I r,I pc]] w fun e w'=>
  ∃ (gy:Nat) (q:bB) (g:Nat) (D:aW),e=.returned (.tuple #[.pointer (some ⟨gy,0,none⟩),I 0])/\Blk w' gy 209 (plC q.d x du pc (some ⟨g,0,none⟩))/\bc w' w.heap.size q D/\D.many=n/\Below w.heap.size w w':=by
 have V:Env du ((n - 11) / 2) pc n:=lp h0 aS rfl p1 p2;have hb9:=V.big;have hf:=(ox (n:=n) (M:=11+(n - 11) / 2+(n - 11) / 2) (H:=ca du) (r:=r) aS aS hb9 V.g.h63).2 aS;have hfo:=fun {W:World} {base:Nat} {q:bB} (hd:bc W base q (newV n r)) (hs:base<=W.heap.size) (hp:dd W x du)=>ms hd hs hp ky kx h0 V.lg hb9 (by show 0<600000;omega)
 generalize fd (11+(n - 11) / 2+(n - 11) / 2) (ca du:Nat) (newV n r)=F at *;obtain⟨f1,f2,f3,f4,f5,f6⟩:=hf;refine (jy (N1:=fun P z w1=>∃ q:bB,P=some ⟨q.d,0,none⟩/\z=0/\bc w1 w.heap.size q (newV n r)/\Below w.heap.size w w1) (N2:=fun d z w1=>z=0/\∃ q:bB,q.d=d/\bc w1 w.heap.size q F.1/\Below w.heap.size w w1) (N3:=fun d P z w1=>z=0/\∃ (q:bB) (g:Nat) (D:aW),q.d=d/\P=some ⟨g,0,none⟩/\bc w1 w.heap.size q D/\D.many=n/\Below w.heap.size w w1) ?_ ?_ ?_ ?_).mono ?_
 · intro W hb;exact (new_ok n r W aS aS aS r1).mono fun e w1 ⟨q,he,hd,hb2⟩=>⟨db.of_below hb2,_,_,he,q,rfl,rfl,(show bc w1 W.heap.size q (newV n r) from ⟨_,_,hd⟩).rebase hb.size,hb.trans (hb2.mono hb.size)⟩
 · rintro P w1 ⟨q,rfl,_⟩;exact⟨q.d,rfl⟩
 · rintro d W ⟨q,hP,_,hd,hb⟩;obtain rfl:d=q.d:=by simpa using hP
   refine (hfo hd hb.size (hx W hb).rd).mono fun e w1 ⟨he,hd2,hs⟩=>⟨db.of hd hs.dToE,_,he,f1,q,rfl,hd2,hb.trans hs.bel⟩
 · rintro d W ⟨_,q,rfl,hd,hb⟩;obtain⟨o1,o2⟩:=open_blank V.g f2 aS f5 (fun k k1 k2=>f6 k k1 aS);refine (pR hd hb.size (hx W hb) V.w aS (by rw[f3];exact V.lg) V.g.m1 aS p1 p2 (by rw[f4];simp)).mono fun e w1 ⟨g,⟨hd2,hs,_⟩,he⟩=>?_
   rw[o1,if_pos rfl] at he;exact⟨db.of hd hs,_,_,he,rfl,q,g,_,rfl,rfl,hd2,o2.trans f3,hb.trans hs.bel⟩
 · rintro e w' (⟨z,hz,rfl,⟨P,q,_,h9,_⟩ | ⟨_,h9,_⟩ | ⟨_,_,h9,_⟩⟩ | ⟨d,P,W,⟨_,q,g,D,rfl,rfl,hd,hm,hb⟩,rfl,rfl⟩)
   · exact absurd h9 hz
   · exact absurd h9 hz
   · exact absurd h9 hz
   · have hb2:Below W.heap.size W (W.alloc (.cells (plC q.d x du pc (some ⟨g,0,none⟩)).toArray 209)):=(Below.refl _ _).alloc aX _;exact⟨W.heap.size,q,g,D,rfl,Blk.top _ rfl rfl,hd.below hb2,hm,hb.trans (hb2.mono hb.size)⟩
end
end Go.Proofs.YtmeebofhlilcmaaGreat
namespace Go.Proofs.YtmeebofhlilcmaaGreat.playWrong
open Go.ChangeShapes Go.WideShapes Go.ChangeAt Go.RowKit Go.Deep Go.Joins
set_option linter.unusedVariables false
set_option linter.unusedSimpArgs false
theorem lq (s r pc z:Int)(w:World)(hN:∀ (W:World) (x:PA),(∀ W',Below W.heap.size W W'->dG W' W.heap.size x du)->PnNo W x s r pc z)
 (hq:(decide (s > 60)=false/\decide (s<13)=true/\z=2)\/(decide (s > 60)=true/\decide (s<=4096)=false/\decide (s<13)=false/\decide (s > 4096)=true/\z=2) \/
  (decide (s > 60)=false/\decide (s<13)=false/\decide (s > 4096)=false/\decide (r<0)=true/\z=2)\/(decide (s > 60)=false/\decide (s<13)=false/\decide (s > 4096)=false/\decide (r<0)=false/\decide (r > s)=true/\z=2) \/
  (decide (s > 60)=false/\decide (s<13)=false/\decide (s > 4096)=false/\decide (r<0)=false/\decide (r > s)=false/\(r == 0)=true/\z=52) \/
  (decide (s > 60)=false/\decide (s<13)=false/\decide (s > 4096)=false/\decide (r<0)=false/\decide (r > s)=false/\(r == 0)=false/\decide (pc<1)=true/\z=2) \/
  (decide (s > 60)=false/\decide (s<13)=false/\decide (s > 4096)=false/\decide (r<0)=false/\decide (r > s)=false/\(r == 0)=false/\decide (pc<1)=false/\decide (pc > 1024)=true/\z=2)) :
 Ca 8 #[.agg #[I s,I r,I pc]] w fun e w'=>e=.returned (.bool true)/\Below w.heap.size w w':=by
 have cD:=fun (W:World)=>om W
 have cP:=aT hN;clear hN;unfold PnNo at cP;have F0:∀ W,W=w.alloc (.cells #[I s,I r,I pc] 83)->Below w.heap.size w W/\Blk W w.heap.size 83 [I s,I r,I pc]:=by
  rintro W rfl;exact⟨ba,bH⟩
 generalize du=P at *;rcases hq with ⟨e1,d1,rfl⟩ | ⟨e1,e2,d1,d2,rfl⟩ | ⟨e1,d1,d2,d3,rfl⟩ | ⟨e1,d1,d2,d3,d4,rfl⟩ | ⟨e1,d1,d2,d3,d4,d5,rfl⟩ | ⟨e1,d1,d2,d3,d4,d5,d6,rfl⟩ | ⟨e1,d1,d2,d3,d4,d5,d6,d7,rfl⟩
 all_goals
  go_enter Tryz.func8,Tryz.ntmps8;go_upto_region 1 with fail;refine dv (fun W=>Below w.heap.size w W/\Blk W w.heap.size 83 [I s,I r,I pc]) (F0 _ rfl) ?_;clear F0;rintro w1 ⟨hb1,he⟩;have B1:=aT hb1;have E1:=aT he;have z0:=he.c0;clear hb1 he;go_upto_region 5 with (first | ((go_at_call 44;(with_reducible refine (awake40 _).mono ?_);rintro e w2 ⟨rfl,b2⟩);have B2:=aT (B1.out.trans (b2.mono B1.out.size));have E2:=aT (E1.out.below b2 E1.out.lt);clear b2 z0;have z0:=E2.out.c0) | fail);have z1:=E2.out.c1;have z2:=E2.out.c2;have b29:Below w2.heap.size w2 w2.drew:=Below.drew (Below.refl _ _);go_region_held3 (fun w'=>w'.cell? ⟨w.heap.size,0,none⟩=some (I s)/\w'.cell? ⟨w.heap.size,1,none⟩=some (I r)/\w'.cell? ⟨w.heap.size,2,none⟩=some (I pc)) (first | go_keep | (refine⟨?_,?_,?_⟩ <;> assumption)) (first | ((go_at_call 26;(with_reducible refine (cD _).mono ?_);rintro e w3 ⟨x3,rfl,px3,b3⟩);have B3:=aT (B2.out.trans ((b29.trans (b3.mono b29.size)).mono B2.out.size));have E3:=aT (E2.out.below (b29.trans (b3.mono b29.size)) E2.out.lt);have P3:=aT px3;clear px3 b3 z0 z1 z2;have z0:=E3.out.c0;have z1:=E3.out.c1;have z2:=E3.out.c2) | ((go_at_call 45;(with_reducible refine (cP.out _ x3 (fun W' hb=>(P3.out _).below hb)).mono ?_);rintro e w4 ⟨rfl,b4⟩);have B4:=aT (B3.out.trans (b4.mono B3.out.size));have E4:=aT (E3.out.below b4 E3.out.lt);clear b4 z0 z1 z2;have z0:=E4.out.c0;have z1:=E4.out.c1;have z2:=E4.out.c2) | fail);go_wp2_with fail;go_ret;exact⟨rfl,B4.out⟩
theorem walk_big (s r pc:Int)(w:World)(e1:decide (s > 60)=true)(e2:decide (s<=4096)=true):Ca 8 #[.agg #[I s,I r,I pc]] w fun e w'=>e=.returned (.bool true)/\Below w.heap.size w w':=by
 have F0:∀ W,W=w.alloc (.cells #[I s,I r,I pc] 83)->Below w.heap.size w W/\Blk W w.heap.size 83 [I s,I r,I pc]:=by
  rintro W rfl;exact⟨ba,bH⟩
 go_enter Tryz.func8,Tryz.ntmps8;go_upto_region 1 with fail;refine dv (fun W=>Below w.heap.size w W/\Blk W w.heap.size 83 [I s,I r,I pc]) (F0 _ rfl) ?_;clear F0;rintro w1 ⟨hb1,he⟩;have B1:=aT hb1;have E1:=aT he;have z0:=he.c0;clear hb1 he;go_wp2_with (first | ((go_at_call 44;(with_reducible refine (awake40 _).mono ?_);rintro e w2 ⟨rfl,b2⟩);have B2:=aT (B1.out.trans (b2.mono B1.out.size));have E2:=aT (E1.out.below b2 E1.out.lt);clear b2 z0;have z0:=E2.out.c0) | fail);go_ret;exact⟨rfl,B2.out⟩
theorem walk_ok (n:Nat)(r pc:Int)(w:World)(h0:13<=n)(h1:n<=60)(r0:0<r)(r1:r<=(n:Int))(p1:1<=pc)(p2:pc<=1024):Ca 8 #[.agg #[I (n:Nat),I r,I pc]] w fun e w'=>e=.returned (.bool true)/\Below w.heap.size w w':=by
 have e1:decide ((n:Int) > 60)=false:=aj aS;have d1:decide ((n:Int)<13)=false:=aj aS;have d2:decide ((n:Int) > 4096)=false:=aj aS;have d3:decide (r<0)=false:=aj aS;have d4:decide (r > (n:Int))=false:=aj aS;have d5:(r == 0)=false:=by rw[af];omega
 have d6:decide (pc<1)=false:=aj aS;have d7:decide (pc > 1024)=false:=aj aS;have cD:=fun (W:World)=>om W
 have cP:=fun {W:World} {x:PA} (hx:∀ W',Below W.heap.size W W'->dG W' W.heap.size x du)=>pn_ok hx h0 h1 r0 r1 p1 p2
 have F0:∀ W,W=w.alloc (.cells #[I (n:Nat),I r,I pc] 83)->Below w.heap.size w W/\Blk W w.heap.size 83 [I (n:Nat),I r,I pc]:=by
  rintro W rfl;exact⟨ba,bH⟩
 generalize du=P at *;clear h0 h1 r0 r1 p1 p2;go_enter Tryz.func8,Tryz.ntmps8;go_upto_region 1 with fail;refine dv (fun W=>Below w.heap.size w W/\Blk W w.heap.size 83 [I (n:Nat),I r,I pc]) (F0 _ rfl) ?_;clear F0;rintro w1 ⟨hb1,he⟩;have B1:=aT hb1;have E1:=aT he;have z0:=he.c0;clear hb1 he;go_upto_region 5 with (first | ((go_at_call 44;(with_reducible refine (awake40 _).mono ?_);rintro e w2 ⟨rfl,b2⟩);have B2:=aT (B1.out.trans (b2.mono B1.out.size));have E2:=aT (E1.out.below b2 E1.out.lt);clear b2 z0;have z0:=E2.out.c0) | fail);have z1:=E2.out.c1;have z2:=E2.out.c2;have b29:Below w2.heap.size w2 w2.drew:=Below.drew (Below.refl _ _);go_region_held3 (fun w'=>w'.cell? ⟨w.heap.size,0,none⟩=some (I (n:Nat))/\w'.cell? ⟨w.heap.size,1,none⟩=some (I r)/\w'.cell? ⟨w.heap.size,2,none⟩=some (I pc)) (first | go_keep | (refine⟨?_,?_,?_⟩ <;> assumption)) (first | ((go_at_call 26;(with_reducible refine (cD _).mono ?_);rintro e w3 ⟨x3,rfl,px3,b3⟩);have B3:=aT (B2.out.trans ((b29.trans (b3.mono b29.size)).mono B2.out.size));have E3:=aT (E2.out.below (b29.trans (b3.mono b29.size)) E2.out.lt);have P3:=aT px3;clear px3 b3 z0 z1 z2;have z0:=E3.out.c0;have z1:=E3.out.c1;have z2:=E3.out.c2) | ((go_at_call 45;(with_reducible refine (cP (fun W' hb=>(P3.out _).below hb)).mono ?_);rintro e w4 ⟨gy,q,g,D,rfl,y4,d4',m4,b4⟩);have B4:=aT (B3.out.trans (b4.mono B3.out.size));have E4:=aT (E3.out.below b4 E3.out.lt);have Y4:=aT y4;have D4:=aT d4';have M4:=aT m4;clear b4 y4 d4' m4 z0 z1 z2;have z0:=E4.out.c0;have z1:=E4.out.c1;have z2:=E4.out.c2) | fail);go_upto_region 12 with fail;have cE:=fun k=>lI (Y4.out.drewN k)
 have cK:=fun k=>pldisk_any (Y4.out.drewN k)
 have cS:=fun k=>(show Ca 48 #[.pointer (some ⟨q.d,0,none⟩)] (w4.drewN k) fun e w'=>e=.returned (I (n:Nat))/\w4.drewN k=w' from by
  obtain⟨A9,c9,h9⟩:=D4.out.below (below_drewN (Below.refl _ _) k);have:=nu h9
  rwa [M4.out] at this)
 go_big_quiet (first | (go_at_call 46;exact Calls.quiet_of_same ((cE _).mono fun e w' ⟨h1,h2⟩=>⟨h1,h2.symm⟩)) | (go_at_call 47;exact Calls.quiet_of_same ((cK _).mono fun e w' ⟨h1,h2⟩=>⟨h1,h2.symm⟩)) | (go_at_call 48;exact Calls.quiet_of_same ((cS _).mono fun e w' ⟨h1,h2⟩=>⟨h1,h2.symm⟩)));go_wp2_with fail;go_ret;exact⟨rfl,B4.out.trans ((below_drewN (Below.refl w4.heap.size w4) _).mono B4.out.size)⟩
theorem walk (w:World)(v:Value)(hv:∃ s r c,v=.agg #[I s,I r,I c]):Ca 8 #[v] w fun e w'=>e=.returned (.bool true)/\Below w.heap.size w w':=by
 obtain⟨s,r,pc,rfl⟩:=hv
 by_cases h1:60<s/\s<=4096
 · exact walk_big s r pc w (am h1.1) (am h1.2)
 by_cases h2:s<1\/4096<s\/r<0\/s<r
 · refine lq s r pc 2 w (fun W x _=>pn_size h2) ?_
   by_cases q1:60<s
   · exact .inr (.inl ⟨am q1,aj aS,aj aS,am aS,rfl⟩)
   by_cases q2:s<13
   · exact .inl ⟨aj q1,am q2,rfl⟩
   by_cases q3:r<0
   · exact .inr (.inr (.inl ⟨aj q1,aj q2,aj aS,am q3,rfl⟩))
   · exact .inr (.inr (.inr (.inl ⟨aj q1,aj q2,aj aS,aj q3,am aS,rfl⟩)))
 obtain⟨n,rfl⟩:∃ n:Nat,s=(n:Nat):=⟨s.toNat,aS⟩
 by_cases h3:n<13
 · exact lq _ r pc 2 w (fun W x hx=>pn_plan hx aS h3 aS aS) (.inl ⟨aj aS,am aS,rfl⟩)
 by_cases h4:r=0
 · subst h4;exact lq _ 0 pc 52 w (fun W x hx=>pn_full hx aS aS) (.inr (.inr (.inr (.inr (.inl ⟨aj aS,aj aS,aj aS,aj aS,aj aS,rfl,rfl⟩)))))
 have h5:(r == 0)=false:=by rw[af];exact h4
 by_cases h6:pc<1
 · exact lq _ r pc 2 w (fun W x hx=>pn_pace hx aS aS aS aS (.inl h6)) (.inr (.inr (.inr (.inr (.inr (.inl ⟨aj aS,aj aS,aj aS,aj aS,aj aS,h5,am h6,rfl⟩))))))
 by_cases h7:1024<pc
 · exact lq _ r pc 2 w (fun W x hx=>pn_pace hx aS aS aS aS (.inr h7)) (.inr (.inr (.inr (.inr (.inr (.inr ⟨aj aS,aj aS,aj aS,aj aS,aj aS,h5,aj h6,am h7,rfl⟩))))))
 · exact walk_ok n r pc w aS aS aS aS aS aS
theorem own:ownKnob Tryz.prog.godebug=none:=by kernel_rfl
theorem lu:laidOutB Tryz.prog=true:=by kernel_rfl
theorem lifted (os:Os)(started:os.Started)(H:Type)(enc:TypeId × Value->H) :
 ReturnsInHanded {} Tryz.checked os 8 .any (Rows.playWrongSpec.pre6 enc Tryz.prog Tryz.f8 Rows.playWrongRow.domain false) (Rows.playWrongSpec.post enc Tryz.prog Tryz.f8 false true false false):=by
 refine returnsInHanded_of_change (C:=Tryz.checked) own started bE Tryz.func8
  (ChangeSpec.witness6 (enc:=enc) (C:=Tryz.checked) false ⟨#[],#[.agg #[I 0,I 0,I 0]],[]⟩ 8 bE bE bE bE) ?_
 intro W base args ds gs before hval0 hW hcnd _;have hval:∀ (j:Nat) t v,Tryz.f8.params[j]?=some t->args[j]?=some v->Value.okWide Tryz.prog W .any base t v:=hval0;have hW':=hW;obtain⟨p,q,hA0,hV,rfl,hfz,hnd⟩:=hW;have hA:DataW.TrodAll enc Tryz.prog W 0 (fun _=>true) true Tryz.f8.params.toList args.toList ds p:=hA0;rw[Tryz.params8] at hA hval;obtain⟨v0,qd,d0,ds0,p0,q0,hargs,rfl,rfl,h0,rr0⟩:=trodAll_cons hA;obtain⟨rfl,rfl,rfl⟩:=trodAll_nil rr0;obtain rfl:args=#[v0]:=by cases args;simp_all
 obtain⟨rfl,rfl⟩:=trodVars_none hV;have k0:=h0;have lt0:∀ x ∈ p0,x.block<W.heap.size:=by obtain⟨m,hm⟩:=k0;exact DataW.trod_lt m _ _ _ hm
 have x0:=args_setup (hval 0 83 v0 rfl rfl) h0;clear hA0 hval0;refine (walk W v0 x0).mono fun e W' ⟨he,bel⟩=>?_
 subst he;exact⟨_,rfl,_,_,_,[],_,[],hW',trodAll_mk1 (shut_bool Tryz.underlying4 _),(trodAll_cons_mk (Below.trod lu bE (of_decide_eq_true bE) k0 bel lt0) trodAll_mk0),rfl,bel.frame _,fun h=>by cases h⟩
theorem oA:(Rows.playWrongRow.inPlace == Tryz.prog.inPlace 8)=true:=by kernel_rfl
theorem oB:(Rows.playWrongRow.unfollowed == Tryz.prog.unfollowed 8)=true:=by kernel_rfl
theorem oC:(Rows.playWrongRow.recurses == Tryz.prog.recurses 8)=true:=by kernel_rfl
theorem cNamed:(Rows.playWrongRow.named == Tryz.prog.varsNamed 8)=true:=by kernel_rfl
theorem closed:joinedFacts Tryz.prog 8 Tryz.f8 Rows.playWrongSpec Rows.playWrongRow=true:=by
 unfold joinedFacts;rw[oA,oB,oC,cNamed]
 kernel_rfl
theorem over:Rows.playWrongRow.holds Tryz.pinned (OpenSpec.ofChange Rows.playWrongSpec) :=
 OpenClaim.holds_of_wide 8 Tryz.f8 rfl rfl rfl rfl rfl rfl rfl ⟨rfl,rfl,rfl,rfl,rfl⟩ rfl rfl rfl rfl rfl bE Tryz.func8 closed
  (of_decide_eq_true bE) oP
  (fun os started H enc _=>lifted os started H enc)
theorem proved:Rows.PlayWrongSaid:=over
end Go.Proofs.YtmeebofhlilcmaaGreat.playWrong
