/- Parts. -/
import Derived.Test.YtmeebofhlilcmaaGreatPr25
set_option linter.unusedVariables false
set_option linter.unusedSimpArgs false
set_option maxRecDepth 100000
set_option maxHeartbeats 0
namespace Go.Proofs.YtmeebofhlilcmaaGreat
variable {w w':World} {base nIn gi:Nat}
open Go.RowKit
theorem wipeV_few (D:aX)(f m a k:Nat):(cQ D f m a k).1.many=D.many/\(cQ D f m a k).1.waits.length<=D.waits.length+k:=by
 obtain⟨o,eo⟩:=gO D k;obtain⟨h1,h2⟩:=pT f m (ee D.now f a k) (rdK D k);have h3:=qb D.now f a k;have hm:(rdK D k).many=D.many:=by rw[eo]
 have hw:(rdK D k).waits=D.waits:=by rw[eo]
 rw[hw] at h2;obtain⟨f1,f2⟩:=oB (dL (rdK D k) f m (ee D.now f a k)).1;unfold cQ
 split
 · exact⟨rfl,Nat.le_add_right _ _⟩
 unfold wipeW
 split
 · exact⟨h1.trans hm,aS⟩
 split
 · exact⟨h1.trans hm,by simp only;omega⟩
 · exact⟨f1.trans (h1.trans hm),aS⟩
structure fE (w0 W:World)(base:Nat)(q:bE)(gb gh gf ga M:Nat)(hash:Int)(D:aX):Prop where
 d:be W base q D
 a:bD W ga q.d 0 M
 b8:Blk W gb 188 [.pointer (some ⟨ga,0,none⟩)]
 b6:Blk W gh 3 [I hash]
 bf:Blk W gf 61 (fmtL (.pointer (some ⟨gb,0,none⟩)) (.pointer (some ⟨gh,0,none⟩)) (.pointer (some ⟨ga,0,none⟩)))
 s:Step mutD base q w0 W
 hs:base<=W.heap.size
section
variable {w0 w W W':World} {base gb gh gf ga M m:Nat} {q:bE} {D D':aX} {hash:Int} {p:PV} {x:PA}
theorem fE.step (h:fE w0 W base q gb gh gf ga M hash D)(hd:be W' base q D')(t:Step mutD base q W W'):fE w0 W' base q gb gh gf ga M hash D' :=
 ⟨hd,h.d.area h.a t.tch aU,h.d.blk h.b8 t.tch aU,h.d.blk h.b6 t.tch aU,h.d.blk h.bf t.tch aU,h.s.trans t,ae h.hs t.size⟩
theorem fmt1_any (h:fE w0 W base q gb gh gf ga M hash D)(hM:1<=M)(hMm:M<=D.many)(hwt:D.waits.length<700000) :
 Ca 110 #[.pointer (some ⟨gb,0,none⟩)] W fun e w'=>e=.returned (I (cQ D 0 M 0 1).2)/\fE w0 w' base q gb gh gf ga M hash (cQ D 0 M 0 1).1:=by
 have c0:=h.b8.c0;have hw:=(show Ca 111 #[.pointer (some ⟨ga,0,none⟩),I 0,I 1] W _ from wipe_any h.a h.d h.hs aS 0 1 aS aS hwt);have H:=aT h;generalize cQ D 0 M 0 1=F at *;clear h;go_enter Tryz.func110,Tryz.ntmps110;go_wp2_with (first | ((go_at_call 111;(with_reducible refine (hw).mono ?_);rintro e w2 ⟨rfl,d2,s2⟩);have H2:=aT (H.out.step d2 s2);clear d2) | fail);go_ret;exact⟨rfl,H2.out⟩
theorem fmt2_any (h:fE w0 W base q gb gh gf ga M hash D)(hM:2<=M)(hMm:M<=D.many)(hwt:D.waits.length<700000) :
 Ca 112 #[.pointer (some ⟨gb,0,none⟩)] W fun e w'=>e=.returned (I (cQ D 0 M 1 (M - 1)).2)/\fE w0 w' base q gb gh gf ga M hash (cQ D 0 M 1 (M - 1)).1:=by
 have c0:=h.b8.c0;have hb:Below W.heap.size W W.drew:=Below.drew (Below.refl _ _);have hD:=h.step (h.d.below hb) (Step.of_below hb h.hs);have hw:Ca 111 #[.pointer (some ⟨ga,0,none⟩),I 1,I (M:Nat)] W.drew (fun e w'=>e=.returned (I (cQ D 0 M 1 (M - 1)).2)/\be w' base q (cQ D 0 M 1 (M - 1)).1/\Step mutD base q W.drew w'):=by
  have:=wipe_any hD.a hD.d hD.hs aS 1 (M - 1) aS aS hwt;rw[show 1+(M - 1)=M by omega] at this;exact this
 have hmn:=iE (w:=W.drew) hD.a;have H:=aT hD;generalize cQ D 0 M 1 (M - 1)=F at *;clear h hD;go_enter Tryz.func112,Tryz.ntmps112;go_upto_region 1 with fail;go_region_held3 (fun w'=>w'.cell? ⟨gb,0,none⟩=some (.pointer (some ⟨ga,0,none⟩))) (first | go_keep | assumption) (first | (go_at_call 113;(with_reducible refine (hmn).mono ?_);rintro e w1 ⟨rfl,rfl⟩) | ((go_at_call 111;(with_reducible refine (hw).mono ?_);rintro e w2 ⟨rfl,d2,s2⟩);have H2:=aT (H.out.step d2 s2);have c02:=H2.out.b8.c0;clear d2) | fail);go_wp2_with fail;go_ret;exact⟨rfl,H2.out⟩
theorem fmt3_any (h:fE w0 W base q gb gh gf ga M hash D)(hMm:M<=D.many)(hh:hash<=9223372036854775807)(hwt:D.waits.length<700000) :
 Ca 114 #[.pointer (some ⟨gb,0,none⟩),.pointer (some ⟨gh,0,none⟩)] W fun e w'=>e=.returned (I (cI D 0 M 0 1 hash []).2)/\fE w0 w' base q gb gh gf ga M hash (cI D 0 M 0 1 hash []).1:=by
 have c0:=h.b8.c0;have c6:=h.b6.c0;have hw:=s_aput h.d h.hs h.a aS 0 1 hash none 0 0 [] ⟨rfl,Row.nil _ _ _⟩ bQ hh aS;have H:=aT h;generalize cI D 0 M 0 1 hash []=F at *;clear h;go_enter Tryz.func114,Tryz.ntmps114;go_wp2_with (first | ((go_at_call 115;(with_reducible refine (hw).mono ?_);rintro e w2 ⟨rfl,d2,s2⟩);have H2:=aT (H.out.step d2 s2);clear d2) | fail);go_ret;exact⟨rfl,H2.out⟩
theorem fmt4_any (h:fE w0 W base q gb gh gf ga M hash D) :
 Ca 116 #[.pointer (some ⟨ga,0,none⟩)] W fun e w'=>e=.returned (I (bH D).2)/\fE w0 w' base q gb gh gf ga M hash (bH D).1 :=
 (j7 h.d h.hs h.a).mono fun e w' ⟨h1,h2,h3⟩=>⟨h1,h.step h2 h3⟩
theorem format_any (hd:be w base q D)(hs:base<=w.heap.size)(hp:cC w x p)(hw:eO p)(hv:dF p=true)(h13:13<=D.many)(hm:logN (D.many:Nat)=(m:Nat))(hM:11+m+m<=D.many)(hwt:D.waits.length<600000) :
 Ca 27 #[.pointer (some ⟨q.d,0,none⟩),.agg #[.slice x.A1 x.n1 x.c1,.slice x.A2 x.n2 x.c2,I p.regs,.slice x.A3 x.n3 x.c3,.slice x.A4 x.n4 x.c4]] w fun e w'=>e=.returned (I (iq (11+m+m) (cw p:Nat) D).2)/\be w' base q (iq (11+m+m) (cw p:Nat) D).1/\Step mutD base q w w':=by
 have hb0:Below w.heap.size w (w.alloc (.cells #[.slice x.A1 x.n1 x.c1,.slice x.A2 x.n2 x.c2,I p.regs,.slice x.A3 x.n3 x.c3,.slice x.A4 x.n4 x.c4] 26)):=(Below.refl _ _).alloc aW _;have hmay:=may_yes (hd.below hb0) (hp.below (b:=w.heap.size) hb0 aW) hw hv h13 hm;have hhn:((cw p:Nat):Int)<=9223372036854775807:=by unfold cw;omega
 have hd4:=hd.many0;have HD:=aT hd;generalize cw p=hh at *;have hF:iq (11+m+m) (hh:Nat) D=if (cQ D 0 (11+m+m) 0 1).2≠0 then cQ D 0 (11+m+m) 0 1
  else if (cQ (cQ D 0 (11+m+m) 0 1).1 0 (11+m+m) 1 (11+m+m - 1)).2≠0 then cQ (cQ D 0 (11+m+m) 0 1).1 0 (11+m+m) 1 (11+m+m - 1)
  else if (cI (cQ (cQ D 0 (11+m+m) 0 1).1 0 (11+m+m) 1 (11+m+m - 1)).1 0 (11+m+m) 0 1 (hh:Nat) []).2≠0 then cI (cQ (cQ D 0 (11+m+m) 0 1).1 0 (11+m+m) 1 (11+m+m - 1)).1 0 (11+m+m) 0 1 (hh:Nat) []
  else bH (cI (cQ (cQ D 0 (11+m+m) 0 1).1 0 (11+m+m) 1 (11+m+m - 1)).1 0 (11+m+m) 0 1 (hh:Nat) []).1:=rfl
 obtain⟨a1,a2⟩:=wipeV_few D 0 (11+m+m) 0 1;obtain⟨b1,b2⟩:=wipeV_few (cQ D 0 (11+m+m) 0 1).1 0 (11+m+m) 1 (11+m+m - 1);have f1:=fun (W:World) (gb gh gf ga:Nat) (h:fE w W base q gb gh gf ga (11+m+m) (hh:Nat) D)=>fmt1_any h aS hM aS
 have f2:=fun (W:World) (gb gh gf ga:Nat) (h:fE w W base q gb gh gf ga (11+m+m) (hh:Nat) (cQ D 0 (11+m+m) 0 1).1)=>fmt2_any h aS aS aS
 have f3:=fun (W:World) (gb gh gf ga:Nat) (h:fE w W base q gb gh gf ga (11+m+m) (hh:Nat) (cQ (cQ D 0 (11+m+m) 0 1).1 0 (11+m+m) 1 (11+m+m - 1)).1)=>fmt3_any h aS hhn aS
 generalize iq (11+m+m) (hh:Nat) D=FIN at *;generalize cQ D 0 (11+m+m) 0 1=F1 at *;generalize cQ F1.1 0 (11+m+m) 1 (11+m+m - 1)=F2 at *;generalize cI F2.1 0 (11+m+m) 0 1 (hh:Nat) []=F3 at *;have f4:=fun (W:World) (gb gh gf ga:Nat) (h:fE w W base q gb gh gf ga (11+m+m) (hh:Nat) F3.1)=>fmt4_any h
 generalize bH F3.1=F4 at *;have HF:=aT hF;have hcast:((11+m+m:Nat):Int)=11+(m:Int)+m:=aS;have hnw:=fun (W:World) (h:be W base q D) (hs':base<=W.heap.size)=>s_anew h hs' 0 (11+m+m) aS aS
 rw[hcast] at hnw;have hnw2:∀ (W:World),be W base q D->base<=W.heap.size->Ca 109 #[.pointer (some ⟨q.d,0,none⟩),.agg #[I 0,I (11+(m:Int)+m)]] W fun e w'=>∃ ga,e=.returned (.tuple #[.pointer (some ⟨ga,0,none⟩),I 0])/\bD w' ga q.d 0 (11+m+m)/\W.heap.size<=ga/\be w' base q D/\Step mutD base q W w':=hnw
 clear hF a1 a2 b1 b2 hd hp hcast hnw;go_enter Tryz.func27,Tryz.ntmps27;go_upto_region 7 with (first | ((go_at_call 99;(with_reducible refine (hmay).mono ?_);rintro e w2 ⟨rfl,hb2⟩);have B2:=hb0.trans (hb2.mono aZ);have hsz2:=B2.size;have BW:=(B2.alloc hsz2 (.cells #[I 0,I 1,I 1,I 5,I 6,I 5,I 11,I (m:Nat),I (11+(m:Nat)),I (m:Nat)] 122)).alloc cR (.cells #[I (hh:Nat)] 3);have DW:=HD.out.below BW;have XW:Blk ((w2.alloc (.cells #[I 0,I 1,I 1,I 5,I 6,I 5,I 11,I (m:Nat),I (11+(m:Nat)),I (m:Nat)] 122)).alloc (.cells #[I (hh:Nat)] 3)) (w2.heap.size+1) 3 [I (hh:Nat)]:=Blk.top _ aZ rfl) | ((go_at_call 109;(with_reducible refine (hnw2 _ DW cR).mono ?_);rintro e w3 ⟨ga,rfl,a3,gl3,d3,s3⟩);have X3:=DW.blk XW s3.tch aU;have sz3:=s3.size;simp at sz3;have S3:=(Step.of_below (M:=mutD) (p:=q) BW hs).trans s3) | fail);have A4:=aT (show fE w ((w3.alloc (.cells #[.pointer (some ⟨ga,0,none⟩)] 188)).alloc (.cells (fmtL (.pointer (some ⟨w3.heap.size,0,none⟩)) (.pointer (some ⟨w2.heap.size+1,0,none⟩)) (.pointer (some ⟨ga,0,none⟩))).toArray 61)) base q w3.heap.size (w2.heap.size+1) (w3.heap.size+1) ga (11+m+m) (hh:Nat) D from
  ⟨(d3.below ((Below.refl _ _).alloc aW _)).below ((Below.refl _ _).alloc aW _),Blk.alloc (Blk.alloc a3 _) _,(Blk.top _ rfl rfl).alloc _,(X3.alloc _).alloc _,Blk.top _ aZ rfl,S3.trans (Step.of_below (((Below.refl _ _).alloc aW _).alloc aZ _) aS),by simp;omega⟩)
 have hfst:=first_fmt (w:=((w3.alloc (.cells #[.pointer (some ⟨ga,0,none⟩)] 188)).alloc (.cells (fmtL (.pointer (some ⟨w3.heap.size,0,none⟩)) (.pointer (some ⟨w2.heap.size+1,0,none⟩)) (.pointer (some ⟨ga,0,none⟩))).toArray 61))) A4.out.bf
  (fun W h=>fE.bf h) (fun W h=>fE.bf h) (fun W h=>fE.bf h) (f1 _ _ _ _ _ A4.out) (fun _ W h=>f2 _ _ _ _ _ h) (fun _ _ W h=>f3 _ _ _ _ _ h) (fun _ _ _ W h=>f4 _ _ _ _ _ h)
 have hfin:=hfst.mono (R':=fun e w'=>e=.returned (I FIN.2)/\fE w w' base q w3.heap.size (w2.heap.size+1) (w3.heap.size+1) ga (11+m+m) (hh:Nat) FIN.1) (fun e w' hp=>by
  have hF:=HF.out;rcases hp with ⟨n1,rfl,r⟩ | ⟨n1,n2,rfl,r⟩ | ⟨n1,n2,n3,rfl,r⟩ | ⟨n1,n2,n3,rfl,r⟩
  · rw[if_pos n1] at hF;rw[hF];exact⟨rfl,r⟩
  · rw[if_neg jz,if_pos n2] at hF;rw[hF];exact⟨rfl,r⟩
  · rw[if_neg jz,if_neg (by rw[n2];simp),if_pos n3] at hF;rw[hF];exact⟨rfl,r⟩
  · rw[if_neg jz,if_neg (by rw[n2];simp),if_neg (by rw[n3];simp)] at hF;rw[hF];exact⟨rfl,r⟩)
 clear f1 f2 f3 f4 XW X3 DW BW hnw2 hmay hfst;go_wp2_with (first | (go_at_call 100;refine hfin.mono ?_;rintro e w5 ⟨rfl,hpost⟩;have HP:=aT hpost;clear hpost) | fail);go_ret;exact⟨rfl,HP.out.d,HP.out.s⟩
end
def begV (p:PV)(E:EgV):EgV:={ E with cells:=if E.k.has then E.k.last.cells else fq p,tick:=if E.k.has then E.k.last.tick else E.tick }
def ix (E:EgV):Int:=if ic E then 53 else 0
section
variable {w w':World} {base g m:Nat} {q:bE} {D:aX} {e:EP} {p:PV} {hash pace:Int} {E:EgV}
theorem begin_any (h:cF w base q g e m p hash pace E)(hk100:E.k.last.cells.length<=100)(hn3:p.cells.length<=100000)(hd:be w base q D)(hs:base<=w.heap.size) :
 Ca 107 #[.pointer (some ⟨g,0,none⟩)] w fun e' w'=>∃ A n c,e'=.returned (I (ix (begV p E)))/\EngS w w' base q g { e with A:=A,n:=n,c:=c } m p hash pace D (begV p E):=by
 obtain⟨c0,c1,c2,c3,c4,c5,c6,c7,c8,c9,c10⟩:=h.words;have X1:=EngX.of h hd (Step.refl mutE base q w) hs;have f4:=h.b.frozen 4;have gl:=h.b.lt;have hfi:=pS X1.r.mach hn3;have hla:=fun (W:World) (cs:List Value) (e1:EP) (l:List Int) (X:EngX w W base q g cs e1 m p hash D E.nIn E.nOut E.k l)=>klast_any X.r.kp hk100
 have HX1:=aT X1;clear X1 h hd;go_enter Tryz.func107,Tryz.ntmps107
 cases hh:E.k.has
 case' false=>
  have hE1:begV p E={ E with cells:=fq p,tick:=E.tick }:=by unfold begV;rw[hh];rfl
  rw[hh] at hla;go_upto_region 2 with (first | ((go_at_call 169;(with_reducible refine (hfi).mono ?_);rintro e' w2 ⟨A2,n2',rfl,o2,b2⟩);have X2:=HX1.out.below b2;obtain⟨c0,c1,c2,c3,c4,c5,c6,c7,c8,c9,c10⟩:=(show cF w2 base q g e m p hash pace E from ⟨X2.b,X2.gb,X2.r⟩).words;have f4:=X2.b.frozen 4;have gl:=X2.b.lt) | fail);have X4:=aT ((X2.cellsTo (c:=n2') (cK.of_ow o2)).set 4 (.slice A2 e.y.n3 n2'));have hla4:=hla _ _ _ _ X4.out;go_upto_region 5 with (first | ((go_at_call 118;(with_reducible refine (hla4).mono ?_);rintro e' w5 ⟨A5,n5,c5',rfl,o5,b5⟩);have X5:=X4.out.below b5) | fail);have X6:=aT (EngX.done (E:={ E with cells:=fq p,tick:=E.tick }) (X5.below ((Below.refl _ _).alloc aW (.cells #[I (gS E.k).tick,I (gS E.k).hash,.slice A5 n5 c5'] 139))) rfl)
 case' true=>
  have hE1:begV p E={ E with cells:=E.k.last.cells,tick:=E.k.last.tick }:=by unfold begV;rw[hh];rfl
  have hlk:gS E.k=E.k.last:=by unfold gS;rw[hh];rfl
  rw[hh,hlk] at hla;go_upto_region 2 with (first | ((go_at_call 169;(with_reducible refine (hfi).mono ?_);rintro e' w2 ⟨A2,n2',rfl,o2,b2⟩);have X2:=HX1.out.below b2;obtain⟨c0,c1,c2,c3,c4,c5,c6,c7,c8,c9,c10⟩:=(show cF w2 base q g e m p hash pace E from ⟨X2.b,X2.gb,X2.r⟩).words;have f4:=X2.b.frozen 4;have gl:=X2.b.lt) | fail);have X4:=aT ((X2.cellsTo (c:=n2') (cK.of_ow o2)).set 4 (.slice A2 e.y.n3 n2'));have hla4:=hla _ _ _ _ X4.out;go_upto_region 4 with (first | ((go_at_call 118;(with_reducible refine (hla4).mono ?_);rintro e' w5 ⟨A5,n5,c5',rfl,o5,b5⟩);have X5:=X4.out.below b5) | fail);have b6:Below w5.heap.size w5 (w5.alloc (.cells #[I E.k.last.tick,I E.k.last.hash,.slice A5 n5 c5'] 139)):=(Below.refl _ _).alloc aW _;have X6:=X5.below b6;have I6:=cK.of_ow (base:=base) (o5.below b6 aW);have S6:Blk (w5.alloc (.cells #[I E.k.last.tick,I E.k.last.hash,.slice A5 n5 c5'] 139)) w5.heap.size 139 [I E.k.last.tick,I E.k.last.hash,.slice A5 n5 c5']:=Blk.top _ rfl rfl;have X7:=X6.cellsTo (c:=c5') I6;refine eG (fun W=>EngX w W base q g ((engC e pace E).set 4 (.slice A2 e.y.n3 n2')) { e with A:=A5,n:=n5,c:=c5' } m p hash D E.nIn E.nOut E.k E.k.last.cells/\Blk W w5.heap.size 139 [I E.k.last.tick,I E.k.last.hash,.slice A5 n5 c5']) ⟨X7,S6⟩ ?_;clear X7 S6 I6 X6 b6 X5 X4 X2 hla4 hla hfi o5 b5 o2 b2 HX1 c0 c1 c2 c3 c4 c5 c6 c7 c8 c9 c10 f4 gl;generalize w5.heap.size=gs at *;rintro W ⟨X7,S6⟩;have f4:=X7.b.frozen 4;have f6:=X7.b.frozen 6;have gl:=X7.b.lt;have k4:=X7.b.c4;have k6:=X7.b.c6;have k0:=S6.c0;have k2:=S6.c2;have gne:=X7.b.ne_ S6 aU;have X8:=aT (((X7.set 6 (I E.k.last.tick)).set 4 (.slice A5 n5 c5')).below (Below.drew (Below.refl _ _)));have X9:=aT (((X7.set 4 (.slice A5 n5 c5')).set 6 (I E.k.last.tick)).below (Below.drew (Below.refl _ _)));clear X7;go_region;go_upto_region 5 with fail;have X6:=aT (EngX.done (E:={ E with cells:=E.k.last.cells,tick:=E.k.last.tick }) X8.out rfl);clear X8 X9
 all_goals
  refine eG (fun W=>EngS w W base q g _ m p hash pace D _) X6.out ?_;rw[<- hE1];obtain⟨E1,hE1v⟩:∃ E1,begV p E=E1:=⟨_,rfl⟩;have HE1:=aT hE1v;rw[hE1v];clear hE1v hE1;intro W X;obtain⟨v0,v1,v2,v3,v4,v5,v6,v7,v8,v9,v10⟩:=(X.i.below (Below.drew (Below.refl _ _))).words;have hld:=lM (X.i.r.below (Below.drew (Below.refl _ _))).inn;have hlo:=oC (X.i.r.below (Below.drew (Below.refl _ _))).out;have XD:=aT (EngX.done ((EngX.of X.i X.d X.s (ae hs X.s.size)).below (Below.drew (Below.refl _ _))) rfl)
  by_cases q1:(E1.nIn:Int)<E1.tick
  · have HB:=aT (show ic E1 from .inl q1);have d1:decide (E1.tick > (E1.nIn:Int))=true:=am q1;clear q1;go_upto_region 5 with fail;refine wp_region_held_drew (S:=fun w'=>w'.cell? ⟨g,6,none⟩=some (I E1.tick)/\w'.cell? ⟨g,1,none⟩=some (.pointer (some ⟨e.gi,0,none⟩))/\w'.cell? ⟨g,2,none⟩=some (.pointer (some ⟨e.go,0,none⟩))) bM ⟨v6,v1,v2⟩ (fun hHeld=>?_);refine aV 0 ?_;refine aV 1 ?_;refine aV 2 ?_;refine aV 3 ?_ (hy:=Or.inl ⟨by rfl,eY⟩);refine aV 4 ?_;refine aV 5 ?_;refine aV 6 ?_;refine aV 7 ?_ (hy:=Or.inl ⟨by rfl,eY⟩);refine bR 8 (fun K hK=>?_);go_simp
    (go_at_call 119;(with_reducible refine (hld).mono ?_);rintro e' w8 ⟨rfl,rfl⟩)
    refine hK.out _ _ (⟨v6,v1,v2⟩) (fun hHeld=>?_);clear hK K;refine bJ ?_;refine aV 9 ?_;refine aV 10 ?_;refine bB 11 ?_;refine bB 12 ?_;refine bB 13 ?_;refine bB 14 ?_;refine bB 15 ?_;refine bB 16 ?_;refine bB 17 ?_;refine bB 18 ?_;refine bB 19 ?_;refine bB 20 ?_;refine aV 21 ?_;refine aV 22 ?_;refine bB 23 ?_;refine bB 24 ?_;refine bB 25 ?_;refine bB 26 ?_;refine bB 27 ?_;refine bB 28 ?_;refine bB 29 ?_;refine bB 30 ?_;refine bB 31 ?_;refine bB 32 ?_;refine bB 33 ?_;refine aV 34 ?_;refine wpAnyH_done bT ?_ _;go_wp2_with fail;go_ret;rw[HE1.out,show ix E1=53 from if_pos HB.out]
    first | exact⟨_,_,_,rfl,XD.out⟩ | exact⟨rfl,_,_,_,XD.out⟩
  by_cases q2:(E1.nOut:Int)<E1.tick
  · have HB:=aT (show ic E1 from .inr (.inl q2));have d1:decide (E1.tick > (E1.nIn:Int))=false:=aj q1;have d2:decide (E1.tick > (E1.nOut:Int))=true:=am q2;clear q1 q2;go_upto_region 5 with fail;refine wp_region_held_drew (S:=fun w'=>w'.cell? ⟨g,6,none⟩=some (I E1.tick)/\w'.cell? ⟨g,1,none⟩=some (.pointer (some ⟨e.gi,0,none⟩))/\w'.cell? ⟨g,2,none⟩=some (.pointer (some ⟨e.go,0,none⟩))) bM ⟨v6,v1,v2⟩ (fun hHeld=>?_);refine aV 0 ?_;refine aV 1 ?_;refine aV 2 ?_;refine aV 3 ?_ (hy:=Or.inl ⟨by rfl,eY⟩);refine aV 4 ?_;refine aV 5 ?_;refine aV 6 ?_;refine aV 7 ?_ (hy:=Or.inl ⟨by rfl,eY⟩);refine bR 8 (fun K hK=>?_);go_simp
    (go_at_call 119;(with_reducible refine (hld).mono ?_);rintro e' w8 ⟨rfl,rfl⟩)
    refine hK.out _ _ (⟨v6,v1,v2⟩) (fun hHeld=>?_);clear hK K;refine bJ ?_;refine aV 9 ?_;refine aV 10 ?_;refine aV 11 ?_;refine aV 12 ?_;refine aV 13 ?_;refine aV 14 ?_ (hy:=Or.inl ⟨by rfl,eY⟩);refine aV 15 ?_;refine aV 16 ?_;refine aV 17 ?_;refine aV 18 ?_ (hy:=Or.inl ⟨by rfl,eY⟩);refine bR 19 (fun K hK=>?_);go_simp
    (go_at_call 120;(with_reducible refine (hlo).mono ?_);rintro e' w8 ⟨rfl,rfl⟩)
    refine hK.out _ _ (⟨v6,v1,v2⟩) (fun hHeld=>?_);clear hK K;refine bJ ?_;refine aV 20 ?_;refine aV 21 ?_;refine aV 22 ?_;refine bB 23 ?_;refine bB 24 ?_;refine bB 25 ?_;refine bB 26 ?_;refine bB 27 ?_;refine bB 28 ?_;refine bB 29 ?_;refine bB 30 ?_;refine bB 31 ?_;refine bB 32 ?_;refine bB 33 ?_;refine aV 34 ?_;refine wpAnyH_done bT ?_ _;go_wp2_with fail;go_ret;rw[HE1.out,show ix E1=53 from if_pos HB.out]
    first | exact⟨_,_,_,rfl,XD.out⟩ | exact⟨rfl,_,_,_,XD.out⟩
  by_cases q3:E1.nIn<E1.nOut
  · have HB:=aT (show ic E1 from .inr (.inr q3));have d1:decide (E1.tick > (E1.nIn:Int))=false:=aj q1;have d2:decide (E1.tick > (E1.nOut:Int))=false:=aj q2;have d3:decide ((E1.nOut:Int) > (E1.nIn:Int))=true:=am aS;have d4:=am q3;clear q1 q2 q3;go_upto_region 5 with fail;refine wp_region_held_drew (S:=fun w'=>w'.cell? ⟨g,6,none⟩=some (I E1.tick)/\w'.cell? ⟨g,1,none⟩=some (.pointer (some ⟨e.gi,0,none⟩))/\w'.cell? ⟨g,2,none⟩=some (.pointer (some ⟨e.go,0,none⟩))) bM ⟨v6,v1,v2⟩ (fun hHeld=>?_);refine aV 0 ?_;refine aV 1 ?_;refine aV 2 ?_;refine aV 3 ?_ (hy:=Or.inl ⟨by rfl,eY⟩);refine aV 4 ?_;refine aV 5 ?_;refine aV 6 ?_;refine aV 7 ?_ (hy:=Or.inl ⟨by rfl,eY⟩);refine bR 8 (fun K hK=>?_);go_simp
    (go_at_call 119;(with_reducible refine (hld).mono ?_);rintro e' w8 ⟨rfl,rfl⟩)
    refine hK.out _ _ (⟨v6,v1,v2⟩) (fun hHeld=>?_);clear hK K;refine bJ ?_;refine aV 9 ?_;refine aV 10 ?_;refine aV 11 ?_;refine aV 12 ?_;refine aV 13 ?_;refine aV 14 ?_ (hy:=Or.inl ⟨by rfl,eY⟩);refine aV 15 ?_;refine aV 16 ?_;refine aV 17 ?_;refine aV 18 ?_ (hy:=Or.inl ⟨by rfl,eY⟩);refine bR 19 (fun K hK=>?_);go_simp
    (go_at_call 120;(with_reducible refine (hlo).mono ?_);rintro e' w8 ⟨rfl,rfl⟩)
    refine hK.out _ _ (⟨v6,v1,v2⟩) (fun hHeld=>?_);clear hK K;refine bJ ?_;refine aV 20 ?_;refine aV 21 ?_;refine aV 22 ?_;refine aV 23 ?_;refine aV 24 ?_;refine aV 25 ?_;refine aV 26 ?_ (hy:=Or.inl ⟨by rfl,eY⟩);refine aV 28 ?_;refine aV 29 ?_;refine aV 30 ?_;refine aV 31 ?_ (hy:=Or.inl ⟨by rfl,eY⟩);refine bR 27 (fun K hK=>?_);go_simp
    (go_at_call 120;(with_reducible refine (hlo).mono ?_);rintro e' w8 ⟨rfl,rfl⟩)
    refine hK.out _ _ (⟨v6,v1,v2⟩) (fun hHeld=>?_);clear hK K;refine bJ ?_;refine bR 32 (fun K hK=>?_);go_simp
    (go_at_call 119;(with_reducible refine (hld).mono ?_);rintro e' w8 ⟨rfl,rfl⟩)
    refine hK.out _ _ (⟨v6,v1,v2⟩) (fun hHeld=>?_);clear hK K;refine bJ ?_;refine aV 33 ?_;refine aV 34 ?_;refine wpAnyH_done bT ?_ _;go_wp2_with fail;go_ret;rw[HE1.out,show ix E1=53 from if_pos HB.out]
    first | exact⟨_,_,_,rfl,XD.out⟩ | exact⟨rfl,_,_,_,XD.out⟩
  · have HB:=aT (show ¬ ic E1 from fun h=>by rcases h with h | h | h;exact q1 h;exact q2 h;exact q3 h);have d1:decide (E1.tick > (E1.nIn:Int))=false:=aj q1;have d2:decide (E1.tick > (E1.nOut:Int))=false:=aj q2;have d3:decide ((E1.nOut:Int) > (E1.nIn:Int))=false:=aj aS;have d4:=aj q3;clear q1 q2 q3;go_upto_region 5 with fail;refine wp_region_held_drew (S:=fun w'=>w'.cell? ⟨g,6,none⟩=some (I E1.tick)/\w'.cell? ⟨g,1,none⟩=some (.pointer (some ⟨e.gi,0,none⟩))/\w'.cell? ⟨g,2,none⟩=some (.pointer (some ⟨e.go,0,none⟩))) bM ⟨v6,v1,v2⟩ (fun hHeld=>?_);refine aV 0 ?_;refine aV 1 ?_;refine aV 2 ?_;refine aV 3 ?_ (hy:=Or.inl ⟨by rfl,eY⟩);refine aV 4 ?_;refine aV 5 ?_;refine aV 6 ?_;refine aV 7 ?_ (hy:=Or.inl ⟨by rfl,eY⟩);refine bR 8 (fun K hK=>?_);go_simp
    (go_at_call 119;(with_reducible refine (hld).mono ?_);rintro e' w8 ⟨rfl,rfl⟩)
    refine hK.out _ _ (⟨v6,v1,v2⟩) (fun hHeld=>?_);clear hK K;refine bJ ?_;refine aV 9 ?_;refine aV 10 ?_;refine aV 11 ?_;refine aV 12 ?_;refine aV 13 ?_;refine aV 14 ?_ (hy:=Or.inl ⟨by rfl,eY⟩);refine aV 15 ?_;refine aV 16 ?_;refine aV 17 ?_;refine aV 18 ?_ (hy:=Or.inl ⟨by rfl,eY⟩);refine bR 19 (fun K hK=>?_);go_simp
    (go_at_call 120;(with_reducible refine (hlo).mono ?_);rintro e' w8 ⟨rfl,rfl⟩)
    refine hK.out _ _ (⟨v6,v1,v2⟩) (fun hHeld=>?_);clear hK K;refine bJ ?_;refine aV 20 ?_;refine aV 21 ?_;refine aV 22 ?_;refine aV 23 ?_;refine aV 24 ?_;refine aV 25 ?_;refine aV 26 ?_ (hy:=Or.inl ⟨by rfl,eY⟩);refine aV 28 ?_;refine aV 29 ?_;refine aV 30 ?_;refine aV 31 ?_ (hy:=Or.inl ⟨by rfl,eY⟩);refine bR 27 (fun K hK=>?_);go_simp
    (go_at_call 120;(with_reducible refine (hlo).mono ?_);rintro e' w8 ⟨rfl,rfl⟩)
    refine hK.out _ _ (⟨v6,v1,v2⟩) (fun hHeld=>?_);clear hK K;refine bJ ?_;refine bR 32 (fun K hK=>?_);go_simp
    (go_at_call 119;(with_reducible refine (hld).mono ?_);rintro e' w8 ⟨rfl,rfl⟩)
    refine hK.out _ _ (⟨v6,v1,v2⟩) (fun hHeld=>?_);clear hK K;refine bJ ?_;refine aV 33 ?_;refine aV 34 ?_;refine wpAnyH_done bT ?_ _;go_wp2_with fail;go_ret;rw[HE1.out,show ix E1=0 from if_neg HB.out]
    first | exact⟨_,_,_,rfl,XD.out⟩ | exact⟨rfl,_,_,_,XD.out⟩
end
section
variable {w w':World} {base ga f m:Nat} {ts:List Int} {p:bE} {D:aX}
theorem fdopen_any (ha:bD w ga p.d f m)(hm:1<=m)(hd:be w base p D)(hs:base<=w.heap.size)(hfm:f+m<=D.many)(hwt:D.waits.length<900000)(A:Option Addr)(n c:Nat)(ht:cK w base A n ts) :
 Ca 191 #[.pointer (some ⟨ga,0,none⟩),.slice A n c] w (gR 307 w base ga 3 ts p (bS D f m 3 ts)):=by
 have hmany:=iE ha;have hmz:((m:Int) == 0)=false:=by rw[af];omega
 have hn:=ht.len;have hright:=jE A n c ts w ht.ri hn;have hun:bS D f m 3 ts=if da ts=false then (D,0,2)
  else if (bP D f m 3).2.2≠0 then ((bP D f m 3).1,0,(bP D f m 3).2.2)
  else if (dG (bP D f m 3).1 f m 3 (bP D f m 3).2.1 ts (bP D f m 3).2.1).2≠0 then ((dG (bP D f m 3).1 f m 3 (bP D f m 3).2.1 ts (bP D f m 3).2.1).1,0,(dG (bP D f m 3).1 f m 3 (bP D f m 3).2.1 ts (bP D f m 3).2.1).2)
  else ((dG (bP D f m 3).1 f m 3 (bP D f m 3).2.1 ts (bP D f m 3).2.1).1,(bP D f m 3).2.1,0):=rfl
 obtain⟨few1,few2,few3⟩:=mH D f m 3;have hok:D.many<=4096:=by obtain⟨A,c,h⟩:=hd;exact h.ok.many1
 have hop:=jopen_any (kind:=3) ha hm hd hs hfm hwt;generalize bS D f m 3 ts=R at *;generalize bP D f m 3=J at *;obtain⟨D1,nx,z⟩:=J;simp only at hun hop few1 few3;have HD:=aT hd;have HA:=aT ha;have HT:=aT ht
 cases hr:da ts with
 | false=>
   rw[if_pos hr] at hun;rw[hr] at hright;subst hun;clear hd ha ht hop hr;go_enter Tryz.func191,Tryz.ntmps191;go_wp2_with (first | (go_at_call 113;(with_reducible refine (hmany).mono ?_);rintro e w1 ⟨rfl,rfl⟩) | (go_at_call 150;(with_reducible refine (hright).mono ?_);rintro e w1 ⟨rfl,rfl⟩) | fail);go_ret2;exact gR.no aZ HD.out (Step.refl _ _ _ _)
 | true=>
   rw[if_neg (by rw[hr];simp)] at hun;rw[hr] at hright;have hn8:n<=8:=by have:=(fG.1 hr).2.2;have:=ht.ri.1;omega
   by_cases hz:z=0
   · subst hz;rw[if_neg aZ] at hun;have HUN:=aT hun;clear hd ha ht hr hun few2;go_enter Tryz.func191,Tryz.ntmps191;go_upto_region 9 with (first | (go_at_call 113;(with_reducible refine (hmany).mono ?_);rintro e w1 ⟨rfl,rfl⟩) | (go_at_call 150;(with_reducible refine (hright).mono ?_);rintro e w1 ⟨rfl,rfl⟩) | ((go_at_call 253;(with_reducible refine (hop).mono ?_);rintro e w2 ⟨P2,rfl,n2,y2,h2,st2⟩);obtain⟨gj,rfl,g2,j2⟩:=y2 rfl;have J2:=aT j2;have H2:=aT h2;have ST2:=aT st2;have s2:=st2.size;have T2:=aT (HT.out.step HD.out st2 aU);clear n2 y2 j2 h2 st2) | (at_builtin;refine dR (α:=Int) (enc:=iv) rfl rfl fF gq (s:=.tmp 30) (N:=n) (L:=ts) rfl (Ow.new _ _ #[] [] rfl aU) rfl (k:=ts) (T2.out.ri.below (B:=w2.heap.size) bc aW).rd aZ aZ hn aS br ?_;intro A5 c5 w5 hown5 hg5 hat5 hb5;have b5:=aT ((show Below w2.heap.size w2 (w2.alloc (.cells #[] 3)) from bc).trans hb5);have I5:=aT (show cK w5 base A5 n ts from cK.of_ow hown5);have N5:=aT (fun b (hb:A5.map (·.block)=some b)=>(hown5.lt b hb).1);clear hown5 hg5 hat5 hb5) | fail);have bX:Below w2.heap.size w2 (w5.alloc (.cells #[.pointer (some ⟨gj,0,none⟩),.slice A5 n c5] 307)):=b5.out.alloc (by have:=b5.out.size;omega) _;have bY:Below w5.heap.size w5 (w5.alloc (.cells #[.pointer (some ⟨gj,0,none⟩),.slice A5 n c5] 307)):=(Below.refl _ _).alloc aW _;have J6:=aT (show ju 307 (w5.alloc (.cells #[.pointer (some ⟨gj,0,none⟩),.slice A5 n c5] 307)) base w.heap.size w5.heap.size ga 3 nx ts from ⟨gj,A5,n,c5,Blk.top _ rfl rfl,aS,(Blk.below J2.out bX (Blk.lt J2.out)),I5.out.below bY,fun b hb=>by have:w2.heap.size<=b:=N5.out b hb;omega⟩);have H6:=aT (H2.out.below bX);have ST6:=aT (ST2.out.then_below (bX.mono s2) hs);have A6:=aT (HD.out.area HA.out ST6.out.tch aU);have s6:=ST6.out.size;have s5:=b5.out.size;generalize hW:w5.alloc (.cells #[.pointer (some ⟨gj,0,none⟩),.slice A5 n c5] 307)=w6 at *;have c6:w6.cell? ⟨w5.heap.size,0,none⟩=some (.pointer (some ⟨gj,0,none⟩)):=by rw[<- hW];exact Blk.cell (Blk.top _ rfl rfl) 0
     generalize hG:w5.heap.size=gf at *;clear hW bX bY b5 I5 T2 J2 H2 ST2 HT hright hmany;have hlen:=lM J6.out.at_;have hlj:Ca 203 #[.pointer (some ⟨gj,0,none⟩)] w6 fun e w'=>e=.returned (I (nx:Nat))/\w6=w':=by
      obtain⟨gj',A,n',c',q1,_,q3,_⟩:=J6.out;have:=q1.cell 0;rw[c6] at this;injection this with this;injection this with this;injection this with this;injection this with this;subst this;exact lF q3
     have hnx:nx<=4096:=aS;go_wp2_with (first | ((go_at_call 203;(with_reducible refine (hlj).mono ?_);rintro e w7 ⟨rfl,rfl⟩)) | fail);go_loopw [9,10,11,41] (fun _ _ _ i wr=>∃ (k:Nat) (Dk:aX),k<=nx/\i=I (k:Nat)/\dG D1 f m 3 nx ts k=(Dk,0)/\be wr base p Dk/\Step mutD base p w6 wr) (fun _ _ _ i _=>nx - (intOf i).toNat)
     case atStart=>exact⟨0,D1,aS,rfl,rfl,H6.out,Step.refl _ _ _ _⟩
     case round=>
      obtain⟨k,Dk,hk,rfl,hall,hdk,hst⟩:=hrel;have hsz:=hst.size;have hjk:=J6.out.step H6.out hst aU aU aU
      by_cases hlt:k<nx
      · have hak:=H6.out.area A6.out hst.tch aU;have hmk:Dk.many=D.many:=by have:=pU D1 f m 3 nx ts k;rw[hall] at this;exact this.trans few1
        have hget:=oA hjk.at_ hdk aS hak (by rw[hmk];exact hfm) hnx (k:Int);have hnext:=pV hall;generalize dm Dk f m 3 nx ts (k:Int)=G at *;obtain⟨Dn,ln,zn⟩:=G;simp only at hget hnext;have HDk:=aT hdk;have HST:=aT hst;clear hdk hjk hak hall
        by_cases he:zn=0
        · subst he;have HN:=aT hnext;clear hnext;go_wp2_with (first | ((go_at_call 210;(with_reducible refine (hget).mono ?_);rintro e w8 ⟨L8,k8,d8,rfl,o8,h8,st8⟩)) | fail);go_roundw
          case rel=>first
           | exact⟨k+1,Dn,aS,by go_num,HN.out,h8,HST.out.trans st8⟩
           | ((repeat apply Exists.intro);exact⟨⟨k+1,Dn,aS,by go_num,HN.out,h8,HST.out.trans st8⟩,rfl⟩)
          case measure=>simp[intOf];omega
        · have hneb:(zn != 0)=true:=by rw[ag];exact he
          have hstop:=pK (D:=D1) (f:=f) (m:=m) (kind:=3) (next:=nx) (ts:=ts) (k:=k+1) (n:=nx) (by rw[hnext];exact he) aS;have hR:R=(Dn,0,zn):=by rw[HUN.out,hstop,hnext,if_pos he]
          subst hR;have HE:=aT he;clear HUN hstop hnext he;go_wp2_with (first | ((go_at_call 210;(with_reducible refine (hget).mono ?_);rintro e w8 ⟨L8,k8,d8,rfl,o8,h8,st8⟩)) | fail);go_ret2;exact gR.no HE.out h8 ((ST6.out.trans HST.out).trans st8)
      · have hk9:k=nx:=aS;subst hk9;have hR:R=(Dk,k,0):=by rw[HUN.out,hall,if_neg aZ]
        subst hR;have HDk:=aT hdk;have HST:=aT hst;have HJ:=aT hjk;clear hdk hst hjk hall HUN;go_wp2;go_ret2;exact gR.yes aS HJ.out HDk.out (ST6.out.trans HST.out)
   · rw[if_pos hz] at hun;have hzb:(z != 0)=true:=by rw[ag];exact hz
     subst hun;have HZ:=aT hz;clear hd ha ht hr hz few2;go_enter Tryz.func191,Tryz.ntmps191;go_wp2_with (first | (go_at_call 113;(with_reducible refine (hmany).mono ?_);rintro e w1 ⟨rfl,rfl⟩) | (go_at_call 150;(with_reducible refine (hright).mono ?_);rintro e w1 ⟨rfl,rfl⟩) | ((go_at_call 253;(with_reducible refine (hop).mono ?_);rintro e w2 ⟨P2,rfl,n2,y2,h2,st2⟩);obtain rfl:=n2 HZ.out) | fail);go_ret2;exact gR.no HZ.out h2 st2
end
section
variable {w w':World} {base ga f m:Nat} {ts:List Int} {p:bE} {D:aX}
theorem skopen_any (ha:bD w ga p.d f m)(hm:1<=m)(hd:be w base p D)(hs:base<=w.heap.size)(hfm:f+m<=D.many)(hwt:D.waits.length<900000)(A:Option Addr)(n c:Nat)(ht:cK w base A n ts) :
 Ca 193 #[.pointer (some ⟨ga,0,none⟩),.slice A n c] w (gR 310 w base ga 4 ts p (bS D f m 4 ts)):=by
 have hmany:=iE ha;have hmz:((m:Int) == 0)=false:=by rw[af];omega
 have hn:=ht.len;have hright:=jE A n c ts w ht.ri hn;have hun:bS D f m 4 ts=if da ts=false then (D,0,2)
  else if (bP D f m 4).2.2≠0 then ((bP D f m 4).1,0,(bP D f m 4).2.2)
  else if (dG (bP D f m 4).1 f m 4 (bP D f m 4).2.1 ts (bP D f m 4).2.1).2≠0 then ((dG (bP D f m 4).1 f m 4 (bP D f m 4).2.1 ts (bP D f m 4).2.1).1,0,(dG (bP D f m 4).1 f m 4 (bP D f m 4).2.1 ts (bP D f m 4).2.1).2)
  else ((dG (bP D f m 4).1 f m 4 (bP D f m 4).2.1 ts (bP D f m 4).2.1).1,(bP D f m 4).2.1,0):=rfl
 obtain⟨few1,few2,few3⟩:=mH D f m 4;have hok:D.many<=4096:=by obtain⟨A,c,h⟩:=hd;exact h.ok.many1
 have hop:=jopen_any (kind:=4) ha hm hd hs hfm hwt;generalize bS D f m 4 ts=R at *;generalize bP D f m 4=J at *;obtain⟨D1,nx,z⟩:=J;simp only at hun hop few1 few3;have HD:=aT hd;have HA:=aT ha;have HT:=aT ht
 cases hr:da ts with
 | false=>
   rw[if_pos hr] at hun;rw[hr] at hright;subst hun;clear hd ha ht hop hr;go_enter Tryz.func193,Tryz.ntmps193;go_wp2_with (first | (go_at_call 113;(with_reducible refine (hmany).mono ?_);rintro e w1 ⟨rfl,rfl⟩) | (go_at_call 150;(with_reducible refine (hright).mono ?_);rintro e w1 ⟨rfl,rfl⟩) | fail);go_ret2;exact gR.no aZ HD.out (Step.refl _ _ _ _)
 | true=>
   rw[if_neg (by rw[hr];simp)] at hun;rw[hr] at hright;have hn8:n<=8:=by have:=(fG.1 hr).2.2;have:=ht.ri.1;omega
   by_cases hz:z=0
   · subst hz;rw[if_neg aZ] at hun;have HUN:=aT hun;clear hd ha ht hr hun few2;go_enter Tryz.func193,Tryz.ntmps193;go_upto_region 9 with (first | (go_at_call 113;(with_reducible refine (hmany).mono ?_);rintro e w1 ⟨rfl,rfl⟩) | (go_at_call 150;(with_reducible refine (hright).mono ?_);rintro e w1 ⟨rfl,rfl⟩) | ((go_at_call 253;(with_reducible refine (hop).mono ?_);rintro e w2 ⟨P2,rfl,n2,y2,h2,st2⟩);obtain⟨gj,rfl,g2,j2⟩:=y2 rfl;have J2:=aT j2;have H2:=aT h2;have ST2:=aT st2;have s2:=st2.size;have T2:=aT (HT.out.step HD.out st2 aU);clear n2 y2 j2 h2 st2) | (at_builtin;refine dR (α:=Int) (enc:=iv) rfl rfl fF gq (s:=.tmp 30) (N:=n) (L:=ts) rfl (Ow.new _ _ #[] [] rfl aU) rfl (k:=ts) (T2.out.ri.below (B:=w2.heap.size) bc aW).rd aZ aZ hn aS br ?_;intro A5 c5 w5 hown5 hg5 hat5 hb5;have b5:=aT ((show Below w2.heap.size w2 (w2.alloc (.cells #[] 3)) from bc).trans hb5);have I5:=aT (show cK w5 base A5 n ts from cK.of_ow hown5);have N5:=aT (fun b (hb:A5.map (·.block)=some b)=>(hown5.lt b hb).1);clear hown5 hg5 hat5 hb5) | fail);have bX:Below w2.heap.size w2 (w5.alloc (.cells #[.pointer (some ⟨gj,0,none⟩),.slice A5 n c5] 310)):=b5.out.alloc (by have:=b5.out.size;omega) _;have bY:Below w5.heap.size w5 (w5.alloc (.cells #[.pointer (some ⟨gj,0,none⟩),.slice A5 n c5] 310)):=(Below.refl _ _).alloc aW _;have J6:=aT (show ju 310 (w5.alloc (.cells #[.pointer (some ⟨gj,0,none⟩),.slice A5 n c5] 310)) base w.heap.size w5.heap.size ga 4 nx ts from ⟨gj,A5,n,c5,Blk.top _ rfl rfl,aS,(Blk.below J2.out bX (Blk.lt J2.out)),I5.out.below bY,fun b hb=>by have:w2.heap.size<=b:=N5.out b hb;omega⟩);have H6:=aT (H2.out.below bX);have ST6:=aT (ST2.out.then_below (bX.mono s2) hs);have A6:=aT (HD.out.area HA.out ST6.out.tch aU);have s6:=ST6.out.size;have s5:=b5.out.size;generalize hW:w5.alloc (.cells #[.pointer (some ⟨gj,0,none⟩),.slice A5 n c5] 310)=w6 at *;have c6:w6.cell? ⟨w5.heap.size,0,none⟩=some (.pointer (some ⟨gj,0,none⟩)):=by rw[<- hW];exact Blk.cell (Blk.top _ rfl rfl) 0
     generalize hG:w5.heap.size=gf at *;clear hW bX bY b5 I5 T2 J2 H2 ST2 HT hright hmany;have hlen:=oC J6.out.at_;have hlj:Ca 203 #[.pointer (some ⟨gj,0,none⟩)] w6 fun e w'=>e=.returned (I (nx:Nat))/\w6=w':=by
      obtain⟨gj',A,n',c',q1,_,q3,_⟩:=J6.out;have:=q1.cell 0;rw[c6] at this;injection this with this;injection this with this;injection this with this;injection this with this;subst this;exact lF q3
     have hnx:nx<=4096:=aS;go_wp2_with (first | ((go_at_call 203;(with_reducible refine (hlj).mono ?_);rintro e w7 ⟨rfl,rfl⟩)) | fail);go_loopw [9,10,11,41] (fun _ _ _ i wr=>∃ (k:Nat) (Dk:aX),k<=nx/\i=I (k:Nat)/\dG D1 f m 4 nx ts k=(Dk,0)/\be wr base p Dk/\Step mutD base p w6 wr) (fun _ _ _ i _=>nx - (intOf i).toNat)
     case atStart=>exact⟨0,D1,aS,rfl,rfl,H6.out,Step.refl _ _ _ _⟩
     case round=>
      obtain⟨k,Dk,hk,rfl,hall,hdk,hst⟩:=hrel;have hsz:=hst.size;have hjk:=J6.out.step H6.out hst aU aU aU
      by_cases hlt:k<nx
      · have hak:=H6.out.area A6.out hst.tch aU;have hmk:Dk.many=D.many:=by have:=pU D1 f m 4 nx ts k;rw[hall] at this;exact this.trans few1
        have hget:=skget_any hjk.at_ hdk aS hak (by rw[hmk];exact hfm) hnx (k:Int);have hnext:=pV hall;generalize dm Dk f m 4 nx ts (k:Int)=G at *;obtain⟨Dn,ln,zn⟩:=G;simp only at hget hnext;have HDk:=aT hdk;have HST:=aT hst;clear hdk hjk hak hall
        by_cases he:zn=0
        · subst he;have HN:=aT hnext;clear hnext;go_wp2_with (first | ((go_at_call 189;(with_reducible refine (hget).mono ?_);rintro e w8 ⟨L8,k8,d8,rfl,o8,h8,st8⟩)) | fail);go_roundw
          case rel=>first
           | exact⟨k+1,Dn,aS,by go_num,HN.out,h8,HST.out.trans st8⟩
           | ((repeat apply Exists.intro);exact⟨⟨k+1,Dn,aS,by go_num,HN.out,h8,HST.out.trans st8⟩,rfl⟩)
          case measure=>simp[intOf];omega
        · have hneb:(zn != 0)=true:=by rw[ag];exact he
          have hstop:=pK (D:=D1) (f:=f) (m:=m) (kind:=4) (next:=nx) (ts:=ts) (k:=k+1) (n:=nx) (by rw[hnext];exact he) aS;have hR:R=(Dn,0,zn):=by rw[HUN.out,hstop,hnext,if_pos he]
          subst hR;have HE:=aT he;clear HUN hstop hnext he;go_wp2_with (first | ((go_at_call 189;(with_reducible refine (hget).mono ?_);rintro e w8 ⟨L8,k8,d8,rfl,o8,h8,st8⟩)) | fail);go_ret2;exact gR.no HE.out h8 ((ST6.out.trans HST.out).trans st8)
      · have hk9:k=nx:=aS;subst hk9;have hR:R=(Dk,k,0):=by rw[HUN.out,hall,if_neg aZ]
        subst hR;have HDk:=aT hdk;have HST:=aT hst;have HJ:=aT hjk;clear hdk hst hjk hall HUN;go_wp2;go_ret2;exact gR.yes aS HJ.out HDk.out (ST6.out.trans HST.out)
   · rw[if_pos hz] at hun;have hzb:(z != 0)=true:=by rw[ag];exact hz
     subst hun;have HZ:=aT hz;clear hd ha ht hr hz few2;go_enter Tryz.func193,Tryz.ntmps193;go_wp2_with (first | (go_at_call 113;(with_reducible refine (hmany).mono ?_);rintro e w1 ⟨rfl,rfl⟩) | (go_at_call 150;(with_reducible refine (hright).mono ?_);rintro e w1 ⟨rfl,rfl⟩) | ((go_at_call 253;(with_reducible refine (hop).mono ?_);rintro e w2 ⟨P2,rfl,n2,y2,h2,st2⟩);obtain rfl:=n2 HZ.out) | fail);go_ret2;exact gR.no HZ.out h2 st2
end
def prt3V (nIn nOut:Nat)(K:aX × KpV × Int):aX × Nat × Nat × KpV × Int:=(K.1,nIn,nOut,K.2.1,K.2.2)
def prt2V (m:Nat)(p:PV)(hash:Int)(nIn:Nat)(S:aX × Nat × Int):aX × Nat × Nat × KpV × Int:=if S.2.2≠0 then (S.1,nIn,0,hJ,S.2.2) else prt3V nIn S.2.1 (ec S.1 1 5 6 5 p hash)
def prt1V (m:Nat)(p:PV)(hash:Int)(F:aX × Nat × Int):aX × Nat × Nat × KpV × Int:=if F.2.2≠0 then (F.1,0,0,hJ,F.2.2) else prt2V m p hash F.2.1 (bS F.1 (11+m) m 4 p.outs)
def cV (m:Nat)(p:PV)(hash:Int)(D:aX):aX × Nat × Nat × KpV × Int:=prt1V m p hash (bS D 11 m 3 p.ins)
def engN (pm pi po pk:Option Addr)(pace:Int):List Value :=
 [.pointer pm,.pointer pi,.pointer po,.pointer pk,.slice none 0 0,I pace,I 0,I 0,I 0,.bool false,.bool false]
def mutX:List TypeId:=180 :: mutD
structure PrAt (w0 W:World)(base:Nat)(q:bE)(g gB pB lB gf gl gs ga gb m:Nat)(x:PA)(p:PV)(pace:Int)(D:aX)(pi po pk:Option Addr):Prop where
 d:be W base q D
 b:Blk W g 180 (engN none pi po pk pace)
 g0:base<=g
 al:bD W gl q.d 11 m
 as_:bD W gs q.d (11+m) m
 aa:bD W ga q.d 1 5
 ab:bD W gb q.d 6 5
 bl:Blk W lB 276 [.pointer (some ⟨gl,0,none⟩),.pointer (some ⟨gs,0,none⟩),.pointer (some ⟨ga,0,none⟩),.pointer (some ⟨gb,0,none⟩)]
 bp:Blk W pB 26 (progC x p)
 bg:Blk W gB 45 [.pointer (some ⟨g,0,none⟩)]
 bf:Blk W gf 61 (prtL (.pointer (some ⟨lB,0,none⟩)) (.pointer (some ⟨pB,0,none⟩)) (.pointer (some ⟨gB,0,none⟩)))
 pr:ej W base x p
 s:Step mutX base q w0 W
 hs:base<=W.heap.size
theorem ej.ints1 {x:PA}{p:PV}(h:ej w base x p):cK w base x.A1 x.n1 p.ins:=⟨h.rd.r1,ae h.rd.k1.1 h.rd.k1.2,h.s1⟩
theorem ej.ints2 {x:PA}{p:PV}(h:ej w base x p):cK w base x.A2 x.n2 p.outs:=⟨h.rd.r2,ae h.rd.k2.1 h.rd.k2.2,h.s2⟩
section
variable {w0 W W':World} {base g gB pB lB gf gl gs ga gb m:Nat} {q:bE} {D D':aX} {x:PA} {p:PV} {pace:Int} {pi po pk:Option Addr}
theorem Step.dToX (h:Step mutD base q w w'):Step mutX base q w w':=h.mono fun t ht=>aB _ ht
theorem Step.eToX (h:Step [180] base q w w'):Step mutX base q w w':=h.mono aU
theorem PrAt.step (h:PrAt w0 W base q g gB pB lB gf gl gs ga gb m x p pace D pi po pk)(hd:be W' base q D')(t:Step mutD base q W W'):PrAt w0 W' base q g gB pB lB gf gl gs ga gb m x p pace D' pi po pk :=
 ⟨hd,h.d.blk h.b t.tch aU,h.g0,h.d.area h.al t.tch aU,h.d.area h.as_ t.tch aU,h.d.area h.aa t.tch aU,h.d.area h.ab t.tch aU,h.d.blk h.bl t.tch aU,h.d.blk h.bp t.tch aU,h.d.blk h.bg t.tch aU,h.d.blk h.bf t.tch aU,h.pr.step h.d t aU aU aU,h.s.trans t.dToX,ae h.hs t.size⟩
theorem PrAt.setE (h:PrAt w0 W base q g gB pB lB gf gl gs ga gb m x p pace D pi po pk)(i:Nat)(u:Value){pi' po' pk':Option Addr}(he:(engN none pi po pk pace).set i u=engN none pi' po' pk' pace):PrAt w0 (W.setCell ⟨g,i,none⟩ u) base q g gB pB lB gf gl gs ga gb m x p pace D pi' po' pk':=by
 have t:=Step.engSet (q:=q) h.b h.g0 h.hs i u;have hb:=h.b.set_ i u;rw[he] at hb;exact⟨h.d.engSet h.b i u,hb,h.g0,h.d.area h.al t.tch aU,h.d.area h.as_ t.tch aU,h.d.area h.aa t.tch aU,h.d.area h.ab t.tch aU,h.d.blk h.bl t.tch aU,h.d.blk h.bp t.tch aU,h.d.blk h.bg t.tch aU,h.d.blk h.bf t.tch aU,h.pr.step h.d t aU aU aU,h.s.trans t.eToX,by simpa using h.hs⟩
def PrR1 (w0 W:World)(base:Nat)(q:bE)(g gB pB lB gf gl gs ga gb m:Nat)(x:PA)(p:PV)(pace:Int)(F:aX × Nat × Int):Prop :=
 ∃ P,PrAt w0 W base q g gB pB lB gf gl gs ga gb m x p pace F.1 P none none/\(F.2.2=0->∃ gi,P=some ⟨gi,0,none⟩/\cX 307 W base gi gl 3 F.2.1 p.ins)
def PrR2 (w0 W:World)(base:Nat)(q:bE)(g gB pB lB gf gl gs ga gb m:Nat)(x:PA)(p:PV)(pace:Int)(nIn:Nat)(S:aX × Nat × Int):Prop :=
 ∃ gi P,PrAt w0 W base q g gB pB lB gf gl gs ga gb m x p pace S.1 (some ⟨gi,0,none⟩) P none/\cX 307 W base gi gl 3 nIn p.ins/\(S.2.2=0->∃ go,P=some ⟨go,0,none⟩/\cX 310 W base go gs 4 S.2.1 p.outs)
def PrR3 (w0 W:World)(base:Nat)(q:bE)(g gB pB lB gf gl gs ga gb m:Nat)(x:PA)(p:PV)(pace hash:Int)(nIn nOut:Nat)(K:aX × KpV × Int):Prop :=
 ∃ gi go P,PrAt w0 W base q g gB pB lB gf gl gs ga gb m x p pace K.1 (some ⟨gi,0,none⟩) (some ⟨go,0,none⟩) P/\cX 307 W base gi gl 3 nIn p.ins/\cX 310 W base go gs 4 nOut p.outs/\(K.2.2=0->∃ gk,P=some ⟨gk,0,none⟩/\kX W base gk ga gb x p hash K.2.1)
theorem prt1_any (h:PrAt w0 W base q g gB pB lB gf gl gs ga gb m x p pace D none none none)(hm:1<=m)(big:11+m+m<=D.many)(hwt:D.waits.length<800000) :
 Ca 190 #[.pointer (some ⟨lB,0,none⟩),.pointer (some ⟨pB,0,none⟩),.pointer (some ⟨gB,0,none⟩)] W fun e w'=>e=.returned (I (bS D 11 m 3 p.ins).2.2)/\PrR1 w0 w' base q g gB pB lB gf gl gs ga gb m x p pace (bS D 11 m 3 p.ins):=by
 have hb:Below W.heap.size W W.drew:=Below.drew (Below.refl _ _);have HD:=h.step (h.d.below hb) (Step.of_below hb h.hs);have hop:=fdopen_any HD.al hm HD.d HD.hs aS aS x.A1 x.n1 x.c1 HD.pr.ints1;have c0:=h.bl.c0;have c1:=h.bp.c0;have c2:=h.bg.c0;have ll:=h.bl.lt;have HX:=aT HD;clear h HD hb;generalize bS D 11 m 3 p.ins=F at *;go_enter Tryz.func190,Tryz.ntmps190;go_upto_region 1 with fail;go_region_held3 (fun w'=>w'.cell? ⟨lB,0,none⟩=some (.pointer (some ⟨gl,0,none⟩))/\w'.cell? ⟨pB,0,none⟩=some (.slice x.A1 x.n1 x.c1)/\w'.cell? ⟨gB,0,none⟩=some (.pointer (some ⟨g,0,none⟩))) (first | go_keep | (refine⟨?_,?_,?_⟩ <;> assumption)) (first | ((go_at_call 191;(with_reducible refine (hop).mono ?_);rintro e w2 ⟨P2,rfl,n2,y2,d2,s2⟩);have X2:=aT (HX.out.step d2 s2);have c0:=X2.out.bl.c0;have c1:=X2.out.bp.c0;have c2:=X2.out.bg.c0;have k1:=X2.out.b.c1;have f1:=X2.out.b.frozen 1;have gl2:=X2.out.b.lt;have X2s:=X2.out.setE 1 (.pointer P2) rfl;have s0:=X2s.bl.c0;have s1:=X2s.bp.c0;have s2:=X2s.bg.c0;clear X2s) | fail);go_wp2_with fail;go_ret;refine⟨rfl,P2,X2.out.setE 1 (.pointer P2) rfl,fun hz=>?_⟩;obtain⟨gi,rfl,_,hj⟩:=y2 hz;exact⟨gi,rfl,hj.at_.step X2.out.d (Step.engSet X2.out.b X2.out.g0 X2.out.hs 1 _) aU aU aU⟩
theorem prt2_any (h:PrAt w0 W base q g gB pB lB gf gl gs ga gb m x p pace D (some ⟨gi,0,none⟩) none none)(hf:cX 307 W base gi gl 3 nIn p.ins)(hm:1<=m)(big:11+m+m<=D.many)(hwt:D.waits.length<800000) :
 Ca 192 #[.pointer (some ⟨lB,0,none⟩),.pointer (some ⟨pB,0,none⟩),.pointer (some ⟨gB,0,none⟩)] W fun e w'=>e=.returned (I (bS D (11+m) m 4 p.outs).2.2)/\PrR2 w0 w' base q g gB pB lB gf gl gs ga gb m x p pace nIn (bS D (11+m) m 4 p.outs):=by
 have hb:Below W.heap.size W W.drew:=Below.drew (Below.refl _ _);have HD:=h.step (h.d.below hb) (Step.of_below hb h.hs);have hfD:=aT (hf.below hb);have hop:=skopen_any HD.as_ hm HD.d HD.hs aS aS x.A2 x.n2 x.c2 HD.pr.ints2;have c0:=h.bl.c1;have c1:=h.bp.c1;have c2:=h.bg.c0;have ll:=h.bl.lt;have HX:=aT HD;clear h HD hb hf;generalize bS D (11+m) m 4 p.outs=F at *;go_enter Tryz.func192,Tryz.ntmps192;go_upto_region 1 with fail;go_region_held3 (fun w'=>w'.cell? ⟨lB,1,none⟩=some (.pointer (some ⟨gs,0,none⟩))/\w'.cell? ⟨pB,1,none⟩=some (.slice x.A2 x.n2 x.c2)/\w'.cell? ⟨gB,0,none⟩=some (.pointer (some ⟨g,0,none⟩))) (first | go_keep | (refine⟨?_,?_,?_⟩ <;> assumption)) (first | ((go_at_call 193;(with_reducible refine (hop).mono ?_);rintro e w2 ⟨P2,rfl,n2,y2,d2,s2⟩);have X2:=aT (HX.out.step d2 s2);have F2:=aT (hfD.out.step HX.out.d s2 aU aU aU);have c0:=X2.out.bl.c1;have c1:=X2.out.bp.c1;have c2:=X2.out.bg.c0;have k1:=X2.out.b.c2;have f1:=X2.out.b.frozen 2;have gl2:=X2.out.b.lt;have X2s:=X2.out.setE 2 (.pointer P2) rfl;have s0:=X2s.bl.c1;have s1:=X2s.bp.c1;have s2:=X2s.bg.c0;clear X2s) | fail);go_wp2_with fail;go_ret;have t2:=Step.engSet (q:=q) X2.out.b X2.out.g0 X2.out.hs 2 (.pointer P2);refine⟨rfl,gi,P2,X2.out.setE 2 (.pointer P2) rfl,F2.out.step X2.out.d t2 aU aU aU,fun hz=>?_⟩;obtain⟨go,rfl,_,hj⟩:=y2 hz;exact⟨go,rfl,hj.at_.step X2.out.d t2 aU aU aU⟩
theorem prt3_any {nOut go:Nat}(h:PrAt w0 W base q g gB pB lB gf gl gs ga gb m x p pace D (some ⟨gi,0,none⟩) (some ⟨go,0,none⟩) none)(hf:cX 307 W base gi gl 3 nIn p.ins)(ho:cX 310 W base go gs 4 nOut p.outs)(hw:eO p)(hv:dF p=true)(big:11+m+m<=D.many) :
 Ca 194 #[.pointer (some ⟨lB,0,none⟩),.pointer (some ⟨pB,0,none⟩),.pointer (some ⟨gB,0,none⟩)] W fun e w'=>e=.returned (I (ec D 1 5 6 5 p (cw p:Nat)).2.2)/\PrR3 w0 w' base q g gB pB lB gf gl gs ga gb m x p pace (cw p:Nat) nIn nOut (ec D 1 5 6 5 p (cw p:Nat)):=by
 have hb:Below W.heap.size W W.drew:=Below.drew (Below.refl _ _);have HD:=h.step (h.d.below hb) (Step.of_below hb h.hs);have hfD:=aT (hf.below hb);have hoD:=aT (ho.below hb);have hop:Ca 195 _ _ (kq (fun _=>False) W.drew base q ga gb x p (cw p:Nat) (ec D 1 5 6 5 p (cw p:Nat))):=kopen_any (fun _ _ h=>h) HD.pr hw hv HD.d HD.hs HD.aa HD.ab aS aS aS aS;have c0:=h.bl.c2;have c3:=h.bl.c3;obtain⟨p0,p1,p2,p3,p4⟩:=blk5 (show Blk W pB _ [.slice x.A1 x.n1 x.c1,.slice x.A2 x.n2 x.c2,I p.regs,.slice x.A3 x.n3 x.c3,.slice x.A4 x.n4 x.c4] from h.bp);have c2:=h.bg.c0;have ll:=h.bl.lt;have HX:=aT HD;clear h HD hb hf ho;generalize ec D 1 5 6 5 p (cw p:Nat)=F at *;go_enter Tryz.func194,Tryz.ntmps194;go_upto_region 1 with fail;go_region_held3 (fun w'=>w'.cell? ⟨lB,2,none⟩=some (.pointer (some ⟨ga,0,none⟩))/\w'.cell? ⟨lB,3,none⟩=some (.pointer (some ⟨gb,0,none⟩))/\w'.cell? ⟨gB,0,none⟩=some (.pointer (some ⟨g,0,none⟩))/\w'.cell? ⟨pB,0,none⟩=some (.slice x.A1 x.n1 x.c1)/\w'.cell? ⟨pB,1,none⟩=some (.slice x.A2 x.n2 x.c2)/\w'.cell? ⟨pB,2,none⟩=some (I p.regs)/\w'.cell? ⟨pB,3,none⟩=some (.slice x.A3 x.n3 x.c3)/\w'.cell? ⟨pB,4,none⟩=some (.slice x.A4 x.n4 x.c4)) (first | go_keep | (refine⟨?_,?_,?_,?_,?_,?_,?_,?_⟩ <;> assumption)) (first | ((go_at_call 195;(with_reducible refine (hop).mono ?_);rintro e w2 ⟨P2,rfl,n2,y2,d2,s2⟩);have X2:=aT (HX.out.step d2 s2);have F2:=aT (hfD.out.step HX.out.d s2 aU aU aU);have O2:=aT (hoD.out.step HX.out.d s2 aU aU aU);have c0:=X2.out.bl.c2;have c3:=X2.out.bl.c3;have c2:=X2.out.bg.c0;obtain⟨p0,p1,p2,p3,p4⟩:=blk5 (show Blk w2 pB _ [.slice x.A1 x.n1 x.c1,.slice x.A2 x.n2 x.c2,I p.regs,.slice x.A3 x.n3 x.c3,.slice x.A4 x.n4 x.c4] from X2.out.bp);have k1:=X2.out.b.c3;have f1:=X2.out.b.frozen 3;have gl2:=X2.out.b.lt;have X2s:=X2.out.setE 3 (.pointer P2) rfl;have s0:=X2s.bl.c2;have s1:=X2s.bl.c3;have s2:=X2s.bg.c0;have s3:=X2s.bp.c0;have s4:=X2s.bp.c1;have s5:=X2s.bp.c2;have s6:=X2s.bp.c3;have s7:=X2s.bp.c4;clear X2s) | fail);go_wp2_with fail;go_ret;have t2:=Step.engSet (q:=q) X2.out.b X2.out.g0 X2.out.hs 3 (.pointer P2);refine⟨rfl,gi,go,P2,X2.out.setE 3 (.pointer P2) rfl,F2.out.step X2.out.d t2 aU aU aU,O2.out.step X2.out.d t2 aU aU aU,fun hz=>?_⟩;obtain⟨gk,rfl,_,hj⟩:=y2 hz;exact⟨gk,rfl,hj.step X2.out.d t2 aU aU aU aU aU aU⟩
end
