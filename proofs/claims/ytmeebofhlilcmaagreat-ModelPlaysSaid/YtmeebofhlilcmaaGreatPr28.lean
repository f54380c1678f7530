/- Parts. -/
import Derived.Test.YtmeebofhlilcmaaGreatPr27
set_option linter.unusedVariables false
set_option linter.unusedSimpArgs false
set_option maxRecDepth 100000
set_option maxHeartbeats 0
namespace Go.Proofs.YtmeebofhlilcmaaGreat
variable {p:PV} {D:aX} {dB hB lB pB gB gf t n k c':Nat} {rows:List (List Int)} {l:List Int}
open Go.RowKit
def OpnFin (w w':World)(base:Nat)(q:bE)(m:Nat)(p:PV)(hash pace:Int)(R:aX × EgV × Int)(g:Nat):Prop :=
 be w' base q R.1/\Step mutE base q w w'/\(R.2.2=0->∃ e,cF w' base q g e m p hash pace R.2.1)
theorem openE_ok {m:Nat}{hash pace:Int}(G:PrgW p m)(h:(fh m p hash pace D).2.2=0):EgOk m p (fh m p hash pace D).2.1:=by
 rw[openE_is] at h ⊢;obtain⟨f1,f2,f3,f4,f5⟩:=qc m p hash (bN D 0 1 0).1;generalize cV m p hash (bN D 0 1 0).1=P at *
 split
 · rename_i q;rw[if_pos q] at h;exact absurd h q
 rename_i q1;rw[if_neg q1] at h
 split
 · rename_i q;rw[if_pos q] at h;exact absurd h q
 rename_i q2;rw[if_neg q2] at h
 split
 · rename_i q;rw[if_pos q] at h;exact absurd h q
 rename_i q3;rw[if_neg q3] at h
 split
 · rename_i q;rw[if_pos q] at h;exact absurd h q
 rename_i q4;have hb:=beginV_ok G f3 f4 (f5 (by simpa using q2)) (by simpa using q3);exact replV_ok G hb
section
variable {w0 w W W':World} {base g m:Nat} {q:bE} {D D':aX} {x:PA} {p:PV} {hash pace:Int} {e:EP} {E:EgV}
theorem opn4_any (h:OpAt w0 W base q g dB hB lB pB gB gf m x p hash D)(hi:∃ e,cF W base q g e m p hash pace E)(hk:E.k.last.cells.length<=100)(G:PrgW p m) :
 Ca 107 #[.pointer (some ⟨g,0,none⟩)] W fun e w'=>e=.returned (I (ix (begV p E)))/\OpAt w0 w' base q g dB hB lB pB gB gf m x p hash D/\∃ e,cF w' base q g e m p hash pace (begV p E):=by
 obtain⟨e0,hi⟩:=hi;have h60:=G.c60;refine (begin_any hi hk aS h.d h.hs).mono ?_;rintro e w' ⟨A,n,c,rfl,S⟩;exact⟨rfl,h.step S.d S.s,_,S.i⟩
theorem opn5_any (h:OpAt w0 W base q g dB hB lB pB gB gf m x p hash D)(hi:∃ e,cF W base q g e m p hash pace E)(ok:EgOk m p E)(G:PrgW p m)(big:11+2 * m<=D.many)(hwt:D.waits.length<700000)(ht0:E.replayed=0) :
 Ca 108 #[.pointer (some ⟨g,0,none⟩)] W fun e w'=>e=.returned (I (eh m p hash pace D E).2.2)/\OpAt w0 w' base q g dB hB lB pB gB gf m x p hash (eh m p hash pace D E).1/\∃ e,cF w' base q g e m p hash pace (eh m p hash pace D E).2.1:=by
 obtain⟨e0,hi⟩:=hi;refine (erepl_any hi ok G h.d h.hs big hwt ht0).mono ?_;rintro e w' ⟨A,n,c,rfl,S⟩;exact⟨rfl,h.step S.d S.s,_,S.i⟩
theorem beginV_k100 (p:PV)(nIn nOut:Nat)(K:KpV):(eR p nIn nOut K).replayed=0:=by
 unfold eR
 split <;> rfl
theorem partsV_k100 (m:Nat)(p:PV)(hash:Int)(D:aX):(cV m p hash D).2.2.2.1.last.cells.length<=100:=by
 unfold cV prt1V
 split
 · exact KpOk.none_.2.2
 unfold prt2V
 split
 · exact KpOk.none_.2.2
 · exact (oH _ 1 5 6 5 p hash).1.2.2
theorem opn_all (A:OpAt w0 W base q g dB hB lB pB gB gf m x p (cw p:Nat) D)(hb:Blk W g 180 (engN none none none none pace))(G:PrgW p m)(hm1:1<=m)(hM:11+m+m<=D.many)(hwt:D.waits.length<600000) :
 Ca 100 #[.slice (some ⟨gf,0,none⟩) 5 5] W fun e w'=>e=.returned (I (fh m p (cw p:Nat) pace D).2.2)/\Blk w' gB 45 [.pointer (some ⟨g,0,none⟩)]/\OpnFin w0 w' base q m p (cw p:Nat) pace (fh m p (cw p:Nat) pace D) g:=by
 have hm2:=G.m2;obtain⟨r1,r2⟩:=aReadV_few D 0 1 0;obtain⟨f1,f2,f3,f4,f5⟩:=qc m p (cw p:Nat) (bN D 0 1 0).1;have f6:=partsV_k100 m p (cw p:Nat) (bN D 0 1 0).1;have hF:=openE_is m p (cw p:Nat) pace D;have c1:=opn1_any A hb;have c2:∀ W,(OpAt w0 W base q g dB hB lB pB gB gf m x p (cw p:Nat) (bN D 0 1 0).1/\Blk W g 180 (engN none none none none pace))->_:=fun W h=>opn2_any h.1 h.2 G.hw G.hv hm1 aS aS
 generalize hh:((cw p:Nat):Int)=H at *;generalize fh m p H pace D=FIN at *;generalize cP D 0 1 0 1=TK at *;generalize (bN D 0 1 0).1=D1 at *;generalize cV m p H D1=P at *;have c3:∀ W,(OpAt w0 W base q g dB hB lB pB gB gf m x p H P.1/\PaOk W base q g m p pace H x P.2.1 P.2.2.1 P.2.2.2.1)->_:=fun W h=>opn3_any h.1 h.2 G.hw G.hv
 have c4:∀ W,(OpAt w0 W base q g dB hB lB pB gB gf m x p H P.1/\∃ e,cF W base q g e m p H pace (egv0 P.2.1 P.2.2.1 P.2.2.2.1))->_:=fun W h=>opn4_any h.1 h.2 f6 G
 have hBe:begV p (egv0 P.2.1 P.2.2.1 P.2.2.2.1)=eR p P.2.1 P.2.2.1 P.2.2.2.1:=rfl;rw[hBe] at c4;have c5:∀ W,P.2.2.2.2=0->ix (eR p P.2.1 P.2.2.1 P.2.2.2.1)=0->(OpAt w0 W base q g dB hB lB pB gB gf m x p H P.1/\∃ e,cF W base q g e m p H pace (eR p P.2.1 P.2.2.1 P.2.2.2.1))->_:=fun W hz hz4 h=>opn5_any h.1 h.2 (beginV_ok G f3 f4 (f5 hz) hz4) G aS aS (beginV_k100 p _ _ _)
 have hfst:=first_opn (p0:=A.bf) (fun W h=>h.1.bf) (fun W h=>h.1.bf) (fun W h=>h.1.bf) (fun W h=>h.1.bf) (R2:=fun W=>OpAt w0 W base q g dB hB lB pB gB gf m x p H P.1/\(P.2.2.2.2=0->PaOk W base q g m p pace H x P.2.1 P.2.2.1 P.2.2.2.1)) c1 (fun _=>c2) (fun _ hz W h=>c3 W ⟨h.1,h.2 hz⟩) (fun _ _ _=>c4) (fun _ hz _ hz4 W=>c5 W hz hz4);refine hfst.mono ?_;generalize eh m p H pace P.1 (eR p P.2.1 P.2.2.1 P.2.2.2.1)=RR at *;intro e w' hp;rcases hp with ⟨n1,rfl,h⟩ | ⟨n1,n2,rfl,h⟩ | ⟨n1,n2,n3,rfl,h⟩ | ⟨n1,n2,n3,n4,rfl,h⟩ | ⟨n1,n2,n3,n4,rfl,h⟩
 · rw[if_pos n1] at hF;rw[hF];exact⟨rfl,h.1.bg,h.1.d,h.1.s,fun e=>absurd e n1⟩
 · rw[if_neg jz,if_pos n2] at hF;rw[hF];exact⟨rfl,h.1.bg,h.1.d,h.1.s,fun e=>absurd e n2⟩
 · exact absurd rfl n3
 · rw[if_neg jz,if_neg (by rw[n2];simp),if_pos n4] at hF;rw[hF];exact⟨rfl,h.1.bg,h.1.d,h.1.s,fun e=>absurd e n4⟩
 · rw[if_neg jz,if_neg (by rw[n2];simp),if_neg (by rw[n4];simp)] at hF
   split at hF
   · rename_i n5;rw[hF];exact⟨rfl,h.1.bg,h.1.d,h.1.s,fun e=>absurd e n5⟩
   · rw[hF];exact⟨rfl,h.1.bg,h.1.d,h.1.s,fun _=>h.2⟩
theorem engopen_any (hd:be w base q D)(hs:base<=w.heap.size)(hp:ej w base x p)(G:PrgW p m)(h13:13<=D.many)(hm:logN (D.many:Nat)=(m:Nat))(hm1:1<=m)(hM:11+m+m<=D.many)(hp1:1<=pace)(hp2:pace<=1024)(hwt:D.waits.length<600000) :
 Ca 25 #[.pointer (some ⟨q.d,0,none⟩),.agg #[.slice x.A1 x.n1 x.c1,.slice x.A2 x.n2 x.c2,I p.regs,.slice x.A3 x.n3 x.c3,.slice x.A4 x.n4 x.c4],I pace] w fun e w'=>∃ g,
  OpnFin w w' base q m p (cw p:Nat) pace (fh m p (cw p:Nat) pace D) g/\e=.returned (.tuple #[.pointer (if (fh m p (cw p:Nat) pace D).2.2=0 then some ⟨g,0,none⟩ else none),I (fh m p (cw p:Nat) pace D).2.2]):=by
 have hb00:Below w.heap.size w (w.alloc (.cells #[.pointer (some ⟨q.d,0,none⟩)] 50)):=(Below.refl _ _).alloc aW _;have hb0:Below w.heap.size w ((w.alloc (.cells #[.pointer (some ⟨q.d,0,none⟩)] 50)).alloc (.cells #[.slice x.A1 x.n1 x.c1,.slice x.A2 x.n2 x.c2,I p.regs,.slice x.A3 x.n3 x.c3,.slice x.A4 x.n4 x.c4] 26)):=hb00.alloc aZ _;have hmay:=may_yes (hd.below hb0) (hp.rd.below (b:=w.heap.size) hb0 aW) G.hw G.hv h13 hm;have d1:decide (pace<1)=false:=aj aS;have d2:decide (1024<pace)=false:=aj aS;have hall:=fun (W:World) (a b c d e f g:Nat) (A:OpAt w W base q g a b c d e f m x p (cw p:Nat) D) (hb:Blk W g 180 (engN none none none none pace))=>opn_all A hb G hm1 hM hwt
 have H0:=aT (And.intro hd hp);have HS:=aT hs;generalize fh m p (cw p:Nat) pace D=FIN at *;generalize cw p=hh at *;clear hp hd hp1 hp2 h13 hm hm1 hM hwt G hs;go_enter Tryz.func25,Tryz.ntmps25;go_upto_region 7 with (first | ((go_at_call 99;(with_reducible refine (hmay).mono ?_);rintro e w2 ⟨rfl,hb2⟩);have B2:=aT (hb0.trans (hb2.mono cR));have B3:=aT hb2;have hsz2:=hb2.size;simp at hsz2) | fail);have BL:Below w2.heap.size w2 (((((w2.alloc (.cells #[I 0,I 1,I 1,I 5,I 6,I 5,I 11,I (m:Nat),I (11+(m:Nat)),I (m:Nat)] 122)).alloc (.cells #[I (hh:Nat)] 3)).alloc (.cells (engN none none none none pace).toArray 180)).alloc (.cells #[.pointer (some ⟨w2.heap.size+2,0,none⟩)] 45)).alloc (.cells (opnL (.pointer (some ⟨w.heap.size,0,none⟩)) (.pointer (some ⟨w.heap.size+1,0,none⟩)) (.pointer (some ⟨w2.heap.size,0,none⟩)) (.pointer (some ⟨w2.heap.size+1,0,none⟩)) (.pointer (some ⟨w2.heap.size+3,0,none⟩)) (.pointer (some ⟨w2.heap.size+2,0,none⟩))).toArray 61)):=(((((Below.refl _ _).alloc aW _).alloc aZ _).alloc cR _).alloc cR _).alloc cR _;have A4:=aT (show OpAt w (((((w2.alloc (.cells #[I 0,I 1,I 1,I 5,I 6,I 5,I 11,I (m:Nat),I (11+(m:Nat)),I (m:Nat)] 122)).alloc (.cells #[I (hh:Nat)] 3)).alloc (.cells (engN none none none none pace).toArray 180)).alloc (.cells #[.pointer (some ⟨w2.heap.size+2,0,none⟩)] 45)).alloc (.cells (opnL (.pointer (some ⟨w.heap.size,0,none⟩)) (.pointer (some ⟨w.heap.size+1,0,none⟩)) (.pointer (some ⟨w2.heap.size,0,none⟩)) (.pointer (some ⟨w2.heap.size+1,0,none⟩)) (.pointer (some ⟨w2.heap.size+3,0,none⟩)) (.pointer (some ⟨w2.heap.size+2,0,none⟩))).toArray 61)) base q (w2.heap.size+2) w.heap.size (w2.heap.size+1) w2.heap.size (w.heap.size+1) (w2.heap.size+3) (w2.heap.size+4) m x p (hh:Nat) D/\Blk (((((w2.alloc (.cells #[I 0,I 1,I 1,I 5,I 6,I 5,I 11,I (m:Nat),I (11+(m:Nat)),I (m:Nat)] 122)).alloc (.cells #[I (hh:Nat)] 3)).alloc (.cells (engN none none none none pace).toArray 180)).alloc (.cells #[.pointer (some ⟨w2.heap.size+2,0,none⟩)] 45)).alloc (.cells (opnL (.pointer (some ⟨w.heap.size,0,none⟩)) (.pointer (some ⟨w.heap.size+1,0,none⟩)) (.pointer (some ⟨w2.heap.size,0,none⟩)) (.pointer (some ⟨w2.heap.size+1,0,none⟩)) (.pointer (some ⟨w2.heap.size+3,0,none⟩)) (.pointer (some ⟨w2.heap.size+2,0,none⟩))).toArray 61)) (w2.heap.size+2) 180 (engN none none none none pace) from by
  have BW:=B2.out.trans (BL.mono aS);have X0:=Blk.below ((Blk.top w rfl rfl).alloc _) B3.out cR;have X1:Blk w2 (w.heap.size+1) 26 (progC x p):=Blk.below (Blk.top _ aZ rfl) B3.out aZ;refine⟨⟨H0.out.1.below BW,by have:=HS.out;omega,Blk.below X0 BL X0.lt,?_,?_,Blk.below X1 BL X1.lt,?_,Blk.top _ aZ rfl,H0.out.2.below BW,Step.of_below BW HS.out,HS.out⟩,?_⟩
  · exact ((Blk.top _ aZ rfl).alloc _ |>.alloc _ |>.alloc _)
  · exact ((Blk.top _ aZ rfl).alloc _ |>.alloc _ |>.alloc _ |>.alloc _)
  · exact ((Blk.top _ aZ rfl).alloc _)
  · exact ((Blk.top _ aZ rfl).alloc _ |>.alloc _))
 have hfin:=hall _ _ _ _ _ _ _ _ A4.out.1 A4.out.2;clear hall hmay A4 BL B2 B3 H0 HS hb0 hb00
 by_cases hz:FIN.2.2=0
 · have dz:decide (FIN.2.2≠0)=false:=aj (by simp[hz]);have dz2:(FIN.2.2 != 0)=false:=by rw[hz];rfl
   have HZ:=aT hz;clear hz;go_wp2_with (first | (go_at_call 100;refine hfin.mono ?_;rintro e w5 ⟨rfl,hbg,hpost⟩;have HP:=aT hpost;clear hpost;have cg:=hbg.c0) | fail);go_ret2
   first | exact⟨w2.heap.size+2,HP.out,rfl⟩ | exact⟨⟨w2.heap.size+2,HP.out⟩,rfl⟩
 · have dz:decide (FIN.2.2≠0)=true:=am hz;have dz2:(FIN.2.2 != 0)=true:=by rw[ag];exact hz
   have HZ:=aT hz;clear hz;go_wp2_with (first | (go_at_call 100;refine hfin.mono ?_;rintro e w5 ⟨rfl,hbg,hpost⟩;have HP:=aT hpost;clear hpost;have cg:=hbg.c0) | fail);go_ret2
   first | exact⟨w2.heap.size+2,HP.out,rfl⟩ | exact⟨⟨w2.heap.size+2,HP.out⟩,rfl⟩
end
theorem rowAt_app {more:List (List Int)}(h:t<rows.length):fQ (rows ++ more) t=fQ rows t:=by
 unfold fQ;rw[ah,ah,aR h]
theorem kx (more:List (List Int)):∀ t,t<=rows.length->de p (rows ++ more) t=de p rows t:=by
 intro t
 induction t with
 | zero=>intro _;rfl
 | succ t ih=>
   intro h;unfold de;rw[ih aS,rowAt_app aS]
theorem gaveV_app (more:List (List Int))(h:t<rows.length):dH p (rows ++ more) t=dH p rows t:=by
 unfold dH;rw[kx more t aS,rowAt_app h]
theorem mP (more:List (List Int))(h:n<=rows.length):cq p (rows ++ more) n=cq p rows n:=by
 unfold cq;refine List.map_congr_left (fun t ht=>gaveV_app more ?_);rw[List.mem_range] at ht;omega
theorem iN (p:PV)(rows:List (List Int))(n:Nat):(cq p rows n).length=n:=by simp[cq]
theorem outsV_get (p:PV)(rows:List (List Int))(h:t<n):(cq p rows n)[t]?=some (dH p rows t):=by
 unfold cq;rw[List.getElem?_map,List.getElem?_range h]
 rfl
theorem mQ (p:PV)(rows:List (List Int))(h:k<=n):(cq p rows n).take k=cq p rows k:=by
 unfold cq;rw[<- List.map_take,List.take_range,Nat.min_eq_left h]
theorem outsV_split (p:PV)(rows:List (List Int))(h:k<=n):cq p rows n=cq p rows k ++ (cq p rows n).drop k:=by
 rw[<- mQ p rows h,List.take_append_drop]
theorem oK (h:eN l):∀ z ∈ l,In64 z:=fun z hz=>by
 obtain⟨i,hi,rfl⟩:=List.getElem_of_mem hz;have:=h i hi;unfold bj at this
 rwa [ah,ap hi] at this
theorem mem_intok (h:∀ z ∈ l,In64 z):eN l:=fun i hi=>by
 have:=h _ (List.getElem_mem hi);unfold bj;rw[ah,ap hi];exact this
theorem mR (h:t<rows.length):rows[t]?=some (fQ rows t)/\fQ rows t ∈ rows:=by
 unfold fQ;rw[ah,ap h];exact⟨rfl,List.getElem_mem h⟩
structure Prg (p:PV)(H m:Nat)(pace:Int):Prop where
 hv:dF p=true
 hw:eO p
 h63:H<9223372036854775808
 m1:1<=m
 m2:m<=1024
 pc:1<=pace
section
variable {p:PV} {H m c:Nat} {pace:Int}
theorem Prg.may (G:Prg p H m pace):mayB p=true:=(jK G.hv).1
theorem Prg.ins (G:Prg p H m pace):da p.ins=true:=(dV.1 G.may).1
theorem Prg.outs (G:Prg p H m pace):da p.outs=true:=(dV.1 G.may).2.1
theorem oL (G:Prg p H m pace)(hR:dN p.ins rows):∀ t,t<=rows.length->ia p (de p rows t)=true/\∀ z ∈ de p rows t,In64 z:=by
 intro t
 induction t with
 | zero=>intro _;exact pO G.may G.hw
 | succ t ih=>
   intro h;obtain⟨i1,i2⟩:=ih aS;obtain⟨_,m2⟩:=mR (show t<rows.length by omega);obtain⟨_,b,_,d,_⟩:=mC G.hv G.hw i1 (hR.fits _ m2) i2 (oK (hR.ints _ m2));exact⟨b,d⟩
theorem gave_fits (G:Prg p H m pace)(hR:dN p.ins rows)(h:t<rows.length):(eQ p (de p rows t) (fQ rows t)).2.2.2=0/\cx p.outs (dH p rows t)=true/\eN (dH p rows t):=by
 obtain⟨i1,i2⟩:=oL G hR t aS;obtain⟨_,m2⟩:=mR h;obtain⟨a,_,b,_,d⟩:=mC G.hv G.hw i1 (hR.fits _ m2) i2 (oK (hR.ints _ m2));exact⟨a,b,mem_intok d⟩
theorem outs_ok (G:Prg p H m pace)(hR:dN p.ins rows)(h:n<=rows.length):dN p.outs (cq p rows n):=by
 have key:∀ x ∈ cq p rows n,cx p.outs x=true/\eN x:=fun x hx=>by
  unfold cq at hx;rw[List.mem_map] at hx;obtain⟨t,ht,rfl⟩:=hx;rw[List.mem_range] at ht;exact (gave_fits G hR (show t<rows.length by omega)).2
 exact⟨fun x hx=>(key x hx).1,fun x hx=>(key x hx).2⟩
end
def dE (n:Nat)(last:Int):Int:=if n=0 then 0 else last
def gd (m kS:Nat)(alls:List (List UInt8))(N:Secs):Says:=fun s S=>if 11+m<=s/\s<11+2 * m then SecA 4 kS alls (s - (11+m)) S else S=N s
structure Mid (p:PV)(H m c:Nat)(D:aX)(E:EgV)(rows:List (List Int))(N:Secs)(kS:Nat)(s:SlV3)(n:Nat)(last:Int)(is:List Int):Prop where
 pow:Pow D N (gd m kS (cG p.outs (cq p rows rows.length)) N)
 big:11+2 * m<=D.many
 wl:D.waits.length+kS<=E.nOut
 root:N 0=bU 1 H []
 feed:Jrn N 11 m 3 (cG p.ins rows)
 rok:dN p.ins rows
 sink:Jrn N (11+m) m 4 (cG p.outs (cq p rows E.nOut))
 kp:KpN p (H:Int) N s n last is
 kc:0<n->is=de p rows last.toNat/\0<=last/\last<=(kS:Int)
 nc:n<=c
 ek:E.k=kOf (H:Int) s n last is
 nin:E.nIn=rows.length
 no:E.nOut<=rows.length
 t0:0<=E.tick
 t1:E.tick<=(E.nOut:Int)
 ce:E.cells=de p rows E.tick.toNat
 p0:0<=E.passed
 p1:E.passed<=E.tick
 ts:E.tick<=dE n last+E.passed
 sl:dE n last<=E.tick
 off:E.off=false
 put:E.put=false->D.waits=[]
structure Good (p:PV)(H m c:Nat)(pace:Int)(k:Nat)(all:List (List Int))(ran:Int)(N:Secs):Prop where
 root:N 0=bU 1 H []
 rok:dN p.ins all
 le:k<=all.length
 fit:all.length<=m
 feed:∀ n,n<m->SecJ 3 k (cG p.ins all) n (N (11+n))
 rest:∃ kS s n last is,kS<=k/\(∀ n,n<m->SecJ 4 kS (cG p.outs (cq p all k)) n (N (11+m+n)))/\KpN p (H:Int) N s n last is/\n<=c /\
  (0<n->is=de p all last.toNat/\0<=last/\last<=(kS:Int))/\ran<=dE n last+pace
def May (D:aX)(G:Secs->Prop):Prop:=∃ P,Safe D P/\∀ N':Secs,(∀ s:Nat,s<D.many->P s (N' s))->G N'
theorem May.crash {G:Secs->Prop}(h:May D G)(cs:List UInt8):∃ N,Rest (fP D cs) N/\G N/\(fP D cs).cut=-1/\(fP D cs).many=D.many:=by
 obtain⟨P,hs,hG⟩:=h;obtain⟨a,b,d,e⟩:=hs.crash cs;exact⟨_,a,hG _ e,b,d⟩
theorem May.mono {G G':Secs->Prop}(h:May D G)(hG:∀ N,G N->G' N):May D G':=by
 obtain⟨P,hs,h2⟩:=h;exact⟨P,hs,fun N' q=>hG N' (h2 N' q)⟩
section
variable {p:PV} {H m c:Nat} {pace ran:Int} {D D':aX} {E:EgV} {rows:List (List Int)} {N N':Secs} {kS:Nat} {s:SlV3} {n:Nat} {last:Int} {is:List Int}
theorem Mid.rows_le (h:Mid p H m c D E rows N kS s n last is):rows.length<=m:=by
 have:=h.feed.le
 rwa [fK] at this
theorem Mid.ksle (h:Mid p H m c D E rows N kS s n last is):kS<=E.nOut:=by have:=h.wl;omega
theorem Mid.good (h:Mid p H m c D E rows N kS s n last is)(hs:Safe D' (gd m kS (cG p.outs (cq p rows rows.length)) N))(hm:D'.many=D.many)(hr:ran<=dE n last+pace):May D' (Good p H m c pace rows.length rows ran):=by
 refine⟨_,hs,fun N' hN=>?_⟩;have hbig:=h.big;have hks:=h.ksle;have hno:=h.no;have hout:∀ j:Nat,j<11+m->N' j=N j:=fun j hj=>by
  have:=hN j aS;unfold gd at this
  rwa [if_neg aS] at this
 refine⟨by rw[hout 0 aS];exact h.root,h.rok,Nat.le_refl _,h.rows_le,fun j hj=>?_,kS,s,n,last,is,aS,fun j hj=>?_,h.kp.congr (fun j j1 j2=>hout j aS),h.nc,h.kc,hr⟩
 · rw[hout (11+j) aS];have:=(h.feed.secA (more:=[]) hj).j
   rwa [List.append_nil,fK] at this
 · have:=hN (11+m+j) aS;unfold gd at this;rw[if_pos aS,show 11+m+j - (11+m)=j by omega] at this;exact this.j
theorem mS (p:PV)(rows:List (List Int))(h:k<=rows.length):cG p.outs (cq p rows rows.length)=cG p.outs (cq p rows k) ++ cG p.outs ((cq p rows rows.length).drop k):=by
 conv=>lhs;rw[outsV_split p rows h]
 unfold cG;rw[List.map_append]
theorem Mid.rest (h:Mid p H m c D E rows N kS s n last is)(hr:Rest D' N)(hm:D'.many=D.many):Mid p H m c D' { E with put:=false } rows N E.nOut s n last is:=by
 have hks:=h.ksle;refine⟨hr.pow (fun j hj=>?_),by rw[hm];exact h.big,by rw[hr.waits];simp,h.root,h.feed,h.rok,h.sink,h.kp,fun q=>⟨(h.kc q).1,(h.kc q).2.1,by have:=(h.kc q).2.2;omega⟩,h.nc,h.ek,h.nin,h.no,h.t0,h.t1,h.ce,h.p0,h.p1,h.ts,h.sl,h.off,fun _=>hr.waits⟩;unfold gd
 split
 · rename_i q;have:=h.sink.secA (more:=cG p.outs ((cq p rows rows.length).drop E.nOut)) (n:=j - (11+m)) aS;rw[<- mS p rows h.no,fK,iN,show 11+m+(j - (11+m))=j by omega] at this;exact this
 · rfl
theorem Mid.isRest (h:Mid p H m c D E rows N kS s n last is)(hw:D.waits=[]):Rest D N:=Rest.of_pow h.pow hw
end
def Went (D D':aX)(G:Secs->Prop):Prop:=D'.off=true/\D.cut≠-1/\D'.many=D.many/\May D' G
section
variable {p:PV} {H m c:Nat} {pace ran:Int} {D D':aX} {E:EgV} {rows:List (List Int)} {N N':Secs} {kS:Nat} {s:SlV3} {n:Nat} {last:Int} {is:List Int}
theorem Went.mono {G G':Secs->Prop}(h:Went D D' G)(hG:∀ N,G N->G' N):Went D D' G':=⟨h.1,h.2.1,h.2.2.1,h.2.2.2.mono hG⟩
theorem Went.trans {D1:aX}{G:Secs->Prop}(h:Went D1 D' G)(hc:D.cut=-1->D1.cut=-1)(hm:D1.many=D.many):Went D D' G:=⟨h.1,fun q=>h.2.1 (hc q),h.2.2.1.trans hm,h.2.2.2⟩
theorem Mid.stay (h:Mid p H m c D E rows N kS s n last is)(o:List Int)(ht:E.tick<(E.nOut:Int))(hr:dE n last<=E.tick) :
 Mid p H m c { D with ops:=o } { E with put:=E.put || false,tick:=E.tick+1,cells:=de p rows (E.tick+1).toNat,passed:=E.passed+1 } rows N kS s n last is:=by
 refine⟨h.pow.ops o,h.big,h.wl,h.root,h.feed,h.rok,h.sink,h.kp,h.kc,h.nc,h.ek,h.nin,h.no,?_,?_,rfl,?_,?_,?_,?_,h.off,fun q=>h.put ?_⟩
 · show 0<=E.tick+1;have:=h.t0;omega
 · show E.tick+1<=(E.nOut:Int);omega
 · show 0<=E.passed+1;have:=h.p0;omega
 · show E.passed+1<=E.tick+1;have:=h.p1;omega
 · show E.tick+1<=dE n last+(E.passed+1);have:=h.ts;omega
 · show dE n last<=E.tick+1;omega
 · simpa using q
theorem Mid.one (G:Prg p H m pace)(h:Mid p H m c D E rows N kS s n last is)(ht:E.tick<(rows.length:Int))(hr:ran<=dE n last+pace) :
 ((bL m p D E).2.2=0/\(∃ N',Mid p H m c (bL m p D E).1 (bL m p D E).2.1 rows N' kS s n last is)/\(bL m p D E).2.1.tick=E.tick+1/\(bL m p D E).2.1.passed=E.passed+1/\(bL m p D E).2.1.replayed=E.replayed/\(bL m p D E).1.many=D.many/\(D.cut=-1->(bL m p D E).1.cut=-1)) \/
 ((bL m p D E).2.2=50/\(bL m p D E).2.1.tick=E.tick/\Went D (bL m p D E).1 (Good p H m c pace rows.length rows ran)):=by
 obtain⟨t,hte⟩:∃ t:Nat,E.tick=(t:Int):=⟨E.tick.toNat,by have:=h.t0;omega⟩;have ht':t<rows.length:=aS;obtain⟨r1,r2⟩:=mR ht';obtain⟨g1,g2,g3⟩:=gave_fits G h.rok ht';have hbig:=h.big;have hm2:=G.m2;have hget:dm D 11 m 3 E.nIn p.ins E.tick=(dZ D,fQ rows t,0):=by
  rw[h.nin,hte];exact my (D:=D) (N:=N) (f:=11) (m:=m) (kind:=3) h.pow.fit.off h.pow.now h.rok h.feed aS aS aS aS r1
 have hce:E.cells=de p rows t:=by rw[h.ce,hte,ax]
 have hout:(eQ p (de p rows t) (fQ rows t)).2.1=dH p rows t:=rfl;have hnext:(eQ p (de p rows t) (fQ rows t)).1=de p rows (t+1):=rfl;have hone:bL m p D E=gQ E (eQ p (de p rows t) (fQ rows t)) (ff (dZ D) (11+m) m 4 E.nOut p.outs (t:Int) (dH p rows t)):=by
  unfold bL;rw[hget];unfold iJ;rw[if_neg aZ];unfold eOneB;simp only;rw[hce,if_neg (by rw[g1];simp),hout,hte]
 rw[hone];generalize eQ p (de p rows t) (fQ rows t)=T at *;have hput:ff (dZ D) (11+m) m 4 E.nOut p.outs (t:Int) (dH p rows t)=if (t:Int)<0\/(E.nOut:Int)<t then (dZ D,E.nOut,false,2)
  else if cx p.outs (dH p rows t)=false then (dZ D,E.nOut,false,41)
  else if (t:Int)<(E.nOut:Int) then (dZ D,E.nOut,false,0)
  else if (cO (dZ D) (11+m) m 4 E.nOut (rowB p.outs (dH p rows t) p.outs.length)).2.2.2≠0 then ((cO (dZ D) (11+m) m 4 E.nOut (rowB p.outs (dH p rows t) p.outs.length)).1,(cO (dZ D) (11+m) m 4 E.nOut (rowB p.outs (dH p rows t) p.outs.length)).2.1,false,(cO (dZ D) (11+m) m 4 E.nOut (rowB p.outs (dH p rows t) p.outs.length)).2.2.2)
  else ((cO (dZ D) (11+m) m 4 E.nOut (rowB p.outs (dH p rows t) p.outs.length)).1,(cO (dZ D) (11+m) m 4 E.nOut (rowB p.outs (dH p rows t) p.outs.length)).2.1,true,0):=rfl
 have ht1:=h.t1;rw[if_neg aS,if_neg (by rw[g2];simp)] at hput
 by_cases hlt:(t:Int)<(E.nOut:Int)
 · rw[if_pos hlt] at hput;rw[hput]
   left
   unfold gQ;rw[if_neg aZ];refine⟨rfl,⟨N,?_⟩,rfl,rfl,rfl,rfl,fun q=>q⟩;have hS:=h.stay (mAdd D.ops 1 1) (by rw[hte];exact hlt) h.sl;have e1:de p rows (E.tick+1).toNat=T.1:=by rw[hnext,hte];congr 1
   rw[e1] at hS;exact hS
 · rw[if_neg hlt] at hput;have hno:E.nOut=t:=aS;have hks:=h.ksle;have hrl:=h.rows_le;have halls:(cG p.outs (cq p rows rows.length))[t]?=some (rowB p.outs (dH p rows t) p.outs.length):=n9 (outsV_get p rows ht');have hl113:(rowB p.outs (dH p rows t) p.outs.length).length<=113:=by have:=mw G.outs (dH p rows t);omega
   have hp':Pow (dZ D) N (gd m kS (cG p.outs (cq p rows rows.length)) N):=h.pow.ops _;have hwl:=h.wl;obtain⟨a1,a2,a3⟩:=hp'.jadd (f:=11+m) (m:=m) (kind:=4) (k:=t) (l:=rowB p.outs (dH p rows t) p.outs.length) (by show 11+m+m<=D.many;omega) aS aS aS hl113 (by show D.waits.length<1000000;omega) (by
    have:=SecA.sealed (kind:=4) (k:=kS) (n:=t) aS halls hl113;intro S cc hc hS hP;unfold gd at hP ⊢;rw[if_pos aS,show 11+m+t - (11+m)=t by omega] at hP ⊢;exact this S cc hc hS hP)
   rw[hno] at hput;rcases a3 with ⟨b1,b2,b3⟩ | ⟨b1,b2,b3,b4⟩
   · rw[if_neg (by rw[show (4:Int)=((4:Nat):Int) from rfl,b1];simp)] at hput;rw[show (4:Int)=((4:Nat):Int) from rfl,b1] at hput;have hsink:=h.sink.put (by rw[fK,iN];omega) (l:=rowB p.outs (dH p rows t) p.outs.length) hl113;rw[fK,iN,hno,<- od,og] at hsink;generalize cO (dZ D) (11+m) m ((4:Nat):Int) t (rowB p.outs (dH p rows t) p.outs.length)=R at *;rw[show (4:Int)=((4:Nat):Int) from rfl,hno,hput]
     left
     unfold gQ;rw[if_neg aZ];refine⟨rfl,⟨putN N (11+m+t) (bU 4 t (rowB p.outs (dH p rows t) p.outs.length)),?_⟩,by simp[hte],rfl,rfl,a1,b3⟩;have hother:∀ j:Nat,j<11+m->putN N (11+m+t) (bU 4 t (rowB p.outs (dH p rows t) p.outs.length)) j=N j:=fun j hj=>by unfold putN;rw[if_neg aS]
     refine⟨?_,by rw[a1];exact hbig,?_,by rw[hother 0 aS];exact h.root,h.feed.congr (fun j hj=>hother _ aS),h.rok,hsink,h.kp.congr (fun j j1 j2=>hother j aS),h.kc,h.nc,h.ek,h.nin,?_,?_,?_,?_,?_,?_,?_,?_,h.off,fun q=>?_⟩
     · have e:gd m kS (cG p.outs (cq p rows rows.length)) (putN N (11+m+t) (bU 4 t (rowB p.outs (dH p rows t) p.outs.length)))=gd m kS (cG p.outs (cq p rows rows.length)) N:=by
        funext j S
        unfold gd putN
        by_cases q:11+m<=j/\j<11+2 * m
        · rw[if_pos q,if_pos q]
        · rw[if_neg q,if_neg q,if_neg aS]
       rw[e];exact b2
     · show R.1.waits.length+kS<=t+1
       rw[a2,aw,aJ]
       show D.waits.length+1+kS<=t+1
       omega
     · show t+1<=rows.length;omega
     · show 0<=E.tick+1;have:=h.t0;omega
     · show E.tick+1<=((t+1:Nat):Int);omega
     · show T.1=de p rows (E.tick+1).toNat
       rw[hnext,hte];congr 1
     · show 0<=E.passed+1;have:=h.p0;omega
     · show E.passed+1<=E.tick+1;have:=h.p1;omega
     · show E.tick+1<=dE n last+(E.passed+1);have:=h.ts;omega
     · show dE n last<=E.tick+1;have:=h.sl;omega
     · have q:(E.put || true)=false:=q;simp at q
   · rw[if_pos (by rw[show (4:Int)=((4:Nat):Int) from rfl,b1];simp)] at hput;rw[show (4:Int)=((4:Nat):Int) from rfl] at hput;rw[show (4:Int)=((4:Nat):Int) from rfl,hno,hput,b1]
     right
     unfold gQ;rw[if_pos aZ];exact⟨rfl,rfl,b2,b3,a1,h.good b4 a1 hr⟩
theorem Mid.flush (h:Mid p H m c D E rows N kS s n last is)(hr:ran<=dE n last+pace) :
 ((cU D E).2.2=0/\Mid p H m c (cU D E).1 (cU D E).2.1 rows N E.nOut s n last is/\(cU D E).2.1={ E with put:=false }/\(cU D E).1.waits=[]/\(cU D E).1.many=D.many/\(D.cut=-1->(cU D E).1.cut=-1)) \/
 ((cU D E).2.2=50/\(cU D E).2.1.tick=E.tick/\Went D (cU D E).1 (Good p H m c pace rows.length rows ran)):=by
 unfold cU
 by_cases hp:E.put=false
 · rw[if_pos hp];have hw:=h.put hp;have e:({ E with put:=false }:EgV)=E:=by cases E;simp only at hp;subst hp;rfl
   have:=h.rest (h.isRest hw) rfl;rw[e] at this;exact .inl ⟨rfl,this,e.symm,hw,rfl,fun q=>q⟩
 · rw[if_neg hp];obtain⟨a1,a2⟩:=h.pow.flush;unfold lL;rcases a2 with ⟨b1,b2,b3⟩ | ⟨b1,b2,b3,b4⟩
   · rw[b1];exact .inl ⟨rfl,h.rest b2 a1,rfl,b2.waits,a1,b3⟩
   · rw[b1];exact .inr ⟨rfl,rfl,b2,b3,a1,h.good b4 a1 hr⟩
theorem stfits_of (G:Prg p H m pace)(hR:dN p.ins rows)(ht:t<=rows.length)(hm:rows.length<=m):fd p ⟨(t:Int),(H:Int),de p rows t⟩=true/\mc ⟨(t:Int),(H:Int),de p rows t⟩:=by
 obtain⟨i1,i2⟩:=oL G hR t ht;obtain⟨c1,c2⟩:=iV.1 i1;have:=G.m2;have:=G.h63;refine⟨jF.2 ⟨G.may,by show (0:Int)<=t;omega,by show (0:Int)<=H;omega,c1,c2⟩,?_,?_,i2⟩
 · show I64 (t:Int);unfold I64;omega
 · show I64 (H:Int);unfold I64;omega
theorem Mid.save (G:Prg p H m pace)(h:Mid p H m c D E rows N kS s n last is)(hc:c<9000000000000000000)(hr:ran<=dE n last+pace)(hr2:ran<=E.tick+pace) :
 ((dr p (H:Int) D E).2.2=0/\(∃ N' s',Mid p H m (c+1) (dr p (H:Int) D E).1 (dr p (H:Int) D E).2.1 rows N' E.nOut s' (n+1) E.tick E.cells)/\(∃ k',(dr p (H:Int) D E).2.1={ E with put:=false,passed:=0,k:=k' })/\(dr p (H:Int) D E).1.waits=[]/\(dr p (H:Int) D E).1.many=D.many/\(D.cut=-1->(dr p (H:Int) D E).1.cut=-1)) \/
 ((dr p (H:Int) D E).2.2=50/\(dr p (H:Int) D E).2.1.tick=E.tick/\Went D (dr p (H:Int) D E).1 (Good p H m (c+1) pace rows.length rows ran)):=by
 have gm:∀ N,Good p H m c pace rows.length rows ran N->Good p H m (c+1) pace rows.length rows ran N:=fun N g=>by
  obtain⟨kS,s,n,last,is,r1,r2,r3,r4,r5⟩:=g.rest;exact⟨g.root,g.rok,g.le,g.fit,g.feed,kS,s,n,last,is,r1,r2,r3,aS,r5⟩
 unfold dr;obtain⟨a1,a2⟩:=h.pow.flush;unfold iX;rcases a2 with ⟨b1,b2,b3⟩ | ⟨b1,b2,b3,b4⟩;rotate_left 1
 · rw[if_pos iQ];exact .inr ⟨b1,rfl,b2,b3,a1,(h.good b4 a1 hr).mono gm⟩
 rw[if_neg iQ];have h1:=h.rest b2 a1;generalize (bH D).1=D1 at *;obtain⟨t,hte⟩:∃ t:Nat,E.tick=(t:Int):=⟨E.tick.toNat,by have:=h.t0;omega⟩;have hce:E.cells=de p rows t:=by rw[h.ce,hte,ax]
 have htr:t<=rows.length:=by have:=h.t1;have:=h.no;omega
 obtain⟨f1,f2⟩:=stfits_of G h.rok htr h.rows_le;rw[<- hce,<- hte] at f1 f2;have hbig:=h1.big;have hP:∀ j:Nat,j<D1.many->¬ (1<=j/\j<11)->gd m E.nOut (cG p.outs (cq p rows rows.length)) N j (N j):=fun j hj _=>by
  have:=h1.pow.kept j hj;have e:=(b2.pow (P:=fun j S=>S=N j) (fun _ _=>rfl)).kept j hj
  rwa [e] at this
 have hks:=h.ksle;have hnc:=h.nc;obtain⟨c1,c2⟩:=h.kp.saved b2 aS hP aS E.k (by rw[h.ek];rfl) f2 f1;generalize eM D1 1 5 6 5 p (H:Int) E.k E.tick E.cells=K at *;unfold iW;simp only at c1 c2 ⊢;have kc':0<n+1->E.cells=de p rows E.tick.toNat/\0<=E.tick/\E.tick<=(E.nOut:Int):=fun _=>⟨h.ce,h.t0,h.t1⟩
 rcases c2 with ⟨d1,d2,N',s',d3,d4,d5,d6⟩ | ⟨d1,d2,d3,Q,d4,d5⟩
 · rw[if_neg jA]
   left
   have hm':=c1;have e1:=h1;have hN:∀ j:Nat,11<=j->N' j=N j:=fun j hj=>d6 j aS
   refine⟨rfl,⟨N',s',?_⟩,⟨_,rfl⟩,d4.waits,c1.trans a1,fun q=>d2 (b3 q)⟩;have hs2:=h.sink.congr (fun j hj=>hN _ aS);refine⟨d4.pow (fun j hj=>?_),by rw[c1];exact hbig,by rw[d4.waits];simp,by rw[d6 0 aS];exact h.root,h.feed.congr (fun j hj=>hN _ aS),h.rok,hs2,d5,kc',aS,d3,h.nin,h.no,h.t0,h.t1,h.ce,Int.le_refl _,h.t0,?_,?_,h.off,fun _=>d4.waits⟩
   · unfold gd
     split
     · rename_i q;have:=hs2.secA (more:=cG p.outs ((cq p rows rows.length).drop E.nOut)) (n:=j - (11+m)) aS;rw[<- mS p rows h.no,fK,iN,show 11+m+(j - (11+m))=j by omega] at this;exact this
     · rfl
   · show E.tick<=dE (n+1) E.tick+0
     unfold dE;rw[if_neg aS];omega
   · show dE (n+1) E.tick<=E.tick
     unfold dE;rw[if_neg aS];omega
 · rw[if_pos jA]
   right
   refine⟨d1,rfl,d2,fun q=>d3 (b3 q),c1.trans a1,_,d4,fun N' hN=>?_⟩;have hbig2:11+2 * m<=K.1.many:=by rw[c1];exact hbig
   have hno:=h.no;have ho:∀ j:Nat,j<K.1.many->¬ (1<=j/\j<11)->gd m E.nOut (cG p.outs (cq p rows rows.length)) N j (N' j):=fun j hj q=>by
    have:=hN j hj
    rwa [ms q] at this
   have hout:∀ j:Nat,j<11+m->¬ (1<=j/\j<11)->N' j=N j:=fun j hj q=>by
    have:=ho j aS q;unfold gd at this
    rwa [if_neg aS] at this
   have hsec:∀ j,j<m->SecJ 4 E.nOut (cG p.outs (cq p rows rows.length)) j (N' (11+m+j)):=fun j hj=>by
    have:=ho (11+m+j) aS aS;unfold gd at this;rw[if_pos aS,show 11+m+j - (11+m)=j by omega] at this;exact this.j
   refine⟨by rw[hout 0 aS aS];exact h.root,h.rok,Nat.le_refl _,h.rows_le,fun j hj=>?_,?_⟩
   · rw[hout (11+j) aS aS];have:=(h.feed.secA (more:=[]) hj).j
     rwa [List.append_nil,fK] at this
   · rcases d5 N' (fun j j1 j2=>by have:=hN j (show j<K.1.many by omega);rwa [kg ⟨j1,j2⟩] at this) with q | ⟨s',q⟩
     · exact⟨E.nOut,s,n,last,is,hno,hsec,q,aS,fun e=>⟨(h.kc e).1,(h.kc e).2.1,by have:=(h.kc e).2.2;omega⟩,hr⟩
     · exact⟨E.nOut,s',n+1,E.tick,E.cells,hno,hsec,q,aS,kc',by unfold dE;rw[if_neg aS];exact hr2⟩
end
section
variable {p:PV} {H m c:Nat} {pace ran:Int} {D D':aX} {E:EgV} {rows:List (List Int)} {N N':Secs} {kS:Nat} {s:SlV3} {n:Nat} {last:Int} {is:List Int}
theorem Good.mono {all:List (List Int)}(h:Good p H m c pace k all ran N)(hc:c<=c'):Good p H m c' pace k all ran N:=by
 obtain⟨kS,s,n,last,is,r1,r2,r3,r4,r5⟩:=h.rest;exact⟨h.root,h.rok,h.le,h.fit,h.feed,kS,s,n,last,is,r1,r2,r3,aS,r5⟩
theorem Mid.more (h:Mid p H m c D E rows N kS s n last is)(hc:c<=c'):Mid p H m c' D E rows N kS s n last is :=
 ⟨h.pow,h.big,h.wl,h.root,h.feed,h.rok,h.sink,h.kp,h.kc,ae h.nc hc,h.ek,h.nin,h.no,h.t0,h.t1,h.ce,h.p0,h.p1,h.ts,h.sl,h.off,h.put⟩
theorem Mid.repTo (h:Mid p H m c D E rows N kS s n last is)(r:Int):Mid p H m c D { E with replayed:=r } rows N kS s n last is :=
 ⟨h.pow,h.big,h.wl,h.root,h.feed,h.rok,h.sink,h.kp,h.kc,h.nc,h.ek,h.nin,h.no,h.t0,h.t1,h.ce,h.p0,h.p1,h.ts,h.sl,h.off,h.put⟩
theorem Mid.ofRest (hr:Rest D N)(big:11+2 * m<=D.many)(root:N 0=bU 1 H [])(feed:Jrn N 11 m 3 (cG p.ins rows))(rok:dN p.ins rows)(sink:Jrn N (11+m) m 4 (cG p.outs (cq p rows E.nOut)))(kp:KpN p (H:Int) N s n last is)
 (kc:0<n->is=de p rows last.toNat/\0<=last/\last<=(E.nOut:Int)) (nc:n<=c) (ek:E.k=kOf (H:Int) s n last is) (nin:E.nIn=rows.length) (no:E.nOut<=rows.length) (t0:0<=E.tick) (t1:E.tick<=(E.nOut:Int)) (ce:E.cells=de p rows E.tick.toNat)
 (p0:0<=E.passed) (p1:E.passed<=E.tick) (ts:E.tick<=dE n last+E.passed) (sl:dE n last<=E.tick) (off:E.off=false):Mid p H m c D E rows N E.nOut s n last is:=by
 refine⟨hr.pow (fun j hj=>?_),big,by rw[hr.waits];simp,root,feed,rok,sink,kp,kc,nc,ek,nin,no,t0,t1,ce,p0,p1,ts,sl,off,fun _=>hr.waits⟩;unfold gd
 split
 · rename_i q;have:=sink.secA (more:=cG p.outs ((cq p rows rows.length).drop E.nOut)) (n:=j - (11+m)) aS;rw[<- mS p rows no,fK,iN,show 11+m+(j - (11+m))=j by omega] at this;exact this
 · rfl
theorem eone_off (m:Nat)(p:PV)(D:aX)(E:EgV):(bL m p D E).2.1.off=E.off/\(bL m p D E).2.1.nIn=E.nIn:=by
 unfold bL iJ
 split
 · exact⟨rfl,rfl⟩
 unfold eOneB
 split
 · exact⟨rfl,rfl⟩
 unfold gQ
 split <;> exact⟨rfl,rfl⟩
theorem esave_off (p:PV)(hash:Int)(D:aX)(E:EgV):(dr p hash D E).2.1.off=E.off/\(dr p hash D E).2.1.nIn=E.nIn:=by
 unfold dr iX
 split
 · exact⟨rfl,rfl⟩
 unfold iW
 split <;> exact⟨rfl,rfl⟩
theorem jAddV_next (D:aX)(f m:Nat)(kind:Int)(next:Nat)(l:List UInt8):(cO D f m kind next l).2.2.2=0->(cO D f m kind next l).2.1=next+1:=by
 unfold cO
 split
 · intro e;simp at e
 split
 · intro e;simp at e
 split
 · rename_i q;intro e;exact absurd e q
 · intro _;rfl
theorem eone_at {m:Nat}{E:EgV}(h:(bL m p D E).2.2=0)(ht:E.tick<=(E.nOut:Int))(hat:E.tick=(E.nOut:Int)):(bL m p D E).2.1.tick=((bL m p D E).2.1.nOut:Int):=by
 unfold bL at h ⊢;unfold iJ at h ⊢
 split at h
 · rename_i q;exact absurd h q
 rename_i q1;rw[if_neg q1];unfold eOneB at h ⊢
 split at h
 · rename_i q;exact absurd h q
 rename_i q2;rw[if_neg q2];generalize eQ p E.cells (dm D 11 m 3 E.nIn p.ins E.tick).2.1=T at *;generalize (dm D 11 m 3 E.nIn p.ins E.tick).1=D1 at *;have hp:(ff D1 (11+m) m 4 E.nOut p.outs E.tick T.2.1).2.2.2=0->(ff D1 (11+m) m 4 E.nOut p.outs E.tick T.2.1).2.1=E.nOut+1:=by
  have J:=jAddV_next D1 (11+m) m 4 E.nOut (rowB p.outs T.2.1 p.outs.length);unfold ff;rw[if_neg aS]
  split
  · intro e;simp at e
  rw[if_neg aS];generalize cO D1 (11+m) m 4 E.nOut (rowB p.outs T.2.1 p.outs.length)=R at *
  split
  · rename_i q;intro e;exact absurd e q
  · rename_i q;intro _;exact J (by simpa using q)
 generalize ff D1 (11+m) m 4 E.nOut p.outs E.tick T.2.1=S at *;unfold gQ at h ⊢
 split at h
 · rename_i q;exact absurd h q
 rename_i q3;rw[if_neg q3]
 show E.tick+1=((S.2.1:Nat):Int)
 rw[hp (by simpa using q3)];omega
structure On3 (p:PV)(H m c:Nat)(pace:Int)(D:aX)(E:EgV)(rows:List (List Int))(N:Secs)(kS:Nat)(s:SlV3)(n:Nat)(last:Int)(is:List Int):Prop where
 mid:Mid p H m c D E rows N kS s n last is
 waits:D.waits=[]
 put:E.put=false
 at_:E.tick=(E.nOut:Int)
 lt:E.passed<pace
def EgOn (p:PV)(H m c:Nat)(pace:Int)(D:aX)(E:EgV)(rows:List (List Int)):Prop:=∃ N kS s n last is,On3 p H m c pace D E rows N kS s n last is
theorem Mid.replGo (G:Prg p H m pace)(hr:ran<=dE n last+pace):∀ (f:Nat) {D:aX} {E:EgV} {N:Secs},Mid p H m c D E rows N kS s n last is->E.tick+(f:Int)=(rows.length:Int) ->
 ((eD m p f D E).2.2=0/\(∃ N',Mid p H m c (eD m p f D E).1 (eD m p f D E).2.1 rows N' kS s n last is)/\(eD m p f D E).2.1.tick=(rows.length:Int)/\(eD m p f D E).2.1.passed=E.passed+(f:Int)/\(eD m p f D E).2.1.replayed=E.replayed+(f:Int)/\(eD m p f D E).1.many=D.many/\(D.cut=-1->(eD m p f D E).1.cut=-1)) \/
 ((eD m p f D E).2.2=50/\Went D (eD m p f D E).1 (Good p H m c pace rows.length rows ran)):=by
 intro f
 induction f with
 | zero=>intro D E N h ht;exact .inl ⟨rfl,⟨N,h⟩,by show E.tick=_;omega,by show E.passed=_;omega,by show E.replayed=_;omega,rfl,fun q=>q⟩
 | succ f ih=>
   intro D E N h ht;have hun:eD m p (f+1) D E=if (bL m p D E).2.2≠0 then bL m p D E else eD m p f (bL m p D E).1 { (bL m p D E).2.1 with replayed:=(bL m p D E).2.1.replayed+1 }:=rfl;rw[hun];rcases h.one G aS hr with ⟨a1,⟨N1,a2⟩,a3,a4,a5,a6,a7⟩ | ⟨a1,a2,a3⟩
   · rw[if_neg (by rw[a1];simp)];rcases ih (a2.repTo ((bL m p D E).2.1.replayed+1)) (by show (bL m p D E).2.1.tick+_=_;rw[a3];omega) with ⟨b1,b2,b3,b4,b5,b6,b7⟩ | ⟨b1,b2⟩
     · refine .inl ⟨b1,b2,b3,?_,?_,b6.trans a6,fun q=>b7 (a7 q)⟩
       · rw[b4];show (bL m p D E).2.1.passed+_=_;rw[a4];omega
       · rw[b5];show (bL m p D E).2.1.replayed+1+_=_;rw[a5];omega
     · exact .inr ⟨b1,b2.trans a7 a6⟩
   · rw[if_pos (by rw[a1];simp)];exact .inr ⟨a1,a3⟩
theorem Mid.replay (G:Prg p H m pace)(h:Mid p H m c D E rows N kS s n last is)(hc:c<9000000000000000000)(hp:E.passed=0)(hr:ran<=dE n last+pace) :
 ((eh m p (H:Int) pace D E).2.2=0/\EgOn p H m (c+1) pace (eh m p (H:Int) pace D E).1 (eh m p (H:Int) pace D E).2.1 rows/\(eh m p (H:Int) pace D E).2.1.tick=(rows.length:Int)/\(eh m p (H:Int) pace D E).2.1.replayed=E.replayed+((rows.length:Int) - E.tick)/\(eh m p (H:Int) pace D E).1.many=D.many/\(D.cut=-1->(eh m p (H:Int) pace D E).1.cut=-1)) \/
 ((eh m p (H:Int) pace D E).2.2=50/\Went D (eh m p (H:Int) pace D E).1 (Good p H m (c+1) pace rows.length rows ran)):=by
 have gm:∀ N,Good p H m c pace rows.length rows ran N->Good p H m (c+1) pace rows.length rows ran N:=fun N g=>g.mono aS
 have hun:eh m p (H:Int) pace D E=jo p (H:Int) pace (eD m p ((E.nIn:Int) - E.tick).toNat D E):=rfl;rw[hun];have ht:=h.t1;have hno:=h.no;have hts:=h.ts;have hsl:=h.sl;have hpc:=G.pc;rcases Mid.replGo G hr ((E.nIn:Int) - E.tick).toNat h (by rw[h.nin];omega) with ⟨a1,⟨N1,a2⟩,a3,a4,a5,a6,a7⟩ | ⟨a1,a2⟩;rotate_left 1
 · unfold jo;rw[if_pos (by rw[a1];simp)];exact .inr ⟨a1,a2.mono gm⟩
 have hni:=h.nin;generalize eD m p ((E.nIn:Int) - E.tick).toNat D E=R at *;unfold jo;rw[if_neg (by rw[a1];simp)];rcases a2.flush (ran:=ran) hr with ⟨b1,b2,b3,b4,b5,b6⟩ | ⟨b1,b2,b3⟩;rotate_left 1
 · unfold iK;rw[if_pos iQ];exact .inr ⟨b1,(b3.trans a7 a6).mono gm⟩
 have hn2:=a2.no;have ht2:=a2.t1;generalize cU R.1 R.2.1=F at *;unfold iK;rw[if_neg iQ];have e1:F.2.1.tick=R.2.1.tick:=by rw[b3]
 have e2:F.2.1.passed=R.2.1.passed:=by rw[b3]
 have e3:F.2.1.replayed=R.2.1.replayed:=by rw[b3]
 have e4:F.2.1.nOut=R.2.1.nOut:=by rw[b3]
 have e5:F.2.1.put=false:=by rw[b3]
 by_cases hpp:pace<=F.2.1.passed
 · rw[if_pos hpp];rcases b2.save G hc (ran:=ran) hr (by rw[e1,a3];omega) with ⟨d1,⟨N2,s2,d2⟩,⟨k',d3⟩,d4,d5,d6⟩ | ⟨d1,d2,d3⟩
   · refine .inl ⟨d1,⟨N2,_,s2,_,_,_,d2,d4,by rw[d3],?_,by rw[d3];show (0:Int)<pace;omega⟩,?_,?_,d5.trans (b5.trans a6),fun q=>d6 (b6 (a7 q))⟩
     · rw[d3];show F.2.1.tick=(F.2.1.nOut:Int);rw[e1,e4];omega
     · rw[d3];show F.2.1.tick=_;rw[e1,a3]
     · rw[d3];show F.2.1.replayed=_;rw[e3,a5];omega
   · exact .inr ⟨d1,d3.trans (fun q=>b6 (a7 q)) (b5.trans a6)⟩
 · rw[if_neg hpp];refine .inl ⟨rfl,⟨N1,_,s,n,last,is,b2.more aS,b4,e5,?_,by show F.2.1.passed<pace;omega⟩,?_,?_,b5.trans a6,fun q=>b6 (a7 q)⟩
   · show F.2.1.tick=(F.2.1.nOut:Int);rw[e1,e4];omega
   · show F.2.1.tick=_;rw[e1,a3]
   · show F.2.1.replayed=_;rw[e3,a5];omega
theorem Mid.runGo (G:Prg p H m pace)(most:Int):∀ (f:Nat) {D:aX} {E:EgV} {N:Secs} {c kS:Nat} {s:SlV3} {n:Nat} {last:Int} {is:List Int} (k:Nat),Mid p H m c D E rows N kS s n last is->E.tick=(E.nOut:Int)->E.passed<pace->E.tick+(f:Int)=(rows.length:Int)->c+f<9000000000000000000->(k:Int)<=most ->
 ((runK m p (H:Int) pace most f k D E).2.2.2=0/\(∃ N' kS' s' n' last' is',Mid p H m (c+f) (runK m p (H:Int) pace most f k D E).1 (runK m p (H:Int) pace most f k D E).2.1 rows N' kS' s' n' last' is')/\(runK m p (H:Int) pace most f k D E).2.1.tick=((runK m p (H:Int) pace most f k D E).2.1.nOut:Int)/\(runK m p (H:Int) pace most f k D E).2.1.passed<pace /\
   (runK m p (H:Int) pace most f k D E).2.1.tick=E.tick+(((runK m p (H:Int) pace most f k D E).2.2.1:Nat) - (k:Int))/\(((runK m p (H:Int) pace most f k D E).2.2.1:Nat):Int)=min most ((k:Int)+f)/\(runK m p (H:Int) pace most f k D E).1.many=D.many/\(D.cut=-1->(runK m p (H:Int) pace most f k D E).1.cut=-1)) \/
 ((runK m p (H:Int) pace most f k D E).2.2.2=50/\k<=(runK m p (H:Int) pace most f k D E).2.2.1/\(((runK m p (H:Int) pace most f k D E).2.2.1:Nat):Int)<=min most ((k:Int)+f)/\(runK m p (H:Int) pace most f k D E).2.1.off=false/\(runK m p (H:Int) pace most f k D E).2.1.nIn=rows.length/\Went D (runK m p (H:Int) pace most f k D E).1 (Good p H m (c+f) pace rows.length rows (E.tick+(((runK m p (H:Int) pace most f k D E).2.2.1:Nat) - (k:Int))))):=by
 intro f
 induction f with
 | zero=>
   intro D E N c kS s n last is k h hat hlt ht hc hk;refine .inl ⟨rfl,⟨N,kS,s,n,last,is,h⟩,hat,hlt,?_,?_,rfl,fun q=>q⟩
   · show E.tick=E.tick+((k:Nat) - (k:Int));omega
   · show ((k:Nat):Int)=_;omega
 | succ f ih=>
   intro D E N c kS s n last is k h hat hlt ht hc hk;have hun:runK m p (H:Int) pace most (f+1) k D E=if most<=(k:Int) then (D,E,k,0)
    else if (bL m p D E).2.2≠0 then ((bL m p D E).1,(bL m p D E).2.1,k,(bL m p D E).2.2)
    else if (runT p (H:Int) pace (bL m p D E)).2.2≠0 then ((runT p (H:Int) pace (bL m p D E)).1,(runT p (H:Int) pace (bL m p D E)).2.1,k+1,(runT p (H:Int) pace (bL m p D E)).2.2)
    else runK m p (H:Int) pace most f (k+1) (runT p (H:Int) pace (bL m p D E)).1 (runT p (H:Int) pace (bL m p D E)).2.1:=rfl
   rw[hun]
   by_cases hm:most<=(k:Int)
   · rw[if_pos hm];refine .inl ⟨rfl,⟨N,kS,s,n,last,is,h.more aS⟩,hat,hlt,?_,?_,rfl,fun q=>q⟩
     · show E.tick=E.tick+((k:Nat) - (k:Int));omega
     · show ((k:Nat):Int)=_;omega
   rw[if_neg hm];have hts:=h.ts;have hpc:=G.pc;have hoff:=h.off;have hni:=h.nin;have hof:=eone_off m p D E;rcases h.one G (ran:=E.tick) aS aS with ⟨a1,⟨N1,a2⟩,a3,a4,a5,a6,a7⟩ | ⟨a1,a2,a3⟩;rotate_left 1
   · rw[if_pos (by rw[a1];simp)];refine .inr ⟨a1,Nat.le_refl _,by show ((k:Nat):Int)<=_;omega,hof.1.trans hoff,hof.2.trans hni,?_⟩
     show Went D (bL m p D E).1 (Good p H m (c+(f+1)) pace rows.length rows (E.tick+((k:Nat) - (k:Int))))
     rw[show E.tick+((k:Nat) - (k:Int))=E.tick by omega];exact a3.mono (fun N g=>g.mono aS)
   rw[if_neg (by rw[a1];simp)];have hat1:=eone_at (m:=m) (p:=p) (D:=D) (E:=E) a1 h.t1 hat
   have hoff1:=a2.off;have hni1:=a2.nin;generalize bL m p D E=R at *;have hts1:=a2.ts
   by_cases hpp:pace<=R.2.1.passed
   · have hT:runT p (H:Int) pace R=dr p (H:Int) R.1 R.2.1:=by unfold runT;rw[if_pos hpp]
     rw[hT];have hso:=esave_off p (H:Int) R.1 R.2.1;rcases a2.save G aS (ran:=E.tick+1) aS aS with ⟨d1,⟨N2,s2,d2⟩,⟨k',d3⟩,d4,d5,d6⟩ | ⟨d1,d2,d3⟩
     · rw[if_neg jA];have ht2:(dr p (H:Int) R.1 R.2.1).2.1.tick=E.tick+1:=by rw[d3];exact a3
       have hn2:(dr p (H:Int) R.1 R.2.1).2.1.nOut=R.2.1.nOut:=by rw[d3]
       have hp2:(dr p (H:Int) R.1 R.2.1).2.1.passed=0:=by rw[d3]
       generalize dr p (H:Int) R.1 R.2.1=S at *;rcases ih (k+1) d2 (by rw[ht2,hn2,<- hat1,a3]) (by rw[hp2];omega) (by rw[ht2];omega) aS aS with ⟨b1,b2,b3,b4,b5,b6,b7,b8⟩ | ⟨b1,b2,b3,b4,b4b,b5⟩
       · refine .inl ⟨b1,?_,b3,b4,by rw[b5,ht2];omega,by rw[b6];omega,b7.trans (d5.trans a6),fun q=>b8 (d6 (a7 q))⟩;obtain⟨N',kS',s',n',last',is',b2⟩:=b2;exact⟨N',kS',s',n',last',is',b2.more aS⟩
       · refine .inr ⟨b1,aS,by omega,b4,b4b,?_⟩;have:=b5.trans (fun q=>d6 (a7 q)) (d5.trans a6);rw[show E.tick+(((runK m p (H:Int) pace most f (k+1) S.1 S.2.1).2.2.1:Nat) - (k:Int))=S.2.1.tick+(((runK m p (H:Int) pace most f (k+1) S.1 S.2.1).2.2.1:Nat) - ((k+1:Nat):Int)) by rw[ht2];omega];exact this.mono (fun N g=>g.mono aS)
     · rw[if_pos jA];refine .inr ⟨d1,Nat.le_succ _,by show ((k+1:Nat):Int)<=_;omega,hso.1.trans hoff1,hso.2.trans hni1,?_⟩
       show Went D (dr p (H:Int) R.1 R.2.1).1 (Good p H m (c+(f+1)) pace rows.length rows (E.tick+((k+1:Nat) - (k:Int))))
       rw[show E.tick+((k+1:Nat) - (k:Int))=E.tick+1 by omega];exact (d3.trans a7 a6).mono (fun N g=>g.mono aS)
   · have hT:runT p (H:Int) pace R=(R.1,R.2.1,0):=by unfold runT;rw[if_neg hpp]
     rw[hT,if_neg aZ];dsimp only;rcases ih (k+1) a2 (by rw[hat1]) aS (by rw[a3];omega) aS aS with ⟨b1,b2,b3,b4,b5,b6,b7,b8⟩ | ⟨b1,b2,b3,b4,b4b,b5⟩
     · refine .inl ⟨b1,?_,b3,b4,by rw[b5,a3];omega,by rw[b6];omega,b7.trans a6,fun q=>b8 (a7 q)⟩;obtain⟨N',kS',s',n',last',is',b2⟩:=b2;exact⟨N',kS',s',n',last',is',b2.more aS⟩
     · refine .inr ⟨b1,aS,by omega,b4,b4b,?_⟩;have:=b5.trans a7 a6
       show Went D (runK m p (H:Int) pace most f (k+1) R.1 R.2.1).1 (Good p H m (c+(f+1)) pace rows.length rows (E.tick+(((runK m p (H:Int) pace most f (k+1) R.1 R.2.1).2.2.1:Nat) - (k:Int))))
       rw[show E.tick+(((runK m p (H:Int) pace most f (k+1) R.1 R.2.1).2.2.1:Nat) - (k:Int))=R.2.1.tick+(((runK m p (H:Int) pace most f (k+1) R.1 R.2.1).2.2.1:Nat) - ((k+1:Nat):Int)) by rw[a3];omega];exact this.mono (fun N g=>g.mono aS)
end
theorem oM (E:EgV):fy E 0=E:=by
 unfold fy;rw[show decide ((0:Int)=50)=false from rfl,Bool.or_false]
theorem eFlush_off (E:EgV)(h:D.off=true):(cU D E).1=D:=by
 have e:bH D=(D,50):=by
  have:mayV D 0=50:=by unfold mayV;rw[h];rfl
  unfold bH;rw[this];rfl
 unfold cU
 split
 · rfl
 · unfold lL;rw[e]
section
variable {p:PV} {H m c:Nat} {pace:Int} {D D':aX} {E:EgV} {rows:List (List Int)} {N N':Secs} {kS:Nat} {s:SlV3} {n:Nat} {last:Int} {is:List Int}
theorem EgOn.more (h:EgOn p H m c pace D E rows)(hc:c<=c'):EgOn p H m c' pace D E rows:=by
 obtain⟨N,kS,s,n,last,is,h⟩:=h;exact⟨N,kS,s,n,last,is,h.mid.more hc,h.waits,h.put,h.at_,h.lt⟩
theorem EgOn.facts (h:EgOn p H m c pace D E rows):E.off=false/\E.nIn=rows.length/\E.tick=(E.nOut:Int)/\E.nOut<=rows.length/\rows.length<=m/\D.off=false/\D.waits=[]/\11+2 * m<=D.many/\dN p.ins rows/\E.passed<pace/\0<=E.passed:=by
 obtain⟨N,kS,s,n,last,is,h⟩:=h;exact⟨h.mid.off,h.mid.nin,h.at_,h.mid.no,h.mid.rows_le,h.mid.pow.fit.off,h.waits,h.mid.big,h.mid.rok,h.lt,h.mid.p0⟩
theorem EgOn.may (h:EgOn p H m c pace D E rows):May D (Good p H m c pace rows.length rows E.tick):=by
 obtain⟨N,kS,s,n,last,is,h⟩:=h;have:=h.lt;have:=h.mid.ts;exact h.mid.good h.mid.pow.safe rfl aS
theorem EgOn.ops (h:EgOn p H m c pace D E rows)(o:List Int):EgOn p H m c pace { D with ops:=o } E rows:=by
 obtain⟨N,kS,s,n,last,is,h⟩:=h;have q:=h.mid;exact⟨N,kS,s,n,last,is,⟨q.pow.ops o,q.big,q.wl,q.root,q.feed,q.rok,q.sink,q.kp,q.kc,q.nc,q.ek,q.nin,q.no,q.t0,q.t1,q.ce,q.p0,q.p1,q.ts,q.sl,q.off,q.put⟩,h.waits,h.put,h.at_,h.lt⟩
theorem EgOn.cutTo (h:EgOn p H m c pace D E rows)(k:Int)(h0:-1<=k)(h1:k<=9223372036854775807):EgOn p H m c pace { D with cut:=k } E rows:=by
 obtain⟨N,kS,s,n,last,is,h⟩:=h;have q:=h.mid;exact⟨N,kS,s,n,last,is,⟨q.pow.cutTo k h0 h1,q.big,q.wl,q.root,q.feed,q.rok,q.sink,q.kp,q.kc,q.nc,q.ek,q.nin,q.no,q.t0,q.t1,q.ce,q.p0,q.p1,q.ts,q.sl,q.off,q.put⟩,h.waits,h.put,h.at_,h.lt⟩
theorem EgOn.input (G:Prg p H m pace)(h:EgOn p H m c pace D E rows)(ht:rows[t]?=some l):dm D 11 m 3 E.nIn p.ins (t:Int)=(dZ D,l,0):=by
 obtain⟨N,kS,s,n,last,is,h⟩:=h;have q:=h.mid;have:=q.big;have:=G.m2;rw[q.nin];exact my (D:=D) (N:=N) (f:=11) (m:=m) (kind:=3) q.pow.fit.off q.pow.now q.rok q.feed aS aS aS aS ht
theorem EgOn.output (G:Prg p H m pace)(h:EgOn p H m c pace D E rows)(ht:t<E.nOut):dm D (11+m) m 4 E.nOut p.outs (t:Int)=(dZ D,dH p rows t,0):=by
 obtain⟨N,kS,s,n,last,is,h⟩:=h;have q:=h.mid;have:=q.big;have:=G.m2;have:=my (D:=D) (N:=N) (f:=11+m) (m:=m) (kind:=4) q.pow.fit.off q.pow.now (outs_ok G q.rok q.no) q.sink aS aS aS aS (outsV_get p rows ht);rw[iN] at this;exact this
theorem EgOn.run (G:Prg p H m pace)(h:EgOn p H m c pace D E rows)(most:Int)(hmo:0<=most)(hc:c<8000000000000000000) :
 ((runE m p (H:Int) pace most D E).2.2.2=0/\EgOn p H m (c+m) pace (runE m p (H:Int) pace most D E).1 (runE m p (H:Int) pace most D E).2.1 rows/\(runE m p (H:Int) pace most D E).2.1.tick=E.tick+(runE m p (H:Int) pace most D E).2.2.1/\(runE m p (H:Int) pace most D E).2.2.1=min most ((rows.length:Int) - E.tick)/\(runE m p (H:Int) pace most D E).1.many=D.many/\(D.cut=-1->(runE m p (H:Int) pace most D E).1.cut=-1)) \/
 ((runE m p (H:Int) pace most D E).2.2.2=50/\0<=(runE m p (H:Int) pace most D E).2.2.1/\(runE m p (H:Int) pace most D E).2.2.1<=min most ((rows.length:Int) - E.tick)/\Went D (runE m p (H:Int) pace most D E).1 (Good p H m (c+m) pace rows.length rows (E.tick+(runE m p (H:Int) pace most D E).2.2.1))/\(runE m p (H:Int) pace most D E).2.1.off=true):=by
 obtain⟨f1,f2,f3,f4,f5,f6,f7,f8,f9,f10,f11⟩:=h.facts;obtain⟨N,kS,s,n,last,is,h⟩:=h;have hm2:=G.m2;have hun:runE m p (H:Int) pace most D E=runB (runK m p (H:Int) pace most ((E.nIn:Int) - E.tick).toNat 0 D E).2.2.1 (runK m p (H:Int) pace most ((E.nIn:Int) - E.tick).toNat 0 D E).2.2.2 (cU (runK m p (H:Int) pace most ((E.nIn:Int) - E.tick).toNat 0 D E).1 (runK m p (H:Int) pace most ((E.nIn:Int) - E.tick).toNat 0 D E).2.1):=by
  unfold runE;rw[if_neg (by rw[f1];simp),if_neg aS]
  rfl
 rw[hun];have hgo:=Mid.runGo G most ((E.nIn:Int) - E.tick).toNat 0 h.mid h.at_ h.lt aS aS aS;have hfl:((((E.nIn:Int) - E.tick).toNat:Nat):Int)=(rows.length:Int) - E.tick:=aS;have hfm:c+((E.nIn:Int) - E.tick).toNat<=c+m:=aS;generalize runK m p (H:Int) pace most ((E.nIn:Int) - E.tick).toNat 0 D E=R at *;generalize ((E.nIn:Int) - E.tick).toNat=f at *;rcases hgo with ⟨b1,⟨N1,kS1,s1,n1,last1,is1,b2⟩,b3,b4,b5,b6,b7,b8⟩ | ⟨b1,b2,b3,b4,b4b,b5⟩
 · have ht:=b2.ts;rcases b2.flush (ran:=R.2.1.tick) (pace:=pace) aS with ⟨d1,d2,d3,d4,d5,d6⟩ | ⟨d1,d2,d3⟩
   · left
     generalize cU R.1 R.2.1=F at *;unfold runB;rw[b1,if_pos rfl,d1,oM];refine⟨rfl,⟨N1,_,s1,n1,last1,is1,d2.more hfm,d4,by rw[d3],?_,?_⟩,?_,by simp only;omega,d5.trans b7,fun q=>d6 (b8 q)⟩
     · show F.2.1.tick=(F.2.1.nOut:Int);rw[d3];exact b3
     · show F.2.1.passed<pace;rw[d3];exact b4
     · show F.2.1.tick=E.tick+((R.2.2.1:Nat):Int);rw[d3];show R.2.1.tick=_;omega
   · right
     generalize cU R.1 R.2.1=F at *;unfold runB;rw[b1,if_pos rfl,d1];refine⟨rfl,by simp only;omega,by simp only;omega,?_,by unfold fy;simp⟩
     show Went D F.1 (Good p H m (c+m) pace rows.length rows (E.tick+((R.2.2.1:Nat):Int)))
     rw[show E.tick+((R.2.2.1:Nat):Int)=R.2.1.tick by omega];exact (d3.trans b8 b7).mono (fun N g=>g.mono hfm)
 · right
   have hoff:=eFlush_off R.2.1 b5.1;generalize cU R.1 R.2.1=F at *;unfold runB;rw[b1,if_neg aZ];refine⟨rfl,by simp only;omega,by simp only;omega,?_,by unfold fy;simp⟩
   show Went D F.1 (Good p H m (c+m) pace rows.length rows (E.tick+((R.2.2.1:Nat):Int)))
   rw[hoff];rw[show E.tick+((R.2.2.1:Nat):Int)=E.tick+(((R.2.2.1:Nat):Int) - ((0:Nat):Int)) by omega];exact b5.mono (fun N g=>g.mono hfm)
theorem EgOn.save (G:Prg p H m pace)(h:EgOn p H m c pace D E rows)(hc:c<8000000000000000000) :
 ((fg p (H:Int) D E).2.2=0/\EgOn p H m (c+1) pace (fg p (H:Int) D E).1 (fg p (H:Int) D E).2.1 rows/\(fg p (H:Int) D E).2.1.tick=E.tick/\(fg p (H:Int) D E).1.many=D.many/\(D.cut=-1->(fg p (H:Int) D E).1.cut=-1)) \/
 ((fg p (H:Int) D E).2.2=50/\Went D (fg p (H:Int) D E).1 (Good p H m (c+1) pace rows.length rows E.tick)/\(fg p (H:Int) D E).2.1.off=true):=by
 obtain⟨f1,f2,f3,f4,f5,f6,f7,f8,f9,f10,f11⟩:=h.facts;obtain⟨N,kS,s,n,last,is,h⟩:=h;have hpc:=G.pc;have ht:=h.mid.ts;have hun:fg p (H:Int) D E=saveB (dr p (H:Int) D E):=by
  unfold fg;rw[if_neg (by rw[f1];simp)]
 rw[hun];rcases h.mid.save G aS (ran:=E.tick) aS aS with ⟨d1,⟨N2,s2,d2⟩,⟨k',d3⟩,d4,d5,d6⟩ | ⟨d1,d2,d3⟩
 · left
   generalize dr p (H:Int) D E=S at *;unfold saveB;rw[d1,oM];exact⟨rfl,⟨N2,_,s2,_,_,_,d2,d4,by rw[d3],by rw[d3];exact f3,by rw[d3];show (0:Int)<pace;omega⟩,by rw[d3],d5,d6⟩
 · right
   generalize dr p (H:Int) D E=S at *;unfold saveB;rw[d1];exact⟨rfl,d3,by unfold fy;simp⟩
theorem EgOn.sub (G:Prg p H m pace)(h:EgOn p H m c pace D E rows)(hi:eN l) :
 (subE m p D E l=(D,E,0,41)/\cx p.ins l=false)\/(subE m p D E l=(D,E,0,52)/\rows.length=m) \/
 ((subE m p D E l).2.2=((rows.length:Int),0)/\cx p.ins l=true/\EgOn p H m c pace (subE m p D E l).1 (subE m p D E l).2.1 (rows ++ [l])/\(subE m p D E l).2.1.tick=E.tick/\(subE m p D E l).1.many=D.many/\(D.cut=-1->(subE m p D E l).1.cut=-1)) \/
 ((subE m p D E l).2.2=(0,50)/\cx p.ins l=true/\rows.length<m/\Went D (subE m p D E l).1 (Good p H m c pace rows.length (rows ++ [l]) E.tick)/\(subE m p D E l).2.1.off=true):=by
 obtain⟨f1,f2,f3,f4,f5,f6,f7,f8,f9,f10,f11⟩:=h.facts;obtain⟨N,kS,s,n,last,is,h⟩:=h;have q:=h.mid;have hm2:=G.m2;have hR:=q.isRest f7;have hun:subE m p D E l=subB E (dY D 11 m 3 rows.length p.ins l):=by
  unfold subE;rw[if_neg (by rw[f1];simp),f2]
 have hE:({ E with nIn:=rows.length }:EgV)=E:=by cases E;simp only at f2;subst f2;rfl
 let P:Says:=fun s S=>if 11<=s/\s<11+m then SecA 3 rows.length (cG p.ins (rows ++ [l])) (s - 11) S else S=N s
 have hP:∀ j:Nat,j<D.many->P j (N j):=fun j hj=>by
  show if 11<=j/\j<11+m then SecA 3 rows.length (cG p.ins (rows ++ [l])) (j - 11) (N j) else N j=N j
  split
  · rename_i e;have:=q.feed.secA (more:=[rowB p.ins l p.ins.length]) (n:=j - 11) aS;rw[<- od,fK,show 11+(j - 11)=j by omega] at this;exact this
  · rfl
 have hshut:cx p.ins l=true->rows.length<m->fD (P (11+rows.length)) (bU 3 rows.length (rowB p.ins l p.ins.length)):=fun hf hlt=>by
  have hl113:(rowB p.ins l p.ins.length).length<=113:=by have:=mw G.ins l;omega
  have hg:(cG p.ins (rows ++ [l]))[rows.length]?=some (rowB p.ins l p.ins.length):=n9 aZ;have:=SecA.sealed (kind:=3) (k:=rows.length) (n:=rows.length) aW hg hl113;intro S cc hcc hS hh;have hh':if 11<=11+rows.length/\11+rows.length<11+m then SecA 3 rows.length (cG p.ins (rows ++ [l])) (11+rows.length - 11) S else S=N (11+rows.length):=hh;rw[if_pos aS,show 11+rows.length - 11=rows.length by omega] at hh'
  show if 11<=11+rows.length/\11+rows.length<11+m then SecA 3 rows.length (cG p.ins (rows ++ [l])) (11+rows.length - 11) _ else _
  rw[if_pos aS,show 11+rows.length - 11=rows.length by omega];exact this S cc hcc hS hh'
 obtain⟨a1,a2⟩:=hR.fadd (f:=11) (m:=m) (kind:=3) (ts:=p.ins) (P:=P) aS aS aS q.feed q.rok hi hP hshut;have hcast:((3:Nat):Int)=3:=rfl;rw[hcast] at a1 a2;rw[hun];rcases a2 with ⟨e,hf⟩ | ⟨e,hf⟩ | ⟨e,r1,r2,r3,r4⟩ | ⟨e,r1,r2,r3,r4,r5⟩
 · left
   rw[e];unfold subB;simp only;rw[hE];exact⟨by unfold fy;simp,hf⟩
 · right;left
   rw[e];unfold subB;simp only;rw[hE];exact⟨by unfold fy;simp,hf⟩
 · right;right;left
   generalize dY D 11 m 3 rows.length p.ins l=R at *;obtain⟨D1,nx,v,z⟩:=R;simp only at e r1 r2 r4 a1;injection e with e1 e;injection e with e2 e3;subst e1 e2 e3;unfold subB;simp only;rw[oM];have hfit:=r3.fits l aZ;have hN:∀ j:Nat,j<11\/11+m<=j->putN N (11+rows.length) (bU 3 rows.length (rowB p.ins l p.ins.length)) j=N j:=fun j hj=>by
    have:=r2.le;rw[fK,aw,aJ] at this;unfold putN;rw[if_neg aS]
   have hkc:=q.kc;have hts:=q.ts;have hsl:=q.sl;have ht0:=q.t0;have hks:=q.ksle;refine⟨by first | rfl | trivial,hfit,⟨putN N (11+rows.length) (bU 3 rows.length (rowB p.ins l p.ins.length)),E.nOut,s,n,last,is,?_,r1.waits,h.put,f3,h.lt⟩,rfl,a1,r4⟩;exact Mid.ofRest (E:={ E with nIn:=rows.length+1 }) r1 (by rw[a1];exact f8) (by rw[hN 0 aS];exact q.root) r2 r3
    (by rw[mP [l] f4];exact q.sink.congr (fun j hj=>hN _ aS)) (q.kp.congr (fun j j1 j2=>hN j aS))
    (fun e=>⟨by rw[kx [l] _ (by have:=(hkc e).2.2;omega)];exact (hkc e).1,(hkc e).2.1,by show last<=(E.nOut:Int);have:=(hkc e).2.2;omega⟩) q.nc q.ek aZ cR q.t0 q.t1
    (by show E.cells=_;rw[kx [l] _ (by show E.tick.toNat<=_;omega)];exact q.ce) q.p0 q.p1 q.ts q.sl q.off
 · right;right;right
   generalize dY D 11 m 3 rows.length p.ins l=R at *;obtain⟨D1,nx,v,z⟩:=R;simp only at e r1 r2 r5 a1;injection e with e2 e3;subst e2 e3;unfold subB;simp only;have hrk:=q.rok.app r3 hi;refine⟨by first | rfl | trivial,r3,r4,⟨r1,r2,a1,P,r5,fun N' hN=>?_⟩,by unfold fy;simp⟩;have hbig:11+2 * m<=D1.many:=by rw[a1];exact f8
   have ho:∀ j:Nat,j<11+2 * m->¬ (11<=j/\j<11+m)->N' j=N j:=fun j hj e=>by
    have:if 11<=j/\j<11+m then SecA 3 rows.length (cG p.ins (rows ++ [l])) (j - 11) (N' j) else N' j=N j:=hN j (by show j<D1.many;omega)
    rwa [if_neg e] at this
   have hlt2:=h.lt;have hts:=q.ts;have hks:=q.ksle;refine⟨by rw[ho 0 aS aS];exact q.root,hrk,by simp,by simp;omega,fun j hj=>?_,E.nOut,s,n,last,is,f4,fun j hj=>?_,q.kp.congr (fun j j1 j2=>ho j aS aS),q.nc,fun e=>⟨by rw[kx [l] _ (by have:=(q.kc e).2.2;omega)];exact (q.kc e).1,(q.kc e).2.1,by have:=(q.kc e).2.2;omega⟩,aS⟩
   · have:if 11<=11+j/\11+j<11+m then SecA 3 rows.length (cG p.ins (rows ++ [l])) (11+j - 11) (N' (11+j)) else N' (11+j)=N (11+j):=hN (11+j) (by show 11+j<D1.many;omega);rw[if_pos aS,show 11+j - 11=j by omega] at this;exact this.j
   · rw[ho (11+m+j) aS aS,mP [l] aW,mS p rows f4];have:=(q.sink.secA (more:=cG p.outs ((cq p rows rows.length).drop E.nOut)) hj).j
     rwa [fK,iN] at this
end
