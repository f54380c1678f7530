/- StatPlays. -/
import Derived.Test.YtmeebofhlilcmaaGreatPr52
import Derived.Test.YtmeebofhlilcmaaGreatPr54
set_option maxRecDepth 100000
set_option maxHeartbeats 0
namespace Go.Proofs.YtmeebofhlilcmaaGreat
variable {w W:World}
open Go.RowKit
set_option linter.unusedVariables false
set_option linter.unusedSimpArgs false
section
variable {w:World} {x:PA} {p:PV} {n m many:Nat} {s r pc pace:Int}
theorem progAll_wfP {p:PV}(h:ProgAll p):el p :=
 ⟨fun x hx=>(h.cells x hx).2,fun x hx=>⟨(h.code x hx).2.1.2,(h.code x hx).2.2.1.2,(h.code x hx).2.2.2.1.2,(h.code x hx).2.2.2.2.1,(h.code x hx).2.2.2.2.2⟩⟩
theorem pn_code (hx:∀ W,Below w.heap.size w W->dd W x p)(hw:el p)(hv:dw p=false)(h0:1<=n)(h1:n<=4096) :
 Ca 45 #[.agg #[.slice x.A1 x.n1 x.c1,.slice x.A2 x.n2 x.c2,I p.regs,.slice x.A3 x.n3 x.c3,.slice x.A4 x.n4 x.c4],.agg #[I (n:Nat),I (n:Nat),I pc]] w fun e w'=>e=.returned (.tuple #[.pointer none,I 40])/\Below w.heap.size w w':=by
 refine (jy (N1:=fun P z w1=>∃ q:bB,P=some ⟨q.d,0,none⟩/\z=0/\bc w1 w.heap.size q (newV n n)/\Below w.heap.size w w1) (N2:=fun _ z w1=>z=40/\Below w.heap.size w w1) (N3:=fun _ _ _ _=>False) ?_ ?_ ?_ ?_).mono ?_
 · intro W hb;exact (t_new W h0 h1).mono fun e w1 ⟨q,he,hd,hb2⟩=>⟨db.of_below hb2,_,_,he,q,rfl,rfl,hd.rebase hb.size,hb.trans (hb2.mono hb.size)⟩
 · rintro P w1 ⟨q,rfl,_⟩;exact⟨q.d,rfl⟩
 · rintro d W ⟨q,hP,_,hd,hb⟩;obtain rfl:d=q.d:=by simpa using hP
   exact (format_code hd (hx W hb) hw hv).mono fun e w1 ⟨he,hb2⟩=>⟨db.of_below hb2,_,he,rfl,hb.trans (hb2.mono hb.size)⟩
 · rintro d W ⟨h9,_⟩;exact absurd h9 aU
 · rintro e w' (⟨z,hz,rfl,⟨P,q,_,h9,_⟩ | ⟨_,rfl,hb⟩ | ⟨_,_,h9⟩⟩ | ⟨_,_,_,h9,_⟩)
   · exact absurd h9 hz
   · exact⟨rfl,hb⟩
   · exact h9.elim
   · exact h9.elim
theorem st_told {st:PGh}{base gy c many:Nat}{q:bB}{t1 t2 t6:Int}(h:PlSt w base gy q x p m c pace many st)(hg:GhOk m st)(ht:kC t1 t2 t6 st)(hm9:m<=1024) :
 Blk w gy 209 (plC q.d x p pace none)\/∃ (g L:Nat),Blk w gy 209 (plC q.d x p pace (some ⟨g,0,none⟩))/\t1<=(L:Int)/\t2<=(L:Int)+t6/\L<=1024 /\
  ∀ W,Below w.heap.size w W->Ca 29 #[.pointer (some ⟨g,0,none⟩)] W fun e w'=>∃ a b c d f,e=.returned (.agg #[I (L:Nat),I a,I b,I c,I d,I f])/\Below W.heap.size W w':=by
 cases st with
 | on a rows tick rep=>
   obtain⟨g,h1,h2⟩:=h;obtain⟨g1,g2⟩:=hg;obtain⟨q1,q2⟩:=ht;obtain⟨D,E,e,hd,hin,ok,on,hm,hc,htk,hr⟩:=h2.ex;have hi0:=ok.i0;obtain⟨f1,f2,f3,f4,f5,f6,f7,f8,f9,f10,f11⟩:=on.facts;exact .inr ⟨g,rows.length,h1.blk,q1,aS,by omega,fun W hb=>(t_stat (h2.below hb)).mono fun e w' ⟨pa,sv,h1,_,_,_,_,_,h2⟩=>⟨_,_,_,_,_,h1,h2⟩⟩
 | off k all ran=>
   obtain⟨g,h1,h2⟩:=h;obtain⟨g1,g2,g3,g4⟩:=hg;obtain⟨q1,q2⟩:=ht;obtain⟨D,E,e,hd,hin,ok,ho,hdo,hm,hw,hmay,i1,i2⟩:=h2.ex;have hi0:=ok.i0;exact .inr ⟨g,E.nIn,h1.blk,aS,by omega,aS,fun W hb=>(estat_any (hin.below hb) ok.kl).mono fun e w' ⟨h1,h2⟩=>⟨_,_,_,_,_,h1,h2⟩⟩
 | down k all ran=>exact .inl h.1.blk
end
end Go.Proofs.YtmeebofhlilcmaaGreat
namespace Go.Proofs.YtmeebofhlilcmaaGreat.statPlays
variable {w W:World}
open Go.ChangeShapes Go.WideShapes Go.ChangeAt Go.RowKit Go.Deep Go.Joins
set_option linter.unusedVariables false
set_option linter.unusedSimpArgs false
section
variable {x:PA} {p:PV} {S R C n c:Nat} {A:Option Addr}
theorem front (hW:W=(w.alloc (.cells #[.slice x.A1 x.n1 x.c1,.slice x.A2 x.n2 x.c2,I p.regs,.slice x.A3 x.n3 x.c3,.slice x.A4 x.n4 x.c4] 26)).alloc (.cells #[.int .u8 (S:Nat),.int .u8 (R:Nat),.int .u8 (C:Nat)] 92)) :
 Below w.heap.size w W/\Blk W w.heap.size 26 [.slice x.A1 x.n1 x.c1,.slice x.A2 x.n2 x.c2,I p.regs,.slice x.A3 x.n3 x.c3,.slice x.A4 x.n4 x.c4]/\Blk W (w.heap.size+1) 92 [.int .u8 (S:Nat),.int .u8 (R:Nat),.int .u8 (C:Nat)]:=by
 subst hW;exact⟨ba,bH,bH⟩
theorem oD (w:World)(b1 b2:Bool)(hF:∀ W,Below w.heap.size w W->Ca 15 #[.agg #[.slice x.A1 x.n1 x.c1,.slice x.A2 x.n2 x.c2,I p.regs,.slice x.A3 x.n3 x.c3,.slice x.A4 x.n4 x.c4]] W fun e w'=>e=.returned (.bool b1)/\Below W.heap.size W w')
 (hG:∀ W,Below w.heap.size w W->Ca 49 #[.slice A n c] W fun e w'=>e=.returned (.bool b2)/\Below W.heap.size W w') (hn:(n:Int)<=9223372036854775807)
 (hq:b1=false\/(b1=true/\b2=false)\/(b1=true/\b2=true/\decide ((n:Int) > 30)=true)) :
 Ca 10 #[.agg #[.slice x.A1 x.n1 x.c1,.slice x.A2 x.n2 x.c2,I p.regs,.slice x.A3 x.n3 x.c3,.slice x.A4 x.n4 x.c4],.agg #[.int .u8 (S:Nat),.int .u8 (R:Nat),.int .u8 (C:Nat)],.slice A n c] w fun e w'=>e=.returned (.bool true)/\Below w.heap.size w w':=by
 have F0:=fun W hW=>front (x:=x) (p:=p) (S:=S) (R:=R) (C:=C) (w:=w) (W:=W) hW
 rcases hq with rfl | ⟨rfl,rfl⟩ | ⟨rfl,rfl,d1⟩
 all_goals
  go_enter Tryz.func10,Tryz.ntmps10;go_upto_region 1 with fail;refine dv (fun W=>Below w.heap.size w W/\Blk W w.heap.size 26 [.slice x.A1 x.n1 x.c1,.slice x.A2 x.n2 x.c2,I p.regs,.slice x.A3 x.n3 x.c3,.slice x.A4 x.n4 x.c4]/\Blk W (w.heap.size+1) 92 [.int .u8 (S:Nat),.int .u8 (R:Nat),.int .u8 (C:Nat)]) (F0 _ rfl) ?_;clear F0;rintro w1 ⟨hb1,he,hr⟩;have B1:=aT hb1;have E1:=aT he;clear hb1 he hr;go_wp2_with (first | ((go_at_call 55;(with_reducible refine (awake45 _).mono ?_);rintro e w2 ⟨rfl,b2⟩);have B2:=aT (B1.out.trans (b2.mono B1.out.size));have E2:=aT (E1.out.below b2 E1.out.lt);clear b2;have z0:=E2.out.c0;have z1:=E2.out.c1;have z2:=E2.out.c2;have z3:=E2.out.c3;have z4:=E2.out.c4) | ((go_at_call 15;(with_reducible refine (hF _ B2.out).mono ?_);rintro e w3 ⟨rfl,b3⟩);have B3:=aT (B2.out.trans (b3.mono B2.out.size));clear b3) | ((go_at_call 49;(with_reducible refine (hG _ B3.out).mono ?_);rintro e w4 ⟨rfl,b4⟩);have B4:=aT (B3.out.trans (b4.mono B3.out.size));clear b4) | fail);go_ret;exact⟨rfl,by first | exact B4.out | exact B3.out⟩
theorem setup_box {a b c0:Int}(hW:W=w.alloc (.cells #[I a,I b,I c0] 83)):Below w.heap.size w W/\Blk W w.heap.size 83 [I a,I b,I c0]:=by
 subst hW;exact⟨ba,bH⟩
theorem walk_code (w:World)(many:Nat)(r9 pc:Int)(hF:∀ W,Below w.heap.size w W->Ca 15 #[.agg #[.slice x.A1 x.n1 x.c1,.slice x.A2 x.n2 x.c2,I p.regs,.slice x.A3 x.n3 x.c3,.slice x.A4 x.n4 x.c4]] W fun e w'=>e=.returned (.bool true)/\Below W.heap.size W w')
 (hG:∀ W,Below w.heap.size w W->Ca 49 #[.slice A n c] W fun e w'=>e=.returned (.bool true)/\Below W.heap.size W w') (hn:decide ((n:Int) > 30)=false)
 (hO:∀ W,Ca 50 #[.agg #[.int .u8 (S:Nat),.int .u8 (R:Nat),.int .u8 (C:Nat)]] W fun e w'=>e=.returned (.agg #[I (many:Nat),I r9,I pc])/\Below W.heap.size W w')
 (hN:∀ W,Below w.heap.size w W->Ca 45 #[.agg #[.slice x.A1 x.n1 x.c1,.slice x.A2 x.n2 x.c2,I p.regs,.slice x.A3 x.n3 x.c3,.slice x.A4 x.n4 x.c4],.agg #[I (many:Nat),I (many:Nat),I pc]] W fun e w'=>e=.returned (.tuple #[.pointer none,I 40])/\Below W.heap.size W w') :
 Ca 10 #[.agg #[.slice x.A1 x.n1 x.c1,.slice x.A2 x.n2 x.c2,I p.regs,.slice x.A3 x.n3 x.c3,.slice x.A4 x.n4 x.c4],.agg #[.int .u8 (S:Nat),.int .u8 (R:Nat),.int .u8 (C:Nat)],.slice A n c] w fun e w'=>e=.returned (.bool true)/\Below w.heap.size w w':=by
 have F0:=fun W hW=>front (x:=x) (p:=p) (S:=S) (R:=R) (C:=C) (w:=w) (W:=W) hW
 have hn9:(n:Int)<=9223372036854775807:=by have:=of_decide_eq_false hn;omega
 go_enter Tryz.func10,Tryz.ntmps10;go_upto_region 1 with fail;refine dv (fun W=>Below w.heap.size w W/\Blk W w.heap.size 26 [.slice x.A1 x.n1 x.c1,.slice x.A2 x.n2 x.c2,I p.regs,.slice x.A3 x.n3 x.c3,.slice x.A4 x.n4 x.c4]/\Blk W (w.heap.size+1) 92 [.int .u8 (S:Nat),.int .u8 (R:Nat),.int .u8 (C:Nat)]) (F0 _ rfl) ?_;clear F0;rintro w1 ⟨hb1,he,hr⟩;have B1:=aT hb1;have E1:=aT he;have R1:=aT hr;clear hb1 he hr;go_upto_region 5 with (first | ((go_at_call 55;(with_reducible refine (awake45 _).mono ?_);rintro e w2 ⟨rfl,b2⟩);have B2:=aT (B1.out.trans (b2.mono B1.out.size));have E2:=aT (E1.out.below b2 E1.out.lt);have R2:=aT (R1.out.below b2 R1.out.lt);clear b2;have z0:=E2.out.c0;have z1:=E2.out.c1;have z2:=E2.out.c2;have z3:=E2.out.c3;have z4:=E2.out.c4) | ((go_at_call 15;(with_reducible refine (hF _ B2.out).mono ?_);rintro e w3 ⟨rfl,b3⟩);have B3:=aT (B2.out.trans (b3.mono B2.out.size));have E3:=aT (E2.out.below b3 E2.out.lt);have R3:=aT (R2.out.below b3 R2.out.lt);clear b3 z0 z1 z2 z3 z4) | ((go_at_call 49;(with_reducible refine (hG _ B3.out).mono ?_);rintro e w4 ⟨rfl,b4⟩);have B4:=aT (B3.out.trans (b4.mono B3.out.size));have E4:=aT (E3.out.below b4 E3.out.lt);have R4:=aT (R3.out.below b4 R3.out.lt);clear b4) | fail);clear B1 E1 R1 B2 E2 R2 B3 E3 R3 hF hG;have z0:=R4.out.c0;have z1:=R4.out.c1;have z2:=R4.out.c2;go_upto_region 6 with (first | ((go_at_call 50;(with_reducible refine (hO _).mono ?_);rintro e w5 ⟨rfl,b5⟩);have B5:=aT (B4.out.trans (b5.mono B4.out.size));have E5:=aT (E4.out.below b5 E4.out.lt);clear b5 z0 z1 z2) | fail);clear B4 E4 R4 hO;refine dv (fun W=>Below w5.heap.size w5 W/\Blk W w5.heap.size 83 [I (many:Nat),I r9,I pc]) (setup_box rfl) ?_;rintro W5 ⟨b5,s5⟩;have B5':=aT (B5.out.trans (b5.mono B5.out.size));have E5':=aT (E5.out.below b5 E5.out.lt);have hgs:=E5'.out.ne_ s5 aU;have hz5:w.heap.size<=w5.heap.size:=B5.out.size;clear B5 E5 b5;generalize w5.heap.size=gs at *;have z0:=s5.c0;have z1:=s5.c1;have f1:=s5.frozen 1;have xl:=s5.lt;go_upto_region 7 with fail;have s6:Blk (W5.setCell ⟨gs,1,none⟩ (I (many:Nat))) gs 83 [I (many:Nat),I (many:Nat),I pc]:=s5.set_ 1 (I (many:Nat));have E6:=aT (E5'.out.far (p:=⟨gs,1,none⟩) hgs (I (many:Nat)));have B6:=aT (B5'.out.setCell (p:=⟨gs,1,none⟩) hz5 (I (many:Nat)));generalize W5.setCell ⟨gs,1,none⟩ (I (many:Nat))=w6 at *;clear z0 z1 f1 xl s5 B5' E5';have z0:=E6.out.c0;have z1:=E6.out.c1;have z2:=E6.out.c2;have z3:=E6.out.c3;have z4:=E6.out.c4;have u0:=s6.c0;have u1:=s6.c1;have u2:=s6.c2;go_wp2_with (first | ((go_at_call 45;(with_reducible refine (hN _ B6.out).mono ?_);rintro e w7 ⟨rfl,b7⟩);have B7:=aT (B6.out.trans (b7.mono B6.out.size));clear b7) | fail);go_ret;exact⟨rfl,B7.out⟩
theorem evW_of {evs:List DoW}(h:DosW w A n evs):EvW w A n (kSeq evs):=fun i hi=>by
 obtain⟨y,hy⟩:∃ y,evs[i]?=some y:=⟨_,ap (by rw[h.1];exact hi)⟩;obtain⟨b,o,C,q,e,B,m,c,hA,hlt,c0,c1,c2,c3,_⟩:=h.2 i y hy;exact⟨b,o,y.n,C,q,e,B,m,c,hA,hlt,by unfold kSeq;rw[hy];exact c0,c1,c2,c3⟩
theorem rpW_of {k:Nat}{rs:List (Int × Int)}(h:RdS 2 rpE w A k rs)(hb:∀ x ∈ rs,0<=x.2/\x.2<=2048):RpW w A k (eSeq rs) (nSeq rs):=fun i hi=>by
 obtain⟨b,o,y,hA,hlt,hy,hc⟩:=h.at_ mA aS hi;have:=hb y (List.mem_of_getElem? hy);refine⟨b,o,hA,hlt,?_,?_,?_,?_⟩
 · unfold eSeq;rw[hy];exact hc 0 aS
 · unfold nSeq;rw[hy];exact hc 1 aS
 · unfold nSeq;rw[hy];show -9223372036854775808<=y.2;omega
 · unfold nSeq;rw[hy];show y.2<=9223372036854775807;omega
theorem tally_box {a0 a1 a2 a3 a4 a5 a6 a7 a8 a9:Int}(hW:W=w.alloc (.cells #[I a0,I a1,I a2,I a3,I a4,I a5,I a6,I a7,I a8,I a9] 107)):Below w.heap.size w W/\Blk W w.heap.size 107 [I a0,I a1,I a2,I a3,I a4,I a5,I a6,I a7,I a8,I a9]:=by
 subst hW;exact⟨ba,bH⟩
theorem walk_main {evs:List DoW}{m:Nat}{pc:Int}(w:World)(many:Nat)(r9:Int)(V:Env p m pc many)(h13:13<=many)(hmy:many<=4096)(hl:DosW w A n evs)(hpr:dd w x p)
 (hF:∀ W,Below w.heap.size w W->Ca 15 #[.agg #[.slice x.A1 x.n1 x.c1,.slice x.A2 x.n2 x.c2,I p.regs,.slice x.A3 x.n3 x.c3,.slice x.A4 x.n4 x.c4]] W fun e w'=>e=.returned (.bool true)/\Below W.heap.size W w')
 (hG:∀ W,Below w.heap.size w W->Ca 49 #[.slice A n c] W fun e w'=>e=.returned (.bool true)/\Below W.heap.size W w') (hn:decide ((n:Int) > 30)=false)
 (hO:∀ W,Ca 50 #[.agg #[.int .u8 (S:Nat),.int .u8 (R:Nat),.int .u8 (C:Nat)]] W fun e w'=>e=.returned (.agg #[I (many:Nat),I r9,I pc])/\Below W.heap.size W w') :
 Ca 10 #[.agg #[.slice x.A1 x.n1 x.c1,.slice x.A2 x.n2 x.c2,I p.regs,.slice x.A3 x.n3 x.c3,.slice x.A4 x.n4 x.c4],.agg #[.int .u8 (S:Nat),.int .u8 (R:Nat),.int .u8 (C:Nat)],.slice A n c] w fun e w'=>e=.returned (.bool true)/\Below w.heap.size w w':=by
 have F0:=fun W hW=>front (x:=x) (p:=p) (S:=S) (R:=R) (C:=C) (w:=w) (W:=W) hW
 have hn30:n<=30:=by have:=of_decide_eq_false hn;omega
 have hn9:(n:Int)<=9223372036854775807:=aS;have hm2:=V.g.m2;have hN:=fun {W:World} (hb:Below w.heap.size w W)=>t_plnew (w:=W) (x:=x) V h13 hmy (fun W' hb'=>dG.old hpr (hb.trans (hb'.mono hb.size)) hb.size)
 have cA:=fun {W:World} {base gy:Nat} {q:bB} {rep:Int} (hb:Below w.heap.size w W) (hbase:w.heap.size<=base) (h:PlSt W base gy q x p m 2000 pc many (.on false [] 0 rep))=>
  all_st (c9:=c) V hl aS hb hbase h (Iv:=fun k rs st=>k<=30->StI evs m k rs st) (fun _=>StI.start ⟨by simp,by simp⟩ ⟨by simp,by simp⟩) (fun k y rs st st' v z hy hi hs hk=>(hi aS).step hy hs hm2 V.pc aS)
 have HL:=aT hl;clear hl hpr V h13 hmy;go_enter Tryz.func10,Tryz.ntmps10;go_upto_region 1 with fail;refine dv (fun W=>Below w.heap.size w W/\Blk W w.heap.size 26 [.slice x.A1 x.n1 x.c1,.slice x.A2 x.n2 x.c2,I p.regs,.slice x.A3 x.n3 x.c3,.slice x.A4 x.n4 x.c4]/\Blk W (w.heap.size+1) 92 [.int .u8 (S:Nat),.int .u8 (R:Nat),.int .u8 (C:Nat)]) (F0 _ rfl) ?_;clear F0;rintro w1 ⟨hb1,he,hr⟩;have B1:=aT hb1;have E1:=aT he;have R1:=aT hr;clear hb1 he hr;go_upto_region 5 with (first | ((go_at_call 55;(with_reducible refine (awake45 _).mono ?_);rintro e w2 ⟨rfl,b2⟩);have B2:=aT (B1.out.trans (b2.mono B1.out.size));have E2:=aT (E1.out.below b2 E1.out.lt);have R2:=aT (R1.out.below b2 R1.out.lt);clear b2;have z0:=E2.out.c0;have z1:=E2.out.c1;have z2:=E2.out.c2;have z3:=E2.out.c3;have z4:=E2.out.c4) | ((go_at_call 15;(with_reducible refine (hF _ B2.out).mono ?_);rintro e w3 ⟨rfl,b3⟩);have B3:=aT (B2.out.trans (b3.mono B2.out.size));have E3:=aT (E2.out.below b3 E2.out.lt);have R3:=aT (R2.out.below b3 R2.out.lt);clear b3 z0 z1 z2 z3 z4) | ((go_at_call 49;(with_reducible refine (hG _ B3.out).mono ?_);rintro e w4 ⟨rfl,b4⟩);have B4:=aT (B3.out.trans (b4.mono B3.out.size));have E4:=aT (E3.out.below b4 E3.out.lt);have R4:=aT (R3.out.below b4 R3.out.lt);clear b4) | fail);clear B1 E1 R1 B2 E2 R2 B3 E3 R3 hF hG;have z0:=R4.out.c0;have z1:=R4.out.c1;have z2:=R4.out.c2;go_upto_region 6 with (first | ((go_at_call 50;(with_reducible refine (hO _).mono ?_);rintro e w5 ⟨rfl,b5⟩);have B5:=aT (B4.out.trans (b5.mono B4.out.size));have E5:=aT (E4.out.below b5 E4.out.lt);clear b5 z0 z1 z2) | fail);clear B4 E4 R4 hO;refine dv (fun W=>Below w5.heap.size w5 W/\Blk W w5.heap.size 83 [I (many:Nat),I r9,I pc]) (setup_box rfl) ?_;rintro W5 ⟨b5,s5⟩;have B5':=aT (B5.out.trans (b5.mono B5.out.size));have E5':=aT (E5.out.below b5 E5.out.lt);have hgs:=E5'.out.ne_ s5 aU;have hz5:w.heap.size<=w5.heap.size:=B5.out.size;clear B5 E5 b5;generalize w5.heap.size=gs at *;have z0:=s5.c0;have z1:=s5.c1;have f1:=s5.frozen 1;have xl:=s5.lt;go_upto_region 7 with fail;have s6:Blk (W5.setCell ⟨gs,1,none⟩ (I (many:Nat))) gs 83 [I (many:Nat),I (many:Nat),I pc]:=s5.set_ 1 (I (many:Nat));have E6:=aT (E5'.out.far (p:=⟨gs,1,none⟩) hgs (I (many:Nat)));have B6:=aT (B5'.out.setCell (p:=⟨gs,1,none⟩) hz5 (I (many:Nat)));generalize W5.setCell ⟨gs,1,none⟩ (I (many:Nat))=w6 at *;clear z0 z1 f1 xl s5 B5' E5';have z0:=E6.out.c0;have z1:=E6.out.c1;have z2:=E6.out.c2;have z3:=E6.out.c3;have z4:=E6.out.c4;have u0:=s6.c0;have u1:=s6.c1;have u2:=s6.c2;go_upto_region 10 with (first | ((go_at_call 45;(with_reducible refine (hN B6.out).mono ?_);rintro e w7 ⟨q,gy,rep,rfl,h7,b7⟩);have H7:=aT h7;have B7:=aT (B6.out.trans (b7.mono B6.out.size));clear h7 b7 z0 z1 z2 z3 z4 u0 u1 u2) | fail);clear hN;go_upto_region 11 with (first | ((go_at_call 52;(with_reducible refine (cA B7.out B6.out.size H7.out).mono ?_);rintro e w8 ⟨A8,c8,rs,st8,rfl,o8,i8,h8,s8⟩);have O8:=aT o8;have I8:=aT (i8 hn30);have H8:=aT h8;have B8:=aT (B7.out.trans (s8.bel.mono B6.out.size));clear o8 i8 h8 s8) | ((go_at_call 56;(with_reducible refine (of_any A A8 n c c8 (kSeq evs) (eSeq rs) (nSeq rs) w8 (evW_of (HL.out.below B8.out aX)) (rpW_of O8.out.rd I8.out.nb) bU).mono ?_);rintro e w9 ⟨rfl,b9⟩);have H9:=aT (H8.out.below b9);have B9:=aT (B8.out.trans (b9.mono B8.out.size));clear b9) | fail)
 refine dv (fun W=>Below w9.heap.size w9 W/\Blk W w9.heap.size 107 [I ((ofN (kSeq evs) (eSeq rs) (nSeq rs) n) 0),I ((ofN (kSeq evs) (eSeq rs) (nSeq rs) n) 1),I ((ofN (kSeq evs) (eSeq rs) (nSeq rs) n) 2),I ((ofN (kSeq evs) (eSeq rs) (nSeq rs) n) 3),I ((ofN (kSeq evs) (eSeq rs) (nSeq rs) n) 4),I ((ofN (kSeq evs) (eSeq rs) (nSeq rs) n) 5),I ((ofN (kSeq evs) (eSeq rs) (nSeq rs) n) 6),I ((ofN (kSeq evs) (eSeq rs) (nSeq rs) n) 7),I ((ofN (kSeq evs) (eSeq rs) (nSeq rs) n) 8),I ((ofN (kSeq evs) (eSeq rs) (nSeq rs) n) 9)]) (tally_box rfl) ?_;rintro w10 ⟨b10,k10⟩;have H10:=aT (H9.out.below b10);have B10:=aT (B9.out.trans (b10.mono B9.out.size));have K10:=aT k10;clear b10 k10 H9 B9 H8 B8 H7 B7 O8 HL cA B6 E6 s6;generalize w9.heap.size=gt at *;obtain⟨_,gh,_,t0,tb,t5,t7,ts,told⟩:=I8.out;have hst:=st_told H10.out gh told hm2;clear I8 gh told;generalize ofN (kSeq evs) (eSeq rs) (nSeq rs) n=T at *;obtain⟨l0,r0⟩:=tb 0;obtain⟨l1,r1⟩:=tb 1;obtain⟨l2,r2⟩:=tb 2;obtain⟨l3,r3⟩:=tb 3;obtain⟨l5,r5⟩:=tb 5;obtain⟨l6,r6⟩:=tb 6;obtain⟨l8,r8⟩:=tb 8;obtain⟨l9,r9'⟩:=tb 9;clear tb;have q0:=K10.out.c0;have q1:=K10.out.c1;have q2:=K10.out.c2;have q3:=K10.out.c3;have q4:=K10.out.c4;have q5:=K10.out.c5;have q6:=K10.out.c6;have q7:=K10.out.c7;have q8:=K10.out.c8;have q9:=K10.out.c9;generalize T 0=a0 at *;generalize T 1=a1 at *;generalize T 2=a2 at *;generalize T 3=a3 at *;generalize T 4=a4 at *;generalize T 5=a5 at *;generalize T 6=a6 at *;generalize T 7=a7 at *;generalize T 8=a8 at *;generalize T 9=a9 at *;have d0:(a0 != (n:Int))=false:=by rw[bne_eq_false_iff_eq];exact t0
 have d5:decide (a5 > a4)=false:=aj aS;have d7:decide (a7 > a6)=false:=aj aS;have w1:IntKind.i64.wrap (a8+a9)=a8+a9:=by rw[IntKind.wrap_i64];omega
 have w2:IntKind.i64.wrap (a8+a9+a1)=a8+a9+a1:=by rw[IntKind.wrap_i64];omega
 have w3:IntKind.i64.wrap (a8+a9+a1+a3)=a8+a9+a1+a3:=by rw[IntKind.wrap_i64];omega
 have w4:IntKind.i64.wrap (a8+a9+a1+a3+a5)=a8+a9+a1+a3+a5:=by rw[IntKind.wrap_i64];omega
 have d9:decide (a8+a9+a1+a3+a5 > a0)=false:=aj aS;have h6:Hid (0<=a6/\a6<=1000000):=⟨l6,aS⟩;clear t0 t5 t7 ts l0 r0 l1 r1 l2 r2 l3 r3 l5 r5 l6 r6 l8 r8 l9 r9' hn30;rcases hst with hY | ⟨g,L,hY,e1,e2,e3,hS⟩
 · have cE:=lI hY;go_upto_region 14 with (first | (go_at_call 46;(with_reducible refine (cE).mono ?_);rintro e w11 ⟨rfl,rfl⟩) | fail);go_big_quiet (fail);go_wp2_with fail;go_ret;exact⟨rfl,B10.out.trans ((below_drewN (Below.refl w10.heap.size w10) _).mono B10.out.size)⟩
 · have cE:=lI hY;go_upto_region 14 with (first | (go_at_call 46;(with_reducible refine (cE).mono ?_);rintro e w11 ⟨rfl,rfl⟩) | fail);have hf0:=fun a b c d f W=>statf0 (L:Nat) a b c d f W
   have x1:decide ((L:Int) ≥ a1)=true:=am e1;have x2:IntKind.i64.wrap ((L:Int)+a6)=(L:Int)+a6:=by have:=h6.out;rw[IntKind.wrap_i64];omega
   have x3:decide (a2<=(L:Int)+a6)=true:=am e2;have b9:Below w10.heap.size w10 w10.drew:=Below.drew (Below.refl _ _);clear q0 q3 q4 q5 q7 q8 q9 d0 d5 d7 w1 w2 w3 w4 d9;refine wp_region_held_drew (S:=fun w'=>w'.cell? ⟨gt,1,none⟩=some (I a1)/\w'.cell? ⟨gt,2,none⟩=some (I a2)/\w'.cell? ⟨gt,6,none⟩=some (I a6)) bE ⟨q1,q2,q6⟩ (fun hHeld=>?_);refine aV 0 ?_;refine aV 1 ?_;refine aV 2 ?_;refine aV 3 ?_;refine aV 6 ?_;refine aV 7 ?_ (hy:=Or.inl ⟨by rfl,eC⟩);refine bI 4 (fun K hK=>?_);go_simp
   (go_at_call 29;(with_reducible refine (hS _ b9).mono ?_);rintro e w12 ⟨u1,u2,u3,u4,u5,rfl,b12⟩)
   replace b9:=b9.trans (b12.mono b9.size);have K12:=K10.out.below b9 K10.out.lt;clear q1 q2 q6 b12;have q1:=K12.c1;have q2:=K12.c2;have q6:=K12.c6;refine hK.out _ _ (⟨q1,q2,q6⟩) (fun hHeld=>?_);clear hK K;refine bu ?_;refine aV 5 ?_;refine aV 8 ?_;refine aV 9 ?_;refine aV 10 ?_;refine aV 11 ?_ (hy:=Or.inl ⟨by rfl,eC⟩);refine aV 12 ?_;refine aV 15 ?_;refine aV 16 ?_ (hy:=Or.inl ⟨by rfl,eC⟩);refine bI 13 (fun K hK=>?_);go_simp
   (go_at_call 29;(with_reducible refine (hS _ b9).mono ?_);rintro e w13 ⟨u6,u7,u8,u9,u10,rfl,b13⟩)
   replace b9:=b9.trans (b13.mono b9.size);have K13:=K10.out.below b9 K10.out.lt;clear q1 q2 q6 b13 K12;have q1:=K13.c1;have q2:=K13.c2;have q6:=K13.c6;refine hK.out _ _ (⟨q1,q2,q6⟩) (fun hHeld=>?_);clear hK K;refine bu ?_;refine aV 14 ?_;refine aV 17 ?_;refine aV 18 ?_;refine aV 19 ?_;refine aV 20 ?_;refine aV 21 ?_;refine wpAnyH_done bO ?_ _;go_wp2_with fail;go_ret;exact⟨rfl,B10.out.trans (b9.mono B10.out.size)⟩
theorem walk (w:World)(v0:Value)(x0:∃ x p,v0=.agg #[.slice x.A1 x.n1 x.c1,.slice x.A2 x.n2 x.c2,I p.regs,.slice x.A3 x.n3 x.c3,.slice x.A4 x.n4 x.c4]/\dd w x p/\ProgAll p)(v1:Value)(x1:∃ s r c:Nat,v1=.agg #[.int .u8 s,.int .u8 r,.int .u8 c]/\s<256/\r<256/\c<256)(v2:Value)(x2:∃ A n c l,v2=.slice A n c/\DosW w A n l/\n<=c/\c<=maxLen) :
 Ca 10 #[v0,v1,v2] w fun e w'=>e=.returned (.bool true)/\Below w.heap.size w w':=by
 obtain⟨x,p,rfl,hp,hpa⟩:=x0;obtain⟨S,R,C,rfl,s1,s2,s3⟩:=x1;obtain⟨A,n,c,evs,rfl,hl,hnc,hcm⟩:=x2;have hw:el p:=progAll_wfP hpa;have hnm:n<=maxLen:=ae hnc hcm;have hn9:(n:Int)<=9223372036854775807:=by unfold maxLen at hnm;omega
 have hG:∀ W,Below w.heap.size w W->Ca 49 #[.slice A n c] W fun e w'=>e=.returned (.bool (gO evs))/\Below W.heap.size W w':=fun W hb=>few39_any A n c evs W (hl.below hb aX) hnm
 by_cases hf:few28 x
 rotate_left 1
 · exact oD w false (gO evs) (fun W hb=>few28_no x p W (hp.below (b:=w.heap.size) hb aX) hf) hG hn9 (.inl rfl)
 have hF:∀ W,Below w.heap.size w W->Ca 15 #[.agg #[.slice x.A1 x.n1 x.c1,.slice x.A2 x.n2 x.c2,I p.regs,.slice x.A3 x.n3 x.c3,.slice x.A4 x.n4 x.c4]] W fun e w'=>e=.returned (.bool true)/\Below W.heap.size W w':=fun W hb=>few28_yes x p.regs W hf
 cases hv:gO evs with
 | false=>
   rw[hv] at hG;exact oD w true false hF hG hn9 (.inr (.inl ⟨rfl,rfl⟩))
 | true=>
   rw[hv] at hG
   by_cases h30:30<n
   · exact oD w true true hF hG hn9 (.inr (.inr ⟨rfl,rfl,am aS⟩))
   have hn:decide ((n:Int) > 30)=false:=aj aS;obtain⟨many,hmany⟩:∃ many:Nat,(S:Int) % 16+31=(many:Int):=⟨S % 16+31,aS⟩;have hO:=fun W=>of40_any (s:=S) (r:=R) (c:=C) W s1 s2 s3
   rw[hmany] at hO
   cases hvb:dw p with
   | false=>exact walk_code w many _ _ hF hG hn hO (fun W hb=>pn_code (fun W' hb'=>hp.below (b:=w.heap.size) (hb.trans (hb'.mono hb.size)) aX) hw hvb aS aS)
   | true=>exact walk_main w many _ (Env.of hvb hw aS aS rfl aS aS) aS aS hl hp hF hG hn hO
end
theorem own:ownKnob Tryz.prog.godebug=none:=by kernel_rfl
theorem lu:laidOutB Tryz.prog=true:=by kernel_rfl
theorem lifted (os:Os)(started:os.Started)(H:Type)(enc:TypeId × Value->H) :
 ReturnsInHanded {} Tryz.checked os 10 .any (Rows.statPlaysSpec.pre6 enc Tryz.prog Tryz.f10 Rows.statPlaysRow.domain false) (Rows.statPlaysSpec.post enc Tryz.prog Tryz.f10 false true false false):=by
 refine returnsInHanded_of_change (C:=Tryz.checked) own started bE Tryz.func10
  (ChangeSpec.witness6 (enc:=enc) (C:=Tryz.checked) false ⟨#[],#[.agg #[.slice none 0 0,.slice none 0 0,I 0,.slice none 0 0,.slice none 0 0],.agg #[.int .u8 0,.int .u8 0,.int .u8 0],.slice none 0 0],[]⟩ 8 bE bE bE bE) ?_
 intro W base args ds gs before hval0 hW hcnd _;have hval:∀ (j:Nat) t v,Tryz.f10.params[j]?=some t->args[j]?=some v->Value.okWide Tryz.prog W .any base t v:=hval0;have hW':=hW;obtain⟨p,q,hA0,hV,rfl,hfz,hnd⟩:=hW;have hA:DataW.TrodAll enc Tryz.prog W 0 (fun _=>true) true Tryz.f10.params.toList args.toList ds p:=hA0;rw[Tryz.params10] at hA hval;obtain⟨v0,qd,d0,ds0,p0,q0,hargs,rfl,rfl,h0,rr0⟩:=trodAll_cons hA;obtain⟨v1,rR,d1,ds1,p1,q1,rfl,rfl,rfl,h1,rr1⟩:=trodAll_cons rr0;obtain⟨v2,rS,d2,ds2,p2,q2,rfl,rfl,rfl,h2,rr2⟩:=trodAll_cons rr1;obtain⟨rfl,rfl,rfl⟩:=trodAll_nil rr2;obtain rfl:args=#[v0,v1,v2]:=by cases args;simp_all
 obtain⟨rfl,rfl⟩:=trodVars_none hV;have k0:=h0;have lt0:∀ x ∈ p0,x.block<W.heap.size:=by obtain⟨m,hm⟩:=k0;exact DataW.trod_lt m _ _ _ hm
 have x0:=args_prog (hval 0 26 v0 rfl rfl) h0;have k1:=h1;have lt1:∀ x ∈ p1,x.block<W.heap.size:=by obtain⟨m,hm⟩:=k1;exact DataW.trod_lt m _ _ _ hm
 have x1:=args_set40 (hval 1 92 v1 rfl rfl) h1;have k2:=h2;have lt2:∀ x ∈ p2,x.block<W.heap.size:=by obtain⟨m,hm⟩:=k2;exact DataW.trod_lt m _ _ _ hm
 have x2:=args_evs (hval 2 93 v2 rfl rfl) h2;clear hA0 hval0;refine (walk W v0 x0 v1 x1 v2 x2).mono fun e W' ⟨he,bel⟩=>?_
 subst he;exact⟨_,rfl,_,_,_,[],_,[],hW',trodAll_mk1 (shut_bool Tryz.underlying4 _),(trodAll_cons_mk (Below.trod lu bE (of_decide_eq_true bE) k0 bel lt0) (trodAll_cons_mk (Below.trod lu bE (of_decide_eq_true bE) k1 bel lt1) (trodAll_cons_mk (Below.trod lu bE (of_decide_eq_true bE) k2 bel lt2) trodAll_mk0))),rfl,bel.frame _,fun h=>by cases h⟩
theorem oA:(Rows.statPlaysRow.inPlace == Tryz.prog.inPlace 10)=true:=by kernel_rfl
theorem oB:(Rows.statPlaysRow.unfollowed == Tryz.prog.unfollowed 10)=true:=by kernel_rfl
theorem oC:(Rows.statPlaysRow.recurses == Tryz.prog.recurses 10)=true:=by kernel_rfl
theorem cNamed:(Rows.statPlaysRow.named == Tryz.prog.varsNamed 10)=true:=by kernel_rfl
theorem closed:joinedFacts Tryz.prog 10 Tryz.f10 Rows.statPlaysSpec Rows.statPlaysRow=true:=by
 unfold joinedFacts;rw[oA,oB,oC,cNamed]
 kernel_rfl
theorem over:Rows.statPlaysRow.holds Tryz.pinned (OpenSpec.ofChange Rows.statPlaysSpec) :=
 OpenClaim.holds_of_wide 10 Tryz.f10 rfl rfl rfl rfl rfl rfl rfl ⟨rfl,rfl,rfl,rfl,rfl⟩ rfl rfl rfl rfl rfl bE Tryz.func10 closed
  (of_decide_eq_true bE) oP
  (fun os started H enc _=>lifted os started H enc)
theorem proved:Rows.StatPlaysSaid:=over
end Go.Proofs.YtmeebofhlilcmaaGreat.statPlays
