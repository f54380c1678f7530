/- ModelPlays. -/
import Derived.Test.YtmeebofhlilcmaaGreatPr35
set_option maxRecDepth 100000
set_option maxHeartbeats 0
namespace Go.Proofs.YtmeebofhlilcmaaGreat.modelPlays
open Go.ChangeShapes Go.WideShapes Go.ChangeAt Go.RowKit Go.Deep Go.Joins
set_option linter.unusedVariables false
set_option linter.unusedSimpArgs false
section
variable {x:PA} {p:PV} {S R C n c:Nat} {A:Option Addr}
theorem progAll_wf {p:PV}(h:ProgAll p):eO p :=
 ⟨fun x hx=>(h.cells x hx).2,fun x hx=>⟨(h.code x hx).2.1.2,(h.code x hx).2.2.1.2,(h.code x hx).2.2.2.1.2,(h.code x hx).2.2.2.2.1,(h.code x hx).2.2.2.2.2⟩⟩
theorem front {w W:World}(hW:W=(w.alloc (.cells #[.slice x.A1 x.n1 x.c1,.slice x.A2 x.n2 x.c2,I p.regs,.slice x.A3 x.n3 x.c3,.slice x.A4 x.n4 x.c4] 26)).alloc (.cells #[.int .u8 (S:Nat),.int .u8 (R:Nat),.int .u8 (C:Nat)] 92)) :
 Below w.heap.size w W/\Blk W w.heap.size 26 [.slice x.A1 x.n1 x.c1,.slice x.A2 x.n2 x.c2,I p.regs,.slice x.A3 x.n3 x.c3,.slice x.A4 x.n4 x.c4]/\Blk W (w.heap.size+1) 92 [.int .u8 (S:Nat),.int .u8 (R:Nat),.int .u8 (C:Nat)]:=by
 subst hW;exact⟨bc,bI,bI⟩
theorem mX (w:World)(b1 b2 b3:Bool)(hF:∀ W,Below w.heap.size w W->Ca 15 #[.agg #[.slice x.A1 x.n1 x.c1,.slice x.A2 x.n2 x.c2,I p.regs,.slice x.A3 x.n3 x.c3,.slice x.A4 x.n4 x.c4]] W fun e w'=>e=.returned (.bool b1)/\Below W.heap.size W w')
 (hG:∀ W,Below w.heap.size w W->Ca 49 #[.slice A n c] W fun e w'=>e=.returned (.bool b2)/\Below W.heap.size W w') (hn:(n:Int)<=9223372036854775807)
 (hK:∀ W,Below w.heap.size w W->Ca 17 #[.agg #[.slice x.A1 x.n1 x.c1,.slice x.A2 x.n2 x.c2,I p.regs,.slice x.A3 x.n3 x.c3,.slice x.A4 x.n4 x.c4]] W fun e w'=>e=.returned (.bool b3)/\Below W.heap.size W w')
 (hq:b1=false\/(b1=true/\b2=false)\/(b1=true/\b2=true/\decide ((n:Int) > 30)=true)\/(b1=true/\b2=true/\decide ((n:Int) > 30)=false/\b3=false)) :
 Ca 12 #[.agg #[.slice x.A1 x.n1 x.c1,.slice x.A2 x.n2 x.c2,I p.regs,.slice x.A3 x.n3 x.c3,.slice x.A4 x.n4 x.c4],.agg #[.int .u8 (S:Nat),.int .u8 (R:Nat),.int .u8 (C:Nat)],.slice A n c] w fun e w'=>e=.returned (.bool true)/\Below w.heap.size w w':=by
 have F0:=fun W hW=>front (x:=x) (p:=p) (S:=S) (R:=R) (C:=C) (w:=w) (W:=W) hW
 rcases hq with rfl | ⟨rfl,rfl⟩ | ⟨rfl,rfl,d1⟩ | ⟨rfl,rfl,d1,rfl⟩
 all_goals
  go_enter Tryz.func12,Tryz.ntmps12;go_upto_region 1 with fail;refine eG (fun W=>Below w.heap.size w W/\Blk W w.heap.size 26 [.slice x.A1 x.n1 x.c1,.slice x.A2 x.n2 x.c2,I p.regs,.slice x.A3 x.n3 x.c3,.slice x.A4 x.n4 x.c4]/\Blk W (w.heap.size+1) 92 [.int .u8 (S:Nat),.int .u8 (R:Nat),.int .u8 (C:Nat)]) (F0 _ rfl) ?_;clear F0;rintro w1 ⟨hb1,he,hr⟩;have B1:=aT hb1;have E1:=aT he;clear hb1 he hr;go_wp2_with (first | ((go_at_call 57;go_call (awake41 _) as e w2 ⟨rfl,b2⟩);have B2:=aT (B1.out.trans (b2.mono B1.out.size));have E2:=aT (E1.out.below b2 E1.out.lt);clear b2;have z0:=E2.out.c0;have z1:=E2.out.c1;have z2:=E2.out.c2;have z3:=E2.out.c3;have z4:=E2.out.c4) | ((go_at_call 15;go_call (hF _ B2.out) as e w3 ⟨rfl,b3⟩);have B3:=aT (B2.out.trans (b3.mono B2.out.size));have E3:=aT (E2.out.below b3 E2.out.lt);clear b3) | ((go_at_call 49;go_call (hG _ B3.out) as e w4 ⟨rfl,b4⟩);have B4:=aT (B3.out.trans (b4.mono B3.out.size));have E4:=aT (E3.out.below b4 E3.out.lt);clear b4 z0 z1 z2 z3 z4;have z0:=E4.out.c0;have z1:=E4.out.c1;have z2:=E4.out.c2;have z3:=E4.out.c3;have z4:=E4.out.c4) | ((go_at_call 17;go_call (hK _ B4.out) as e w5 ⟨rfl,b5⟩);have B5:=aT (B4.out.trans (b5.mono B4.out.size));clear b5) | fail);go_ret;exact⟨rfl,by first | exact B5.out | exact B4.out | exact B3.out⟩
theorem setup_box {w W:World}{a b c0:Int}(hW:W=w.alloc (.cells #[I a,I b,I c0] 83)):Below w.heap.size w W/\Blk W w.heap.size 83 [I a,I b,I c0]:=by
 subst hW;exact⟨bc,bI⟩
theorem walk_main {evs:List DoW}{pc r9:Int}(w:World)(many m:Nat)(V:Env p m pc many)(h13:13<=many)(hmm:many<=4096)(hm1:1<=m/\m<=1024)(hpc:1<=pc/\pc<=1024)(hl:DosW w A n evs)(hp:cC w x p)(hQF:Hid (∀ (k:Nat) (y:DoW),evs[k]?=some y->y.l.length<=100000))
 (hF:∀ W,Below w.heap.size w W->Ca 15 #[.agg #[.slice x.A1 x.n1 x.c1,.slice x.A2 x.n2 x.c2,I p.regs,.slice x.A3 x.n3 x.c3,.slice x.A4 x.n4 x.c4]] W fun e w'=>e=.returned (.bool true)/\Below W.heap.size W w')
 (hG:∀ W,Below w.heap.size w W->Ca 49 #[.slice A n c] W fun e w'=>e=.returned (.bool true)/\Below W.heap.size W w') (hn:decide ((n:Int) > 30)=false)
 (hK:∀ W,Below w.heap.size w W->Ca 17 #[.agg #[.slice x.A1 x.n1 x.c1,.slice x.A2 x.n2 x.c2,I p.regs,.slice x.A3 x.n3 x.c3,.slice x.A4 x.n4 x.c4]] W fun e w'=>e=.returned (.bool true)/\Below W.heap.size W w')
 (hO:∀ W,Ca 50 #[.agg #[.int .u8 (S:Nat),.int .u8 (R:Nat),.int .u8 (C:Nat)]] W fun e w'=>e=.returned (.agg #[I (many:Nat),I r9,I pc])/\Below W.heap.size W w')
 (hLg:∀ W,Ca 18 #[I (many:Nat)] W fun e w'=>e=.returned (I (m:Nat))/\W=w') :
 Ca 12 #[.agg #[.slice x.A1 x.n1 x.c1,.slice x.A2 x.n2 x.c2,I p.regs,.slice x.A3 x.n3 x.c3,.slice x.A4 x.n4 x.c4],.agg #[.int .u8 (S:Nat),.int .u8 (R:Nat),.int .u8 (C:Nat)],.slice A n c] w fun e w'=>e=.returned (.bool true)/\Below w.heap.size w w':=by
 have F0:=fun W hW=>front (x:=x) (p:=p) (S:=S) (R:=R) (C:=C) (w:=w) (W:=W) hW
 have hn30:n<=30:=by have:=of_decide_eq_false hn;omega
 have HV:=aT V;have HL:=aT hl;have HP:=aT hp;clear V hl hp;go_enter Tryz.func12,Tryz.ntmps12;go_upto_region 1 with fail;refine eG (fun W=>Below w.heap.size w W/\Blk W w.heap.size 26 [.slice x.A1 x.n1 x.c1,.slice x.A2 x.n2 x.c2,I p.regs,.slice x.A3 x.n3 x.c3,.slice x.A4 x.n4 x.c4]/\Blk W (w.heap.size+1) 92 [.int .u8 (S:Nat),.int .u8 (R:Nat),.int .u8 (C:Nat)]) (F0 _ rfl) ?_;clear F0;rintro w1 ⟨hb1,he,hr⟩;have B1:=aT hb1;have E1:=aT he;have R1:=aT hr;clear hb1 he hr;go_upto_region 5 with (first | ((go_at_call 57;go_call (awake41 _) as e w2 ⟨rfl,b2⟩);have B2:=aT (B1.out.trans (b2.mono B1.out.size));have E2:=aT (E1.out.below b2 E1.out.lt);have R2:=aT (R1.out.below b2 R1.out.lt);clear b2;have z0:=E2.out.c0;have z1:=E2.out.c1;have z2:=E2.out.c2;have z3:=E2.out.c3;have z4:=E2.out.c4) | ((go_at_call 15;go_call (hF _ B2.out) as e w3 ⟨rfl,b3⟩);have B3:=aT (B2.out.trans (b3.mono B2.out.size));have E3:=aT (E2.out.below b3 E2.out.lt);have R3:=aT (R2.out.below b3 R2.out.lt);clear b3 z0 z1 z2 z3 z4) | ((go_at_call 49;go_call (hG _ B3.out) as e w4 ⟨rfl,b4⟩);have B4:=aT (B3.out.trans (b4.mono B3.out.size));have E4:=aT (E3.out.below b4 E3.out.lt);have R4:=aT (R3.out.below b4 R3.out.lt);clear b4;have z0:=E4.out.c0;have z1:=E4.out.c1;have z2:=E4.out.c2;have z3:=E4.out.c3;have z4:=E4.out.c4) | ((go_at_call 17;go_call (hK _ B4.out) as e w5 ⟨rfl,b5⟩);have B5:=aT (B4.out.trans (b5.mono B4.out.size));have E5:=aT (E4.out.below b5 E4.out.lt);have R5:=aT (R4.out.below b5 R4.out.lt);clear b5 z0 z1 z2 z3 z4) | fail);clear B1 E1 R1 B2 E2 R2 B3 E3 R3 B4 E4 R4 hF hG hK;have z0:=R5.out.c0;have z1:=R5.out.c1;have z2:=R5.out.c2;go_upto_region 6 with (first | ((go_at_call 50;go_call (hO _) as e w6 ⟨rfl,b6⟩);have B6:=aT (B5.out.trans (b6.mono B5.out.size));have E6:=aT (E5.out.below b6 E5.out.lt);clear b6 z0 z1 z2) | fail);clear B5 E5 R5 hO;refine eG (fun W=>Below w6.heap.size w6 W/\Blk W w6.heap.size 83 [I (many:Nat),I r9,I pc]) (setup_box rfl) ?_;rintro W7 ⟨b7,s7⟩;have B7':=aT (B6.out.trans (b7.mono B6.out.size));have E7':=aT (E6.out.below b7 E6.out.lt);have hgs:=E7'.out.ne_ s7 aU;have hz5:w.heap.size<=w6.heap.size:=B6.out.size;clear B6 E6 b7;generalize w6.heap.size=gs at *;have z0:=s7.c0;have z1:=s7.c1;have f1:=s7.frozen 1;have xl:=s7.lt;go_upto_region 7 with fail;have s8:Blk (W7.setCell ⟨gs,1,none⟩ (I (many:Nat))) gs 83 [I (many:Nat),I (many:Nat),I pc]:=s7.set_ 1 (I (many:Nat));have E8:=aT (E7'.out.far (p:=⟨gs,1,none⟩) hgs (I (many:Nat)));have B8:=aT (B7'.out.setCell (p:=⟨gs,1,none⟩) hz5 (I (many:Nat)));generalize W7.setCell ⟨gs,1,none⟩ (I (many:Nat))=w8 at *;have S8:=aT s8;clear z0 z1 f1 xl s7 s8 B7' E7';have z0:=E8.out.c0;have z1:=E8.out.c1;have z2:=E8.out.c2;have z3:=E8.out.c3;have z4:=E8.out.c4;have u0:=S8.out.c0;have u1:=S8.out.c1;have u2:=S8.out.c2;have sz8:=B8.out.size;have PA:=aT (show ∀ W,Below w8.heap.size w8 W->ej W w8.heap.size x p from fun W hb=>ej.old (base:=w8.heap.size) HP.out (B8.out.trans (hb.mono sz8)) sz8);go_upto_region 8 with (first | ((go_at_call 45;go_call (t_plnew HV.out h13 hmm PA.out) as e w9 ⟨q,gy,rep,rfl,p9,b9⟩);have Q9:=aT p9;have B9:=aT b9;have E9:=aT (E8.out.below b9 E8.out.lt);have S9:=aT (S8.out.below b9 S8.out.lt);clear p9 b9 z0 z1 z2 z3 z4 u0 u1 u2) | fail);have b99:Below w9.heap.size w9 w9.drew:=Below.drew (Below.refl _ _);have z0:=E9.out.c0;have z1:=E9.out.c1;have z2:=E9.out.c2;have z3:=E9.out.c3;have z4:=E9.out.c4;have u0:=S9.out.c0;have u2:=S9.out.c2;have sz9:=B9.out.size
 have cM:=mdnew_any HV.out.w.hv HV.out.w.hw (PA.out w9.drew (B9.out.trans (b99.mono sz9))).rd hm1 hpc;go_region_held3 (fun w'=>w'.cell? ⟨w.heap.size,0,none⟩=some (.slice x.A1 x.n1 x.c1)/\w'.cell? ⟨w.heap.size,1,none⟩=some (.slice x.A2 x.n2 x.c2)/\w'.cell? ⟨w.heap.size,2,none⟩=some (I p.regs)/\w'.cell? ⟨w.heap.size,3,none⟩=some (.slice x.A3 x.n3 x.c3)/\w'.cell? ⟨w.heap.size,4,none⟩=some (.slice x.A4 x.n4 x.c4)/\w'.cell? ⟨gs,0,none⟩=some (I (many:Nat))/\w'.cell? ⟨gs,2,none⟩=some (I pc)) (first | go_keep | (refine⟨?_,?_,?_,?_,?_,?_,?_⟩ <;> assumption)) (first | (go_at_call 18;go_call (hLg _) as e wL ⟨rfl,rfl⟩) | ((go_at_call 58;go_call (cM) as e w10 ⟨gm,rfl,m10,b10⟩);have b9t:=b99.trans b10;have M10:=aT (m10 w8.heap.size sz9);have Q10:=aT (Q9.out.below b9t);have B10:=aT (B9.out.trans (b9t.mono sz9));have E10:=aT (E9.out.below b9t E9.out.lt);have S10:=aT (S9.out.below b9t S9.out.lt);clear m10 b10 z0 z1 z2 z3 z4 u0 u2;have z0:=E10.out.c0;have z1:=E10.out.c1;have z2:=E10.out.c2;have z3:=E10.out.c3;have z4:=E10.out.c4;have u0:=S10.out.c0;have u2:=S10.out.c2) | fail);clear cM z0 z1 z2 z3 z4 u0 u2 b99 b9t Q9 B9 E9 S9 E8 S8;have MP0:=aT (show MPIn w8 w10 w8.heap.size gy gm q x p m pc many 0 from ⟨_,_,Q10.out,⟨Nat.le_refl _,Nat.zero_le _⟩,⟨Nat.zero_le _,rfl,rfl,rfl,rfl,rfl,rfl⟩,⟨Int.le_refl _,Int.le_refl _⟩,M10.out,B10.out⟩);clear Q10 M10 B10 E10 S10;go_upto_region 12 with fail;go_loopw [68] (fun i wr=>∃ k:Nat,k<=n/\i=I (k:Nat)/\Hid (MPIn w8 wr w8.heap.size gy gm q x p m pc many k)) (fun i _=>n - (intOf i).toNat)
 case atStart=>exact⟨0,aS,rfl,MP0.out⟩
 case round=>
  clear MP0;obtain⟨k,hk,rfl,hin⟩:=hrel
  by_cases hlt:k<n
  · obtain⟨M,st,hQ0,hg0,hrel0,hok0,hM0,hB0⟩:=hin.out;have hQ:=aT hQ0;have hG:=aT hg0;have hR:=aT hrel0;have hOK:=aT hok0;have hM:=aT hM0;have hB:=aT hB0;clear hQ0 hg0 hrel0 hok0 hM0 hB0 hin;have hBw:=aT (B8.out.trans (hB.out.mono sz8));have sw:=hB.out.size;obtain⟨y,hy⟩:∃ y,evs[k]?=some y:=⟨_,ap (by rw[HL.out.1];exact hlt)⟩;obtain⟨b,o,C1,q1,e1,Bx,m1,c1,hA,hbl,d0,d1,d2,d3,hi,k1,k2,hr,k3,k4,b1,b2,b3⟩:=HL.out.2 k y hy;have hcell:=fun j=>hBw.out.cell (p:=⟨b,j,none⟩) hbl
    have e0':wr.cell? ⟨b,o+k * 4,none⟩=some (I y.kind):=(hcell _).trans d0;have e1':wr.cell? ⟨b,o+k * 4+1,none⟩=some (I y.n):=(hcell _).trans d1;have e2':wr.cell? ⟨b,o+k * 4+2,none⟩=some (.slice C1 q1 e1):=(hcell _).trans d2;have e3':wr.cell? ⟨b,o+k * 4+3,none⟩=some (.slice Bx m1 c1):=(hcell _).trans d3;have hbl2:b<wr.heap.size:=by have:=hBw.out.size;omega
    have HI:=aT hi;have HRB:=aT hr;have Hi3:=aT b3;have Hb2:=aT b2;have Hb1:=aT b1;have HY:=aT hy;clear hcell d0 d1 d2 d3 hi hr b1 b2 b3 hy;subst hA;go_upto_region 14 with fail;refine eG (fun W=>Below wr.heap.size wr W/\Blk W wr.heap.size 98 [I y.kind,I y.n,.slice C1 q1 e1,.slice Bx m1 c1]) ⟨bc,bI⟩ ?_;rintro wa ⟨ba,xa⟩;have BA:=aT (hB.out.trans (ba.mono sw));have QA:=aT (hQ.out.below ba);have MA:=aT (hM.out.below ba);have XA:=aT xa;clear ba xa e0' e1' e2' e3' hbl2 hQ hM hB hBw;generalize wr.heap.size=ge at *;have BW:=aT (B8.out.trans (BA.out.mono sz8));have cD:=do_ev (R:=C1) (C:=Bx) (r:=q1) (r':=e1) (c1:=m1) (c1':=c1) y HV.out QA.out (HI.out.below BW.out aW) aS Hi3.out (fun W hb=>HRB.out.below (BW.out.trans (hb.mono sz8)) aW) (fun h0 g hg=>Nat.lt_of_lt_of_le (HRB.out.small h0 g hg) sz8) aS Hb2.out.2 aS;have e0:=XA.out.c0;have e1:=XA.out.c1;have e2:=XA.out.c2;have e3:=XA.out.c3;go_upto_region 15 with (first | ((go_at_call 51;go_call (cD) as e w11 ⟨v,z,rfl,s11,st',ev,p11⟩);obtain⟨DA,hdA⟩:=QA.out.disk;have M11:=aT (MA.out.pstep hdA s11);have X11:=aT (hdA.blk XA.out s11.tch aU);have B11:=aT (BA.out.trans s11.bel);have Q11:=aT p11;have EV:=aT ev;clear hdA s11 ev p11 e0 e1 e2 e3) | fail);refine eG (fun W=>Below w11.heap.size w11 W/\Blk W w11.heap.size 100 [I z,I v]) ⟨bc,bI⟩ ?_;rintro wb ⟨bb,xb⟩;have sz11:=B11.out.size;have RB:=aT xb;have B12:=aT (B11.out.trans (bb.mono sz11));have Q12:=aT (Q11.out.below bb);have M12:=aT (M11.out.below bb);have X12:=aT (X11.out.below bb X11.out.lt);clear bb xb M11 X11 B11 Q11 QA MA XA BA BW cD;generalize w11.heap.size=gr at *;have G':=aT (EV.out.ok hG.out hm1.2 hpc.2);obtain⟨M',hSee,hrel'⟩:=see_rel EV.out hG.out hR.out;have SEE:=aT hSee;have REL':=aT hrel';have OK':=aT (see_ok hSee hOK.out);obtain⟨hl1,hl2⟩:=rel_len hG.out (.inl hR.out);clear hSee hrel';have hs12:=Q12.out.hs;obtain⟨DB,hdB⟩:=Q12.out.disk;have BW:=aT (B8.out.trans (B12.out.mono sz8));have hm1b:y.b.length=m1:=HRB.out.1;rw[hm1b] at SEE;have hil:cK wb w8.heap.size C1 q1 y.l:=cK.old HI.out aS BW.out sz8;have hq1:q1<=100000:=by rw[<- HI.out.1];exact hQF.out k y HY.out
    have cS:=mdsee_any (R:=C1) (C:=Bx) (r':=e1) (c1':=c1) M12.out hdB hs12 hil hq1 SEE.out hOK.out aS aS ⟨aS,aS⟩;have e0:=X12.out.c0;have e1:=X12.out.c1;have e2:=X12.out.c2;have e3:=X12.out.c3;have x0:=RB.out.c0;have x1:=RB.out.c1;go_upto_region 17 with (first | ((go_at_call 59;go_call (cS) as e w13 ⟨rfl,m13,s13⟩);have M13:=aT m13;have Q13:=aT (Q12.out.mstep s13);have X13:=aT (hdB.blk X12.out s13.st.tch aU);have R13:=aT (hdB.blk RB.out s13.st.tch aU);have B13:=aT (B12.out.trans s13.st.bel);clear m13 s13 e0 e1 e2 e3 x0 x1 hdB cS M12 Q12 X12 RB B12) | fail);have g1:=aT G'.out.1;have ci:=t_in HV.out Q13.out;clear hil hq1 hm1b BW;go_upto_region 19 with (first | ((go_at_call 60;go_call (ci) as e w14 ⟨A1,ka,ca,za,rfl,i14,p14,s14⟩);obtain⟨DC,hdC⟩:=Q13.out.disk;have I14:=aT i14;have Q14:=aT p14;have M14:=aT (M13.out.pstep hdC s14);have X14:=aT (hdC.blk X13.out s14.tch aU);have R14:=aT (hdC.blk R13.out s14.tch aU);have B14:=aT (B13.out.trans s14.bel);clear hdC i14 p14 s14 Q13 M13 X13 R13 B13) | ((go_at_call 61;go_call (t_out HV.out Q14.out) as e w15 ⟨A2,kb,cb,zb,rfl,o15,p15,s15⟩);obtain⟨DC,hdC⟩:=Q14.out.disk;have I15:=aT (I14.out.step hdC s15 aU aU);have O15:=aT o15;have Q15:=aT p15;have M15:=aT (M14.out.pstep hdC s15);have X15:=aT (hdC.blk X14.out s15.tch aU);have R15:=aT (hdC.blk R14.out s15.tch aU);have B15:=aT (B14.out.trans s15.bel);clear hdC o15 p15 s15 Q14 M14 X14 R14 B14 I14) | fail);have e0:=X15.out.c0;have x0:=R15.out.c0
    by_cases hz:za=0/\zb=0
    · obtain⟨rfl,rfl⟩:=hz;have cT:=t_told HV.out Q15.out M15.out g1.out REL'.out OK'.out I15.out O15.out aS;go_wp2_with (first | ((go_at_call 62;go_call (cT) as e w16 ⟨rfl,M9,m16,r16,k16,p16,s16⟩);have MP:=aT (show MPIn w8 w16 w8.heap.size gy gm q x p m pc many (k+1) from ⟨M9,st',p16,g1.out,r16,k16,m16,B15.out.trans s16.st.bel⟩);clear m16 r16 k16 p16 s16) | fail);go_roundw
      case rel=>first
       | exact⟨k+1,aS,by go_num,MP.out⟩
       | ((repeat apply Exists.intro);exact⟨⟨k+1,aS,by go_num,MP.out⟩,rfl⟩)
      case measure=>simp[intOf];omega
    · have hst:(∃ k0' all' ran',st'=.off k0' all' ran')\/∃ k0' all' ran',st'=.down k0' all' ran':=by
       cases st' with
       | on a r tk rp=>exact absurd ⟨I15.out.1,O15.out.1⟩ hz
       | off k0' all' ran'=>exact .inl ⟨_,_,_,rfl⟩
       | down k0' all' ran'=>exact .inr ⟨_,_,_,rfl⟩
      have hrl:MRel M' st':=by
       rcases REL'.out with q | q
       · exact q
       · rcases hst with ⟨_,_,_,rfl⟩ | ⟨_,_,_,rfl⟩ <;> exact q.elim
      have hno:z≠0\/y.kind=4:=by
       rcases hst with ⟨k0',all',ran',e9⟩ | ⟨k0',all',ran',e9⟩
       · exact gone_not EV.out (.inl e9)
       · exact gone_not EV.out (.inr e9)
      have MP:=aT (show MPIn w8 w15 w8.heap.size gy gm q x p m pc many (k+1) from ⟨M',st',Q15.out,g1.out,hrl,OK'.out,M15.out,B15.out⟩);clear hst hrl;have hb1':(za != 0)=true\/((za != 0)=false/\(zb != 0)=true):=by
       by_cases q:za=0
       · exact .inr ⟨by rw[q];rfl,by rw[ag];exact fun q2=>hz ⟨q,q2⟩⟩
       · exact .inl (by rw[ag];exact q)
      have hb2':(z == 0)=false\/((z == 0)=true/\(y.kind != 4)=false):=by
       by_cases q:z=0
       · exact .inr ⟨by rw[q];rfl,by rw[hno.resolve_left (fun q2=>q2 q)];rfl⟩
       · exact .inl (by rw[af];exact q)
      clear hz hno ci;rcases hb1' with f1 | ⟨f1,f2⟩ <;> rcases hb2' with f3 | ⟨f3,f4⟩
      all_goals
       go_wp2_with fail;go_roundw
       case rel=>first
        | exact⟨k+1,aS,by go_num,MP.out⟩
        | ((repeat apply Exists.intro);exact⟨⟨k+1,aS,by go_num,MP.out⟩,rfl⟩)
       case measure=>simp[intOf];omega
  · have hk9:k=n:=aS;subst hk9;obtain⟨_,_,_,_,_,_,_,hB0⟩:=hin.out;have hB:=aT hB0;clear hB0 hin;go_wp2_with fail;go_ret;exact⟨rfl,B8.out.trans (hB.out.mono sz8)⟩
theorem walk (w:World)(v0:Value)(x0:∃ x p,v0=.agg #[.slice x.A1 x.n1 x.c1,.slice x.A2 x.n2 x.c2,I p.regs,.slice x.A3 x.n3 x.c3,.slice x.A4 x.n4 x.c4]/\cC w x p/\ProgAll p)(v1:Value)(x1:∃ s r c:Nat,v1=.agg #[.int .u8 s,.int .u8 r,.int .u8 c]/\s<256/\r<256/\c<256)(v2:Value)(x2:∃ A n c l,v2=.slice A n c/\DosW w A n l/\n<=c/\c<=maxLen) :
 Ca 12 #[v0,v1,v2] w fun e w'=>e=.returned (.bool true)/\Below w.heap.size w w':=by
 obtain⟨x,p,rfl,hp,hpa⟩:=x0;obtain⟨S,R,C,rfl,s1,s2,s3⟩:=x1;obtain⟨A,n,c,evs,rfl,hl,hnc,hcm⟩:=x2;have hw:eO p:=progAll_wf hpa;have hnm:n<=maxLen:=ae hnc hcm;have hn9:(n:Int)<=9223372036854775807:=by unfold maxLen at hnm;omega
 have hG:∀ W,Below w.heap.size w W->Ca 49 #[.slice A n c] W fun e w'=>e=.returned (.bool (ig evs))/\Below W.heap.size W w':=fun W hb=>few39_any A n c evs W (hl.below hb aW) hnm
 have hK:∀ W,Below w.heap.size w W->Ca 17 #[.agg #[.slice x.A1 x.n1 x.c1,.slice x.A2 x.n2 x.c2,I p.regs,.slice x.A3 x.n3 x.c3,.slice x.A4 x.n4 x.c4]] W fun e w'=>e=.returned (.bool (dF p))/\Below W.heap.size W w':=fun W hb=>rright_any (hp.below (b:=w.heap.size) hb aW)
 by_cases hf:few28 x
 rotate_left 1
 · exact mX w false (ig evs) (dF p) (fun W hb=>few28_no x p W (hp.below (b:=w.heap.size) hb aW) hf) hG hn9 hK (.inl rfl)
 have hF:∀ W,Below w.heap.size w W->Ca 15 #[.agg #[.slice x.A1 x.n1 x.c1,.slice x.A2 x.n2 x.c2,I p.regs,.slice x.A3 x.n3 x.c3,.slice x.A4 x.n4 x.c4]] W fun e w'=>e=.returned (.bool true)/\Below W.heap.size W w':=fun W hb=>few28_yes x p.regs W hf
 cases hv:ig evs with
 | false=>
   rw[hv] at hG;exact mX w true false (dF p) hF hG hn9 hK (.inr (.inl ⟨rfl,rfl⟩))
 | true=>
   rw[hv] at hG
   by_cases h30:30<n
   · exact mX w true true (dF p) hF hG hn9 hK (.inr (.inr (.inl ⟨rfl,rfl,am aS⟩)))
   have hn:decide ((n:Int) > 30)=false:=aj aS
   cases hvb:dF p with
   | false=>
     rw[hvb] at hK;exact mX w true true false hF hG hn9 hK (.inr (.inr (.inr ⟨rfl,rfl,hn,rfl⟩)))
   | true=>
     rw[hvb] at hK;obtain⟨many,hmany⟩:∃ many:Nat,(S:Int) % 16+31=(many:Int):=⟨S % 16+31,aS⟩;have hO:=fun W=>of40_any (s:=S) (r:=R) (c:=C) W s1 s2 s3
     rw[hmany] at hO;have hm9:many<=46/\31<=many:=aS;have V:Env p ((many - 11) / 2) ((C:Int) % 5+1) many:=Env.of hvb hw aS aS rfl aS aS;have hLg:∀ W,Ca 18 #[I (many:Nat)] W fun e w'=>e=.returned (I (((many - 11) / 2:Nat):Int))/\W=w':=fun W=>by
      have:=log_any (many:Nat) W
      rwa [V.lg] at this
     have hQF:Hid (∀ (k:Nat) (y:DoW),evs[k]?=some y->y.l.length<=100000):=fun k y hy=>by
      have:=(qh hv).2 y (List.mem_of_getElem? hy);omega
     exact walk_main w many _ V aS aS aS aS hl hp hQF hF hG hn hK hO hLg
end
theorem own:ownKnob Tryz.prog.godebug=none:=by kernel_rfl
theorem laidOut:laidOutB Tryz.prog=true:=by kernel_rfl
theorem lifted (os:Os)(started:os.Started)(H:Type)(enc:TypeId × Value->H) :
 ReturnsInHanded {} Tryz.checked os 12 .any (Rows.modelPlaysSpec.pre6 enc Tryz.prog Tryz.f12 Rows.modelPlaysRow.domain false) (Rows.modelPlaysSpec.post enc Tryz.prog Tryz.f12 false true false false):=by
 refine returnsInHanded_of_change (C:=Tryz.checked) own started bM Tryz.func12
  (ChangeSpec.witness6 (enc:=enc) (C:=Tryz.checked) false ⟨#[],#[.agg #[.slice none 0 0,.slice none 0 0,I 0,.slice none 0 0,.slice none 0 0],.agg #[.int .u8 0,.int .u8 0,.int .u8 0],.slice none 0 0],[]⟩ 8 bM bM bM bM) ?_
 intro W base args ds gs before hval0 hW hcnd _;have hval:∀ (j:Nat) t v,Tryz.f12.params[j]?=some t->args[j]?=some v->Value.okWide Tryz.prog W .any base t v:=hval0;have hW':=hW;obtain⟨p,q,hA0,hV,rfl,hfz,hnd⟩:=hW;have hA:DataW.TrodAll enc Tryz.prog W 0 (fun _=>true) true Tryz.f12.params.toList args.toList ds p:=hA0;rw[Tryz.params12] at hA hval;obtain⟨v0,qK,d0,ds0,p0,q0,hargs,rfl,rfl,h0,rr0⟩:=trodAll_cons hA;obtain⟨v1,qL,d1,ds1,p1,q1,rfl,rfl,rfl,h1,rr1⟩:=trodAll_cons rr0;obtain⟨v2,qM,d2,ds2,p2,q2,rfl,rfl,rfl,h2,rr2⟩:=trodAll_cons rr1;obtain⟨rfl,rfl,rfl⟩:=trodAll_nil rr2;obtain rfl:args=#[v0,v1,v2]:=by cases args;simp_all
 obtain⟨rfl,rfl⟩:=trodVars_none hV;have k0:=h0;have lt0:∀ x ∈ p0,x.block<W.heap.size:=by obtain⟨m,hm⟩:=k0;exact DataW.trod_lt m _ _ _ hm
 have x0:=args_prog (hval 0 26 v0 rfl rfl) h0;have k1:=h1;have lt1:∀ x ∈ p1,x.block<W.heap.size:=by obtain⟨m,hm⟩:=k1;exact DataW.trod_lt m _ _ _ hm
 have x1:=args_set40 (hval 1 92 v1 rfl rfl) h1;have k2:=h2;have lt2:∀ x ∈ p2,x.block<W.heap.size:=by obtain⟨m,hm⟩:=k2;exact DataW.trod_lt m _ _ _ hm
 have x2:=args_evs (hval 2 93 v2 rfl rfl) h2;clear hA0 hval0;refine (walk W v0 x0 v1 x1 v2 x2).mono fun e W' ⟨he,bel⟩=>?_
 subst he;exact⟨_,rfl,_,_,_,[],_,[],hW',trodAll_mk1 (shut_bool Tryz.underlying4 _),(trodAll_cons_mk (Below.trod laidOut bM (of_decide_eq_true bM) k0 bel lt0) (trodAll_cons_mk (Below.trod laidOut bM (of_decide_eq_true bM) k1 bel lt1) (trodAll_cons_mk (Below.trod laidOut bM (of_decide_eq_true bM) k2 bel lt2) trodAll_mk0))),rfl,bel.frame _,fun h=>by cases h⟩
theorem cInPlace:(Rows.modelPlaysRow.inPlace == Tryz.prog.inPlace 12)=true:=by kernel_rfl
theorem cUnfollowed:(Rows.modelPlaysRow.unfollowed == Tryz.prog.unfollowed 12)=true:=by kernel_rfl
theorem cRecurses:(Rows.modelPlaysRow.recurses == Tryz.prog.recurses 12)=true:=by kernel_rfl
theorem cNamed:(Rows.modelPlaysRow.named == Tryz.prog.varsNamed 12)=true:=by kernel_rfl
theorem closed:joinedFacts Tryz.prog 12 Tryz.f12 Rows.modelPlaysSpec Rows.modelPlaysRow=true:=by
 unfold joinedFacts;rw[cInPlace,cUnfollowed,cRecurses,cNamed]
 kernel_rfl
theorem over:Rows.modelPlaysRow.holds Tryz.pinned (OpenSpec.ofChange Rows.modelPlaysSpec) :=
 OpenClaim.holds_of_wide 12 Tryz.f12 rfl rfl rfl rfl rfl rfl rfl ⟨rfl,rfl,rfl,rfl,rfl⟩ rfl rfl rfl rfl rfl bM Tryz.func12 closed
  (of_decide_eq_true bM) (by unfold Func.isWrapper;first | (rw[if_pos bT];kernel_rfl) | (rw[if_neg bT];exact⟨rfl,rfl⟩))
  (fun os started H enc _=>lifted os started H enc)
theorem proved:Rows.ModelPlaysSaid:=over
end Go.Proofs.YtmeebofhlilcmaaGreat.modelPlays
