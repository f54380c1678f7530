/- Parts: EngO, EngQ. -/
import Derived.Test.YtmeebofhlilcmaaGreatPr02
import Derived.Test.YtmeebofhlilcmaaGreatPr46
set_option linter.unusedVariables false
set_option linter.unusedSimpArgs false
set_option maxRecDepth 100000
set_option maxHeartbeats 40000000
namespace Go.Proofs.YtmeebofhlilcmaaGreat
open Go.RowKit
structure OpAt (w0 W:World) (base:Nat) (q:qb9) (g dB hB lB pB gB gf m:Nat) (x:PA) (p:PV) (hash:Int) (D:qa1):Prop where
  d:qa5 W base q D
  g0:base≤g
  bd:Blk W dB 50 [.pointer (some ⟨q.d,0,none⟩)]
  bh:Blk W hB 3 [.int .i64 hash]
  bl:Blk W lB 122 [.int .i64 0,.int .i64 1,.int .i64 1,.int .i64 5,.int .i64 6,.int .i64 5,.int .i64 11,.int .i64 (m:Nat),.int .i64 (11+(m:Nat)),.int .i64 (m:Nat)]
  bp:Blk W pB 26 (progC x p)
  bg:Blk W gB 45 [.pointer (some ⟨g,0,none⟩)]
  bf:Blk W gf 61 (opnL (.pointer (some ⟨dB,0,none⟩)) (.pointer (some ⟨pB,0,none⟩)) (.pointer (some ⟨lB,0,none⟩)) (.pointer (some ⟨hB,0,none⟩)) (.pointer (some ⟨gB,0,none⟩)) (.pointer (some ⟨g,0,none⟩)))
  pr:qk8 W base x p
  s:Step mutE base q w0 W
  h0:base≤w0.heap.size
section
variable {w0 W W':World} {base g dB hB lB pB gB gf m:Nat} {q:qb9} {D D':qa1} {x:PA} {p:PV} {hash pace:Int} {e:EP} {E:EgV}
theorem Step.xToE {w w':World} (h:Step mutX base q w w'):Step mutE base q w w':=h.mono dcd
theorem OpAt.hs (h:OpAt w0 W base q g dB hB lB pB gB gf m x p hash D):base≤W.heap.size:=Nat.le_trans h.h0 h.s.size
theorem OpAt.step (h:OpAt w0 W base q g dB hB lB pB gB gf m x p hash D) (hd:qa5 W' base q D') (t:Step mutE base q W W'):OpAt w0 W' base q g dB hB lB pB gB gf m x p hash D' :=
  ⟨hd,h.g0,h.d.blk h.bd t.tch dcd,h.d.blk h.bh t.tch dcd,h.d.blk h.bl t.tch dcd,h.d.blk h.bp t.tch dcd,h.d.blk h.bg t.tch dcd,h.d.blk h.bf t.tch dcd,h.pr.step h.d t dcd dcd dcd,h.s.trans t,h.h0⟩
theorem OpAt.below (h:OpAt w0 W base q g dB hB lB pB gB gf m x p hash D) (hb:Below W.heap.size W W'):OpAt w0 W' base q g dB hB lB pB gB gf m x p hash D:=h.step (h.d.below hb) (Step.of_below hb h.hs)
theorem opn1_any (h:OpAt w0 W base q g dB hB lB pB gB gf m x p hash D) (hb:Blk W g 180 (engN none none none none pace)) :
    Calls Tryz.prog 101 #[.pointer (some ⟨dB,0,none⟩),.pointer (some ⟨lB,0,none⟩),.pointer (some ⟨hB,0,none⟩)] W fun e w' => e=.returned (.int .i64 (ve9 hash (qe5 D 0 1 0 1)))∧OpAt w0 w' base q g dB hB lB pB gB gf m x p hash (qb4 D 0 1 0).1∧Blk w' g 180 (engN none none none none pace):=by
  have how:=owned_any h.d h.hs hash;have c0:W.cell? ⟨dB,0,none⟩=some (.pointer (some ⟨q.d,0,none⟩)):=h.bd.cell 0;have c1:W.cell? ⟨lB,0,none⟩=some (.int .i64 0):=h.bl.cell 0;have c2:W.cell? ⟨lB,1,none⟩=some (.int .i64 1):=h.bl.cell 1;have c3:W.cell? ⟨hB,0,none⟩=some (.int .i64 hash):=h.bh.cell 0;have H:=hdd h;have HB:=hdd hb;generalize ve9 hash (qe5 D 0 1 0 1)=z at *;generalize (qb4 D 0 1 0).1=D1 at *;clear h hb;go_enter Tryz.func101,Tryz.ntmps101;go_wp2_with (first | ((go_at_call 102;(with_reducible refine (how).mono ?_);rintro e w2 ⟨rfl,d2,s2⟩);have H2:=hdd (H.out.step d2 s2.dToE);have B2:=hdd (H.out.d.blk HB.out s2.tch dcd)) | fail "no arm");go_ret;exact ⟨rfl,H2.out,B2.out⟩
theorem opn2_any (h:OpAt w0 W base q g dB hB lB pB gB gf m x p (qf5 p:Nat) D) (hb:Blk W g 180 (engN none none none none pace)) (hw:qk7 p) (hv:qf0 p=true) (hm:1≤m) (big:11+m+m≤D.many) (hwt:D.waits.length<700000) :
    Calls Tryz.prog 103 #[.pointer (some ⟨gB,0,none⟩),.pointer (some ⟨dB,0,none⟩),.pointer (some ⟨lB,0,none⟩),.pointer (some ⟨pB,0,none⟩)] W fun e w' => e=.returned (.int .i64 (qe4 m p (qf5 p:Nat) D).2.2.2.2)∧OpAt w0 w' base q g dB hB lB pB gB gf m x p (qf5 p:Nat) (qe4 m p (qf5 p:Nat) D).1 ∧
      ((qe4 m p (qf5 p:Nat) D).2.2.2.2=0→PaOk w' base q g m p pace (qf5 p:Nat) x (qe4 m p (qf5 p:Nat) D).2.1 (qe4 m p (qf5 p:Nat) D).2.2.1 (qe4 m p (qf5 p:Nat) D).2.2.2.1):=by
  have hpa:=eparts_any hb h.g0 h.d h.hs h.pr hw hv hm big hwt;have c0:W.cell? ⟨dB,0,none⟩=some (.pointer (some ⟨q.d,0,none⟩)):=h.bd.cell 0;obtain ⟨l0,l1,l2,l3,l4,l5,l6,l7,l8,l9⟩:=blkT h.bl;obtain ⟨p0,p1,p2,p3,p4⟩:=blk5 (show Blk W pB _ [.slice x.A1 x.n1 x.c1,.slice x.A2 x.n2 x.c2,.int .i64 p.regs,.slice x.A3 x.n3 x.c3,.slice x.A4 x.n4 x.c4] from h.bp);have c2:W.cell? ⟨gB,0,none⟩=some (.pointer (some ⟨g,0,none⟩)):=h.bg.cell 0;have H:=hdd h;generalize qe4 m p (qf5 p:Nat) D=R at *;clear h hb;go_enter Tryz.func103,Tryz.ntmps103;go_wp2_with (first | ((go_at_call 104;(with_reducible refine (hpa).mono ?_);rintro e w2 ⟨rfl,r2⟩);have H2:=hdd (H.out.step r2.d r2.s.xToE);have R2:=hdd r2;clear r2) | fail "no arm");go_ret;exact ⟨rfl,H2.out,R2.out.ok⟩
def egv0 (nIn nOut:Nat) (K:KpV):EgV:=⟨nIn,nOut,K,[],0,0,0,false,false⟩
theorem opn3_any {nIn nOut:Nat} {K:KpV} (h:OpAt w0 W base q g dB hB lB pB gB gf m x p hash D) (ho:PaOk W base q g m p pace hash x nIn nOut K) (hw:qk7 p) (hv:qf0 p=true) :
    Calls Tryz.prog 105 #[.pointer (some ⟨pB,0,none⟩),.pointer (some ⟨gB,0,none⟩)] W fun e w' => e=.returned (.int .i64 0)∧OpAt w0 w' base q g dB hB lB pB gB gf m x p hash D∧∃ e,qi1 w' base q g e m p hash pace (egv0 nIn nOut K):=by
  obtain ⟨gi,go,gk,gl,gs,ga,gb,hb,hi,hou,hk,a1,a2,a3,a4⟩:=ho.h;have hbD:Below W.heap.size W W.drew:=Below.drew (Below.refl _ _);have H:=hdd (h.below hbD);have hnew:=vnew_yes W.drew H.out.pr.rd hw hv;have HR:=hdd (show qd1 307 W.drew base gi gl 3 nIn p.ins∧qd1 310 W.drew base go gs 4 nOut p.outs∧vq0 W.drew base gk ga gb x p hash K∧qa8 W.drew gl q.d 11 m∧qa8 W.drew gs q.d (11+m) m∧qa8 W.drew ga q.d 1 5∧qa8 W.drew gb q.d 6 5∧Blk W.drew g 180 (engN none (some ⟨gi,0,none⟩) (some ⟨go,0,none⟩) (some ⟨gk,0,none⟩) pace) from
    ⟨hi.below hbD,hou.below hbD,hk.below hbD,Blk.below a1 hbD (Blk.lt a1),Blk.below a2 hbD (Blk.lt a2),Blk.below a3 hbD (Blk.lt a3),Blk.below a4 hbD (Blk.lt a4),hb.below hbD hb.lt⟩)
  obtain ⟨p0,p1,p2,p3,p4⟩:=blk5 (show Blk W pB _ [.slice x.A1 x.n1 x.c1,.slice x.A2 x.n2 x.c2,.int .i64 p.regs,.slice x.A3 x.n3 x.c3,.slice x.A4 x.n4 x.c4] from h.bp);have c2:W.cell? ⟨gB,0,none⟩=some (.pointer (some ⟨g,0,none⟩)):=h.bg.cell 0;clear h ho hb hi hou hk a1 a2 a3 a4 hbD;go_enter Tryz.func105,Tryz.ntmps105;go_upto_region 1 with fail;go_region_held3 (fun w' => w'.cell? ⟨gB,0,none⟩=some (.pointer (some ⟨g,0,none⟩))∧w'.cell? ⟨pB,0,none⟩=some (.slice x.A1 x.n1 x.c1)∧w'.cell? ⟨pB,1,none⟩=some (.slice x.A2 x.n2 x.c2)∧w'.cell? ⟨pB,2,none⟩=some (.int .i64 p.regs)∧w'.cell? ⟨pB,3,none⟩=some (.slice x.A3 x.n3 x.c3)∧w'.cell? ⟨pB,4,none⟩=some (.slice x.A4 x.n4 x.c4)) (first | go_keep | (refine ⟨?_,?_,?_,?_,?_,?_⟩ <;> assumption)) (first | ((go_at_call 106;(with_reducible refine (hnew).mono ?_);rintro e w2 ⟨g2,y2,rfl,m2,b2⟩);have H2:=hdd (H.out.below b2);have M2:=hdd m2;have BB:=hdd b2;have X2:=HR.out.2.2.2.2.2.2.2.below b2 HR.out.2.2.2.2.2.2.2.lt;have k0:w2.cell? ⟨g,0,none⟩=some (.pointer none):=X2.cell 0;have f0:=X2.frozen 0;have gl2:=X2.lt;have X3:=hdd X2;have c2:w2.cell? ⟨gB,0,none⟩=some (.pointer (some ⟨g,0,none⟩)):=H2.out.bg.cell 0;obtain ⟨p0,p1,p2,p3,p4⟩:=blk5 (show Blk w2 pB _ [.slice x.A1 x.n1 x.c1,.slice x.A2 x.n2 x.c2,.int .i64 p.regs,.slice x.A3 x.n3 x.c3,.slice x.A4 x.n4 x.c4] from H2.out.bp);have t2:=Step.engSet (q:=q) X2 H.out.g0 H2.out.hs 0 (.pointer (some ⟨g2,0,none⟩));have H3:=hdd (H2.out.step (H2.out.d.engSet X2 0 (.pointer (some ⟨g2,0,none⟩))) t2.eToE);have s2:(w2.setCell ⟨g,0,none⟩ (.pointer (some ⟨g2,0,none⟩))).cell? ⟨gB,0,none⟩=some (.pointer (some ⟨g,0,none⟩)):=H3.out.bg.cell 0;obtain ⟨z0,z1,z2,z3,z4⟩:=blk5 (show Blk (w2.setCell ⟨g,0,none⟩ (.pointer (some ⟨g2,0,none⟩))) pB _ [.slice x.A1 x.n1 x.c1,.slice x.A2 x.n2 x.c2,.int .i64 p.regs,.slice x.A3 x.n3 x.c3,.slice x.A4 x.n4 x.c4] from H3.out.bp);clear X2 m2 b2) | fail "no arm");go_wp2_with fail;go_ret;have b2:=BB.out;obtain ⟨hi,hou,hk,a1,a2,a3,a4,hb⟩:=HR.out;have hd2:=H2.out.d;refine ⟨rfl,H3.out,⟨g2,gi,go,gk,gl,gs,ga,gb,none,0,0,y2,x⟩,X3.out.set_ 0 _,H.out.g0,?_⟩;have M3:qu8 w2 base g2 y2 p:=M2.out base H.out.hs;exact ⟨M3.step hd2 t2 dcd dcd dcd dcd,(hi.below b2).step hd2 t2 dcd dcd dcd,(hou.below b2).step hd2 t2 dcd dcd dcd,(hk.below b2).step hd2 t2 dcd dcd dcd dcd dcd dcd,qf9.nil _ _,hd2.area (Blk.below a1 b2 (Blk.lt a1)) t2.tch dcd,hd2.area (Blk.below a2 b2 (Blk.lt a2)) t2.tch dcd,hd2.area (Blk.below a3 b2 (Blk.lt a3)) t2.tch dcd,hd2.area (Blk.below a4 b2 (Blk.lt a4)) t2.tch dcd⟩
end
theorem fOpenV_le (D:qa1) (f m:Nat) (kind:Int) (ts:List Int):(qc2 D f m kind ts).2.1≤m:=by
  obtain ⟨_,_,a3⟩:=vb6 D f m kind;unfold qc2
  split
  · exact Nat.zero_le _
  split
  · exact Nat.zero_le _
  split
  · exact Nat.zero_le _
  · exact a3
theorem vh8 (m:Nat) (p:PV) (hash:Int) (D:qa1):(qe4 m p hash D).1.many=D.many∧(qe4 m p hash D).1.waits.length≤D.waits.length+m+m∧(qe4 m p hash D).2.1≤m∧(qe4 m p hash D).2.2.1≤m∧((qe4 m p hash D).2.2.2.2=0→∃ D2,(qe4 m p hash D).2.2.2.1=(qj1 D2 1 5 6 5 p hash).2.1):=by
  obtain ⟨a1,a2⟩:=qy0 D 11 m 3 p.ins;have a3:=fOpenV_le D 11 m 3 p.ins;obtain ⟨b1,b2⟩:=qy0 (qc2 D 11 m 3 p.ins).1 (11+m) m 4 p.outs;have b3:=fOpenV_le (qc2 D 11 m 3 p.ins).1 (11+m) m 4 p.outs;obtain ⟨_,c1,c2⟩:=vh0 (qc2 (qc2 D 11 m 3 p.ins).1 (11+m) m 4 p.outs).1 1 5 6 5 p hash;unfold qe4 prt1V
  split
  · rename_i q;exact ⟨a1,by simp only;omega,Nat.zero_le _,Nat.zero_le _,fun e => absurd e q⟩
  unfold prt2V
  split
  · rename_i q;exact ⟨b1.trans a1,by simp only;omega,a3,Nat.zero_le _,fun e => absurd e q⟩
  · exact ⟨c1.trans (b1.trans a1),by show (qj1 _ 1 5 6 5 p hash).1.waits.length≤_;rw [c2];omega,a3,b3,fun _ => ⟨_,rfl⟩⟩
theorem openE_is (m:Nat) (p:PV) (hash pace:Int) (D:qa1):qt4 m p hash pace D =
    if ve9 hash (qe5 D 0 1 0 1)≠0 then ((qb4 D 0 1 0).1,noEg,ve9 hash (qe5 D 0 1 0 1))
    else if (qe4 m p hash (qb4 D 0 1 0).1).2.2.2.2≠0 then ((qe4 m p hash (qb4 D 0 1 0).1).1,noEg,(qe4 m p hash (qb4 D 0 1 0).1).2.2.2.2)
    else if qr8 (qk6 p (qe4 m p hash (qb4 D 0 1 0).1).2.1 (qe4 m p hash (qb4 D 0 1 0).1).2.2.1 (qe4 m p hash (qb4 D 0 1 0).1).2.2.2.1)≠0 then ((qe4 m p hash (qb4 D 0 1 0).1).1,noEg,qr8 (qk6 p (qe4 m p hash (qb4 D 0 1 0).1).2.1 (qe4 m p hash (qb4 D 0 1 0).1).2.2.1 (qe4 m p hash (qb4 D 0 1 0).1).2.2.2.1))
    else if (qo7 m p hash pace (qe4 m p hash (qb4 D 0 1 0).1).1 (qk6 p (qe4 m p hash (qb4 D 0 1 0).1).2.1 (qe4 m p hash (qb4 D 0 1 0).1).2.2.1 (qe4 m p hash (qb4 D 0 1 0).1).2.2.2.1)).2.2≠0 then ((qo7 m p hash pace (qe4 m p hash (qb4 D 0 1 0).1).1 (qk6 p (qe4 m p hash (qb4 D 0 1 0).1).2.1 (qe4 m p hash (qb4 D 0 1 0).1).2.2.1 (qe4 m p hash (qb4 D 0 1 0).1).2.2.2.1)).1,noEg,(qo7 m p hash pace (qe4 m p hash (qb4 D 0 1 0).1).1 (qk6 p (qe4 m p hash (qb4 D 0 1 0).1).2.1 (qe4 m p hash (qb4 D 0 1 0).1).2.2.1 (qe4 m p hash (qb4 D 0 1 0).1).2.2.2.1)).2.2)
    else qo7 m p hash pace (qe4 m p hash (qb4 D 0 1 0).1).1 (qk6 p (qe4 m p hash (qb4 D 0 1 0).1).2.1 (qe4 m p hash (qb4 D 0 1 0).1).2.2.1 (qe4 m p hash (qb4 D 0 1 0).1).2.2.2.1):=by
  unfold qt4 openO
  by_cases h1:ve9 hash (qe5 D 0 1 0 1)≠0
  · rw [if_pos h1,if_pos h1]
  rw [if_neg h1,if_neg h1];generalize (qb4 D 0 1 0).1=D1;unfold qe4 openF prt1V;generalize qc2 D1 11 m 3 p.ins=F
  by_cases h2:F.2.2≠0
  · rw [if_pos h2];simp only [if_pos h2]
  rw [if_neg h2];simp only [if_neg h2];unfold openS prt2V;generalize qc2 F.1 (11+m) m 4 p.outs=S
  by_cases h3:S.2.2≠0
  · rw [if_pos h3];simp only [if_pos h3]
  rw [if_neg h3];simp only [if_neg h3];unfold openK prt3V;generalize qj1 S.1 1 5 6 5 p hash=K
  by_cases h4:K.2.2≠0
  · rw [if_pos h4];simp only [if_pos h4]
  rw [if_neg h4];simp only [if_neg h4];unfold qr8
  by_cases h5:qj8 (qk6 p F.2.1 S.2.1 K.2.1)
  · rw [if_pos h5];simp only [if_pos h5];rw [if_pos smp]
  · rw [if_neg h5];simp only [if_neg h5];rw [if_neg (c:=(0:Int)≠0) smp]
theorem beginV_ok {m:Nat} {p:PV} {hash:Int} (G:PrgW p m) {nIn nOut:Nat} {K:KpV} (h1:nIn≤m) (h2:nOut≤m) (hK:∃ D2,K=(qj1 D2 1 5 6 5 p hash).2.1) (hz:qr8 (qk6 p nIn nOut K)=0):EgOk m p (qk6 p nIn nOut K):=by
  obtain ⟨D2,hK⟩:=hK;have hok:KpOk K:=by rw [hK];exact (vh0 D2 1 5 6 5 p hash).1
  have hnb:¬ qj8 (qk6 p nIn nOut K):=fun q => by unfold qr8 at hz;rw [if_pos q] at hz;simp at hz
  unfold qj8 qk6 at hnb;simp only at hnb;have hfit:K.has=true→ql2 p K.last=true∧∀ z ∈ K.last.cells,In64 z:=fun hh => by
    rw [hK] at hh ⊢;obtain ⟨a,b,c,d⟩:=kOpenV_fits D2 1 5 6 5 p hash hh;exact ⟨a,by rw [c];exact stRead_in⟩
  obtain ⟨c1,c2⟩:=vo5 G.may G.hw;unfold qk6
  cases hh:K.has with
  | false =>
    rw [hh] at hnb;exact ⟨h1,h2,Int.le_refl _,by show (0:Int)≤(nIn:Int);omega,Int.le_refl _,Int.le_refl _,Int.le_refl _,Int.le_refl _,c1,c2,hok.2.2,hok.1.1⟩
  | true =>
    obtain ⟨f1,f2⟩:=hfit hh;rw [hh] at hnb;simp only [if_true] at hnb;have ht:=(ql8.1 f1).2.1;exact ⟨h1,h2,ht,by show K.last.tick≤(nIn:Int);omega,Int.le_refl _,ht,Int.le_refl _,ht,fits_cells f1,f2,hok.2.2,hok.1.1⟩
theorem replV_ok {m:Nat} {p:PV} {hash pace:Int} {D:qa1} {E:EgV} (G:PrgW p m) (ok:EgOk m p E):EgOk m p (qo7 m p hash pace D E).2.1:=by
  have key:∀ (f:Nat) (D:qa1) (E:EgV),EgOk m p E→E.tick+(f:Int)=(E.nIn:Int)→EgOk m p (qp4 m p f D E).2.1:=by
    intro f
    induction f with
    | zero => intro D E ok _;exact ok
    | succ f ih =>
      intro D E ok ht;have h1:=vl0 (D:=D) ok G omg;have hun:qp4 m p (f+1) D E=if (qc9 m p D E).2.2≠0 then qc9 m p D E else qp4 m p f (qc9 m p D E).1 { (qc9 m p D E).2.1 with replayed:=(qc9 m p D E).2.1.replayed+1 }:=rfl;rw [hun];generalize qc9 m p D E=R at *
      split
      · exact h1.ok
      · rename_i q;have hz:R.2.2=0:=by simpa using q
        have hgo:=h1.go hz;have hrep:=h1.rep;have:=ok.r0;have:=ok.r1;refine ih _ _ ⟨h1.ok.i0,h1.ok.o0,h1.ok.t0,h1.ok.t1,h1.ok.p0,h1.ok.p1,?_,?_,h1.ok.cf,h1.ok.c64,h1.ok.kl,h1.ok.kn⟩ ?_
        · show 0≤R.2.1.replayed+1;omega
        · show R.2.1.replayed+1≤R.2.1.tick;omega
        · show R.2.1.tick+(f:Int)=(R.2.1.nIn:Int);rw [h1.nin];omega
  have h1:=key ((E.nIn:Int) - E.tick).toNat D E ok (by have:=ok.t1;omega);unfold qo7;generalize qp4 m p ((E.nIn:Int) - E.tick).toNat D E=R at *;unfold vq5
  split
  · exact h1
  have h2:=(vl1 (D:=R.1) h1).ok;generalize qd0 R.1 R.2.1=F at *;unfold vk2
  split
  · exact h2
  split
  · exact (vi8 h2).ok
  · exact h2
end Go.Proofs.YtmeebofhlilcmaaGreat
