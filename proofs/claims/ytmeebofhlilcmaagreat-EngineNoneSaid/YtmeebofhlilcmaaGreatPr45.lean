/- Parts: FeedB, SinkB, EngL. -/
import Derived.Test.YtmeebofhlilcmaaGreatPr02
import Derived.Test.YtmeebofhlilcmaaGreatPr35
import Derived.Deep.DeepCutAuto
import Derived.Deep.CutBlock
import Derived.Test.YtmeebofhlilcmaaGreatPr36
import Derived.Test.YtmeebofhlilcmaaGreatPr44
import Derived.Test.YtmeebofhlilcmaaGreatPr38
set_option linter.unusedVariables false
set_option linter.unusedSimpArgs false
set_option maxRecDepth 100000
set_option maxHeartbeats 40000000
namespace Go.Proofs.YtmeebofhlilcmaaGreat
open Go.RowKit
section
variable {w w':World} {base ga f m:Nat} {ts:List Int} {p:qb9} {D:qa1}
theorem fdopen_any (ha:qa8 w ga p.d f m) (hm:1≤m) (hd:qa5 w base p D) (hs:base≤w.heap.size) (hfm:f+m≤D.many) (hwt:D.waits.length<900000) (A:Option Addr) (n c:Nat) (ht:qf9 w base A n ts) :
    Calls Tryz.prog 191 #[.pointer (some ⟨ga,0,none⟩),.slice A n c] w (qp1 307 w base ga 3 ts p (qc2 D f m 3 ts)):=by
  have hmany:=qo9 ha;have hmz:((m:Int) == 0)=false:=by rw [beq_eq_false_iff_ne];omega
  have hn:=ht.len;have hright:=qq6 A n c ts w ht.ri hn;have hun:qc2 D f m 3 ts=if qg8 ts=false then (D,0,2)
    else if (qb7 D f m 3).2.2≠0 then ((qb7 D f m 3).1,0,(qb7 D f m 3).2.2)
    else if (qm1 (qb7 D f m 3).1 f m 3 (qb7 D f m 3).2.1 ts (qb7 D f m 3).2.1).2≠0 then ((qm1 (qb7 D f m 3).1 f m 3 (qb7 D f m 3).2.1 ts (qb7 D f m 3).2.1).1,0,(qm1 (qb7 D f m 3).1 f m 3 (qb7 D f m 3).2.1 ts (qb7 D f m 3).2.1).2)
    else ((qm1 (qb7 D f m 3).1 f m 3 (qb7 D f m 3).2.1 ts (qb7 D f m 3).2.1).1,(qb7 D f m 3).2.1,0):=rfl
  obtain ⟨few1,few2,few3⟩:=vb6 D f m 3;have hok:D.many≤4096:=by obtain ⟨A,c,h⟩:=hd;exact h.ok.many1
  have hop:=jopen_any (kind:=3) ha hm hd hs hfm hwt;generalize qc2 D f m 3 ts=R at *;generalize qb7 D f m 3=J at *;obtain ⟨D1,nx,z⟩:=J;simp only at hun hop few1 few3;have HD:=hdd hd;have HA:=hdd ha;have HT:=hdd ht
  cases hr:qg8 ts with
  | false =>
    rw [if_pos hr] at hun;rw [hr] at hright;subst hun;clear hd ha ht hop hr;go_enter Tryz.func191,Tryz.ntmps191;go_wp2_with (first | (go_at_call 113;(with_reducible refine (hmany).mono ?_);rintro e w1 ⟨rfl,rfl⟩) | (go_at_call 150;(with_reducible refine (hright).mono ?_);rintro e w1 ⟨rfl,rfl⟩) | fail "no arm");go_ret2;exact qp1.no smp HD.out (Step.refl _ _ _ _)
  | true =>
    rw [if_neg (by rw [hr];simp)] at hun;rw [hr] at hright;have hn8:n≤8:=by have:=(qe7.1 hr).2.2;have:=ht.ri.1;omega
    by_cases hz:z=0
    · subst hz;rw [if_neg smp] at hun;have HUN:=hdd hun;clear hd ha ht hr hun few2;go_enter Tryz.func191,Tryz.ntmps191;go_upto_region 9 with (first | (go_at_call 113;(with_reducible refine (hmany).mono ?_);rintro e w1 ⟨rfl,rfl⟩) | (go_at_call 150;(with_reducible refine (hright).mono ?_);rintro e w1 ⟨rfl,rfl⟩) | ((go_at_call 253;(with_reducible refine (hop).mono ?_);rintro e w2 ⟨P2,rfl,n2,y2,h2,st2⟩);obtain ⟨gj,rfl,g2,j2⟩:=y2 rfl;have J2:=hdd j2;have H2:=hdd h2;have ST2:=hdd st2;have s2:=st2.size;have T2:=hdd (HT.out.step HD.out st2 dcd);clear n2 y2 j2 h2 st2) | (at_builtin;refine qc7 (α:=Int) (enc:=iv) rfl rfl qk2 qt6 (s:=.tmp 30) (N:=n) (L:=ts) rfl (Ow.new _ _ #[] [] rfl dcd) rfl (k:=ts) (T2.out.ri.below (B:=w2.heap.size) gwn nlr).rd smp smp hn omg szz ?_;intro A5 c5 w5 hown5 hg5 hat5 hb5;have b5:=hdd ((show Below w2.heap.size w2 (w2.alloc (.cells #[] 3)) from gwn).trans hb5);have I5:=hdd (show qf9 w5 base A5 n ts from qf9.of_ow hown5);have N5:=hdd (fun b (hb:A5.map (·.block)=some b) => (hown5.lt b hb).1);clear hown5 hg5 hat5 hb5) | fail "no arm");have bX:Below w2.heap.size w2 (w5.alloc (.cells #[.pointer (some ⟨gj,0,none⟩),.slice A5 n c5] 307)):=b5.out.alloc (by have:=b5.out.size;omega) _;have bY:Below w5.heap.size w5 (w5.alloc (.cells #[.pointer (some ⟨gj,0,none⟩),.slice A5 n c5] 307)):=(Below.refl _ _).alloc nlr _;have J6:=hdd (show qs4 307 (w5.alloc (.cells #[.pointer (some ⟨gj,0,none⟩),.slice A5 n c5] 307)) base w.heap.size w5.heap.size ga 3 nx ts from ⟨gj,A5,n,c5,Blk.top _ rfl rfl,omg,(Blk.below J2.out bX (Blk.lt J2.out)),I5.out.below bY,fun b hb => by have:w2.heap.size≤b:=N5.out b hb;omega⟩);have H6:=hdd (H2.out.below bX);have ST6:=hdd (ST2.out.then_below (bX.mono s2) hs);have A6:=hdd (HD.out.area HA.out ST6.out.tch dcd);have s6:=ST6.out.size;have s5:=b5.out.size;generalize hW:w5.alloc (.cells #[.pointer (some ⟨gj,0,none⟩),.slice A5 n c5] 307)=w6 at *;have c6:w6.cell? ⟨w5.heap.size,0,none⟩=some (.pointer (some ⟨gj,0,none⟩)):=by rw [← hW];exact Blk.cell (Blk.top _ rfl rfl) 0
      generalize hG:w5.heap.size=gf at *;clear hW bX bY b5 I5 T2 J2 H2 ST2 HT hright hmany;have hlen:=qw7 J6.out.at_;have hlj:Calls Tryz.prog 203 #[.pointer (some ⟨gj,0,none⟩)] w6 fun e w' => e=.returned (.int .i64 (nx:Nat))∧w6=w':=by
        obtain ⟨gj',A,n',c',q1,_,q3,_⟩:=J6.out;have:=q1.cell 0;rw [c6] at this;injection this with this;injection this with this;injection this with this;injection this with this;subst this;exact vf3 q3
      have hnx:nx≤4096:=omg;go_wp2_with (first | ((go_at_call 203;(with_reducible refine (hlj).mono ?_);rintro e w7 ⟨rfl,rfl⟩)) | fail "no arm");go_loopw [9,10,11,41] (fun _ _ _ i wr => ∃ (k:Nat) (Dk:qa1),k≤nx∧i=.int .i64 (k:Nat)∧qm1 D1 f m 3 nx ts k=(Dk,0)∧qa5 wr base p Dk∧Step mutD base p w6 wr) (fun _ _ _ i _ => nx - (intOf i).toNat)
      case atStart => exact ⟨0,D1,omg,rfl,rfl,H6.out,Step.refl _ _ _ _⟩
      case round =>
        obtain ⟨k,Dk,hk,rfl,hall,hdk,hst⟩:=hrel;have hsz:=hst.size;have hjk:=J6.out.step H6.out hst dcd dcd dcd
        by_cases hlt:k<nx
        · have hak:=H6.out.area A6.out hst.tch dcd;have hmk:Dk.many=D.many:=by have:=vp1 D1 f m 3 nx ts k;rw [hall] at this;exact this.trans few1
          have hget:=fdget_any hjk.at_ hdk omg hak (by rw [hmk];exact hfm) hnx (k:Int);have hnext:=vp0 hall;generalize ql5 Dk f m 3 nx ts (k:Int)=G at *;obtain ⟨Dn,ln,zn⟩:=G;simp only at hget hnext;have HDk:=hdd hdk;have HST:=hdd hst;clear hdk hjk hak hall
          by_cases he:zn=0
          · subst he;have HN:=hdd hnext;clear hnext;go_wp2_with (first | ((go_at_call 210;(with_reducible refine (hget).mono ?_);rintro e w8 ⟨L8,k8,d8,rfl,o8,h8,st8⟩)) | fail "no arm");go_roundw
            case rel => first
              | exact ⟨k+1,Dn,omg,by go_num,HN.out,h8,HST.out.trans st8⟩
              | ((repeat apply Exists.intro);exact ⟨⟨k+1,Dn,omg,by go_num,HN.out,h8,HST.out.trans st8⟩,rfl⟩)
            case measure => simp [intOf];omega
          · have hneb:(zn != 0)=true:=by rw [bne_iff_ne];exact he
            have hstop:=vo9 (D:=D1) (f:=f) (m:=m) (kind:=3) (next:=nx) (ts:=ts) (k:=k+1) (n:=nx) (by rw [hnext];exact he) omg;have hR:R=(Dn,0,zn):=by rw [HUN.out,hstop,hnext,if_pos he]
            subst hR;have HE:=hdd he;clear HUN hstop hnext he;go_wp2_with (first | ((go_at_call 210;(with_reducible refine (hget).mono ?_);rintro e w8 ⟨L8,k8,d8,rfl,o8,h8,st8⟩)) | fail "no arm");go_ret2;exact qp1.no HE.out h8 ((ST6.out.trans HST.out).trans st8)
        · have hk9:k=nx:=omg;subst hk9;have hR:R=(Dk,k,0):=by rw [HUN.out,hall,if_neg smp]
          subst hR;have HDk:=hdd hdk;have HST:=hdd hst;have HJ:=hdd hjk;clear hdk hst hjk hall HUN;go_wp2;go_ret2;exact qp1.yes omg HJ.out HDk.out (ST6.out.trans HST.out)
    · rw [if_pos hz] at hun;have hzb:(z != 0)=true:=by rw [bne_iff_ne];exact hz
      subst hun;have HZ:=hdd hz;clear hd ha ht hr hz few2;go_enter Tryz.func191,Tryz.ntmps191;go_wp2_with (first | (go_at_call 113;(with_reducible refine (hmany).mono ?_);rintro e w1 ⟨rfl,rfl⟩) | (go_at_call 150;(with_reducible refine (hright).mono ?_);rintro e w1 ⟨rfl,rfl⟩) | ((go_at_call 253;(with_reducible refine (hop).mono ?_);rintro e w2 ⟨P2,rfl,n2,y2,h2,st2⟩);obtain rfl:=n2 HZ.out) | fail "no arm");go_ret2;exact qp1.no HZ.out h2 st2
end
section
variable {w w':World} {base ga f m:Nat} {ts:List Int} {p:qb9} {D:qa1}
theorem skopen_any (ha:qa8 w ga p.d f m) (hm:1≤m) (hd:qa5 w base p D) (hs:base≤w.heap.size) (hfm:f+m≤D.many) (hwt:D.waits.length<900000) (A:Option Addr) (n c:Nat) (ht:qf9 w base A n ts) :
    Calls Tryz.prog 193 #[.pointer (some ⟨ga,0,none⟩),.slice A n c] w (qp1 310 w base ga 4 ts p (qc2 D f m 4 ts)):=by
  have hmany:=qo9 ha;have hmz:((m:Int) == 0)=false:=by rw [beq_eq_false_iff_ne];omega
  have hn:=ht.len;have hright:=qq6 A n c ts w ht.ri hn;have hun:qc2 D f m 4 ts=if qg8 ts=false then (D,0,2)
    else if (qb7 D f m 4).2.2≠0 then ((qb7 D f m 4).1,0,(qb7 D f m 4).2.2)
    else if (qm1 (qb7 D f m 4).1 f m 4 (qb7 D f m 4).2.1 ts (qb7 D f m 4).2.1).2≠0 then ((qm1 (qb7 D f m 4).1 f m 4 (qb7 D f m 4).2.1 ts (qb7 D f m 4).2.1).1,0,(qm1 (qb7 D f m 4).1 f m 4 (qb7 D f m 4).2.1 ts (qb7 D f m 4).2.1).2)
    else ((qm1 (qb7 D f m 4).1 f m 4 (qb7 D f m 4).2.1 ts (qb7 D f m 4).2.1).1,(qb7 D f m 4).2.1,0):=rfl
  obtain ⟨few1,few2,few3⟩:=vb6 D f m 4;have hok:D.many≤4096:=by obtain ⟨A,c,h⟩:=hd;exact h.ok.many1
  have hop:=jopen_any (kind:=4) ha hm hd hs hfm hwt;generalize qc2 D f m 4 ts=R at *;generalize qb7 D f m 4=J at *;obtain ⟨D1,nx,z⟩:=J;simp only at hun hop few1 few3;have HD:=hdd hd;have HA:=hdd ha;have HT:=hdd ht
  cases hr:qg8 ts with
  | false =>
    rw [if_pos hr] at hun;rw [hr] at hright;subst hun;clear hd ha ht hop hr;go_enter Tryz.func193,Tryz.ntmps193;go_wp2_with (first | (go_at_call 113;(with_reducible refine (hmany).mono ?_);rintro e w1 ⟨rfl,rfl⟩) | (go_at_call 150;(with_reducible refine (hright).mono ?_);rintro e w1 ⟨rfl,rfl⟩) | fail "no arm");go_ret2;exact qp1.no smp HD.out (Step.refl _ _ _ _)
  | true =>
    rw [if_neg (by rw [hr];simp)] at hun;rw [hr] at hright;have hn8:n≤8:=by have:=(qe7.1 hr).2.2;have:=ht.ri.1;omega
    by_cases hz:z=0
    · subst hz;rw [if_neg smp] at hun;have HUN:=hdd hun;clear hd ha ht hr hun few2;go_enter Tryz.func193,Tryz.ntmps193;go_upto_region 9 with (first | (go_at_call 113;(with_reducible refine (hmany).mono ?_);rintro e w1 ⟨rfl,rfl⟩) | (go_at_call 150;(with_reducible refine (hright).mono ?_);rintro e w1 ⟨rfl,rfl⟩) | ((go_at_call 253;(with_reducible refine (hop).mono ?_);rintro e w2 ⟨P2,rfl,n2,y2,h2,st2⟩);obtain ⟨gj,rfl,g2,j2⟩:=y2 rfl;have J2:=hdd j2;have H2:=hdd h2;have ST2:=hdd st2;have s2:=st2.size;have T2:=hdd (HT.out.step HD.out st2 dcd);clear n2 y2 j2 h2 st2) | (at_builtin;refine qc7 (α:=Int) (enc:=iv) rfl rfl qk2 qt6 (s:=.tmp 30) (N:=n) (L:=ts) rfl (Ow.new _ _ #[] [] rfl dcd) rfl (k:=ts) (T2.out.ri.below (B:=w2.heap.size) gwn nlr).rd smp smp hn omg szz ?_;intro A5 c5 w5 hown5 hg5 hat5 hb5;have b5:=hdd ((show Below w2.heap.size w2 (w2.alloc (.cells #[] 3)) from gwn).trans hb5);have I5:=hdd (show qf9 w5 base A5 n ts from qf9.of_ow hown5);have N5:=hdd (fun b (hb:A5.map (·.block)=some b) => (hown5.lt b hb).1);clear hown5 hg5 hat5 hb5) | fail "no arm");have bX:Below w2.heap.size w2 (w5.alloc (.cells #[.pointer (some ⟨gj,0,none⟩),.slice A5 n c5] 310)):=b5.out.alloc (by have:=b5.out.size;omega) _;have bY:Below w5.heap.size w5 (w5.alloc (.cells #[.pointer (some ⟨gj,0,none⟩),.slice A5 n c5] 310)):=(Below.refl _ _).alloc nlr _;have J6:=hdd (show qs4 310 (w5.alloc (.cells #[.pointer (some ⟨gj,0,none⟩),.slice A5 n c5] 310)) base w.heap.size w5.heap.size ga 4 nx ts from ⟨gj,A5,n,c5,Blk.top _ rfl rfl,omg,(Blk.below J2.out bX (Blk.lt J2.out)),I5.out.below bY,fun b hb => by have:w2.heap.size≤b:=N5.out b hb;omega⟩);have H6:=hdd (H2.out.below bX);have ST6:=hdd (ST2.out.then_below (bX.mono s2) hs);have A6:=hdd (HD.out.area HA.out ST6.out.tch dcd);have s6:=ST6.out.size;have s5:=b5.out.size;generalize hW:w5.alloc (.cells #[.pointer (some ⟨gj,0,none⟩),.slice A5 n c5] 310)=w6 at *;have c6:w6.cell? ⟨w5.heap.size,0,none⟩=some (.pointer (some ⟨gj,0,none⟩)):=by rw [← hW];exact Blk.cell (Blk.top _ rfl rfl) 0
      generalize hG:w5.heap.size=gf at *;clear hW bX bY b5 I5 T2 J2 H2 ST2 HT hright hmany;have hlen:=ve7 J6.out.at_;have hlj:Calls Tryz.prog 203 #[.pointer (some ⟨gj,0,none⟩)] w6 fun e w' => e=.returned (.int .i64 (nx:Nat))∧w6=w':=by
        obtain ⟨gj',A,n',c',q1,_,q3,_⟩:=J6.out;have:=q1.cell 0;rw [c6] at this;injection this with this;injection this with this;injection this with this;injection this with this;subst this;exact vf3 q3
      have hnx:nx≤4096:=omg;go_wp2_with (first | ((go_at_call 203;(with_reducible refine (hlj).mono ?_);rintro e w7 ⟨rfl,rfl⟩)) | fail "no arm");go_loopw [9,10,11,41] (fun _ _ _ i wr => ∃ (k:Nat) (Dk:qa1),k≤nx∧i=.int .i64 (k:Nat)∧qm1 D1 f m 4 nx ts k=(Dk,0)∧qa5 wr base p Dk∧Step mutD base p w6 wr) (fun _ _ _ i _ => nx - (intOf i).toNat)
      case atStart => exact ⟨0,D1,omg,rfl,rfl,H6.out,Step.refl _ _ _ _⟩
      case round =>
        obtain ⟨k,Dk,hk,rfl,hall,hdk,hst⟩:=hrel;have hsz:=hst.size;have hjk:=J6.out.step H6.out hst dcd dcd dcd
        by_cases hlt:k<nx
        · have hak:=H6.out.area A6.out hst.tch dcd;have hmk:Dk.many=D.many:=by have:=vp1 D1 f m 4 nx ts k;rw [hall] at this;exact this.trans few1
          have hget:=skget_any hjk.at_ hdk omg hak (by rw [hmk];exact hfm) hnx (k:Int);have hnext:=vp0 hall;generalize ql5 Dk f m 4 nx ts (k:Int)=G at *;obtain ⟨Dn,ln,zn⟩:=G;simp only at hget hnext;have HDk:=hdd hdk;have HST:=hdd hst;clear hdk hjk hak hall
          by_cases he:zn=0
          · subst he;have HN:=hdd hnext;clear hnext;go_wp2_with (first | ((go_at_call 189;(with_reducible refine (hget).mono ?_);rintro e w8 ⟨L8,k8,d8,rfl,o8,h8,st8⟩)) | fail "no arm");go_roundw
            case rel => first
              | exact ⟨k+1,Dn,omg,by go_num,HN.out,h8,HST.out.trans st8⟩
              | ((repeat apply Exists.intro);exact ⟨⟨k+1,Dn,omg,by go_num,HN.out,h8,HST.out.trans st8⟩,rfl⟩)
            case measure => simp [intOf];omega
          · have hneb:(zn != 0)=true:=by rw [bne_iff_ne];exact he
            have hstop:=vo9 (D:=D1) (f:=f) (m:=m) (kind:=4) (next:=nx) (ts:=ts) (k:=k+1) (n:=nx) (by rw [hnext];exact he) omg;have hR:R=(Dn,0,zn):=by rw [HUN.out,hstop,hnext,if_pos he]
            subst hR;have HE:=hdd he;clear HUN hstop hnext he;go_wp2_with (first | ((go_at_call 189;(with_reducible refine (hget).mono ?_);rintro e w8 ⟨L8,k8,d8,rfl,o8,h8,st8⟩)) | fail "no arm");go_ret2;exact qp1.no HE.out h8 ((ST6.out.trans HST.out).trans st8)
        · have hk9:k=nx:=omg;subst hk9;have hR:R=(Dk,k,0):=by rw [HUN.out,hall,if_neg smp]
          subst hR;have HDk:=hdd hdk;have HST:=hdd hst;have HJ:=hdd hjk;clear hdk hst hjk hall HUN;go_wp2;go_ret2;exact qp1.yes omg HJ.out HDk.out (ST6.out.trans HST.out)
    · rw [if_pos hz] at hun;have hzb:(z != 0)=true:=by rw [bne_iff_ne];exact hz
      subst hun;have HZ:=hdd hz;clear hd ha ht hr hz few2;go_enter Tryz.func193,Tryz.ntmps193;go_wp2_with (first | (go_at_call 113;(with_reducible refine (hmany).mono ?_);rintro e w1 ⟨rfl,rfl⟩) | (go_at_call 150;(with_reducible refine (hright).mono ?_);rintro e w1 ⟨rfl,rfl⟩) | ((go_at_call 253;(with_reducible refine (hop).mono ?_);rintro e w2 ⟨P2,rfl,n2,y2,h2,st2⟩);obtain rfl:=n2 HZ.out) | fail "no arm");go_ret2;exact qp1.no HZ.out h2 st2
end
def prt3V (nIn nOut:Nat) (K:qa1 × KpV × Int):qa1 × Nat × Nat × KpV × Int:=(K.1,nIn,nOut,K.2.1,K.2.2)
def prt2V (m:Nat) (p:PV) (hash:Int) (nIn:Nat) (S:qa1 × Nat × Int):qa1 × Nat × Nat × KpV × Int:=if S.2.2≠0 then (S.1,nIn,0,qw5,S.2.2) else prt3V nIn S.2.1 (qj1 S.1 1 5 6 5 p hash)
def prt1V (m:Nat) (p:PV) (hash:Int) (F:qa1 × Nat × Int):qa1 × Nat × Nat × KpV × Int:=if F.2.2≠0 then (F.1,0,0,qw5,F.2.2) else prt2V m p hash F.2.1 (qc2 F.1 (11+m) m 4 p.outs)
def qe4 (m:Nat) (p:PV) (hash:Int) (D:qa1):qa1 × Nat × Nat × KpV × Int:=prt1V m p hash (qc2 D 11 m 3 p.ins)
def engN (pm pi po pk:Option Addr) (pace:Int):List Value :=
  [.pointer pm,.pointer pi,.pointer po,.pointer pk,.slice none 0 0,.int .i64 pace,.int .i64 0,.int .i64 0,.int .i64 0,.bool false,.bool false]
def mutX:List TypeId:=180 :: mutD
structure PrAt (w0 W:World) (base:Nat) (q:qb9) (g gB pB lB gf gl gs ga gb m:Nat) (x:PA) (p:PV) (pace:Int) (D:qa1) (pi po pk:Option Addr):Prop where
  d:qa5 W base q D
  b:Blk W g 180 (engN none pi po pk pace)
  g0:base≤g
  al:qa8 W gl q.d 11 m
  as_:qa8 W gs q.d (11+m) m
  aa:qa8 W ga q.d 1 5
  ab:qa8 W gb q.d 6 5
  bl:Blk W lB 276 [.pointer (some ⟨gl,0,none⟩),.pointer (some ⟨gs,0,none⟩),.pointer (some ⟨ga,0,none⟩),.pointer (some ⟨gb,0,none⟩)]
  bp:Blk W pB 26 (progC x p)
  bg:Blk W gB 45 [.pointer (some ⟨g,0,none⟩)]
  bf:Blk W gf 61 (prtL (.pointer (some ⟨lB,0,none⟩)) (.pointer (some ⟨pB,0,none⟩)) (.pointer (some ⟨gB,0,none⟩)))
  pr:qk8 W base x p
  s:Step mutX base q w0 W
  hs:base≤W.heap.size
theorem qk8.ints1 {w:World} {base:Nat} {x:PA} {p:PV} (h:qk8 w base x p):qf9 w base x.A1 x.n1 p.ins:=⟨h.rd.r1,Nat.le_trans h.rd.k1.1 h.rd.k1.2,h.s1⟩
theorem qk8.ints2 {w:World} {base:Nat} {x:PA} {p:PV} (h:qk8 w base x p):qf9 w base x.A2 x.n2 p.outs:=⟨h.rd.r2,Nat.le_trans h.rd.k2.1 h.rd.k2.2,h.s2⟩
section
variable {w0 W W':World} {base g gB pB lB gf gl gs ga gb m:Nat} {q:qb9} {D D':qa1} {x:PA} {p:PV} {pace:Int} {pi po pk:Option Addr}
theorem Step.dToX {w w':World} (h:Step mutD base q w w'):Step mutX base q w w':=h.mono fun t ht => List.mem_cons_of_mem _ ht
theorem Step.eToX {w w':World} (h:Step [180] base q w w'):Step mutX base q w w':=h.mono dcd
theorem PrAt.step (h:PrAt w0 W base q g gB pB lB gf gl gs ga gb m x p pace D pi po pk) (hd:qa5 W' base q D') (t:Step mutD base q W W'):PrAt w0 W' base q g gB pB lB gf gl gs ga gb m x p pace D' pi po pk :=
  ⟨hd,h.d.blk h.b t.tch dcd,h.g0,h.d.area h.al t.tch dcd,h.d.area h.as_ t.tch dcd,h.d.area h.aa t.tch dcd,h.d.area h.ab t.tch dcd,h.d.blk h.bl t.tch dcd,h.d.blk h.bp t.tch dcd,h.d.blk h.bg t.tch dcd,h.d.blk h.bf t.tch dcd,h.pr.step h.d t dcd dcd dcd,h.s.trans t.dToX,Nat.le_trans h.hs t.size⟩
theorem PrAt.setE (h:PrAt w0 W base q g gB pB lB gf gl gs ga gb m x p pace D pi po pk) (i:Nat) (u:Value) {pi' po' pk':Option Addr} (he:(engN none pi po pk pace).set i u=engN none pi' po' pk' pace):PrAt w0 (W.setCell ⟨g,i,none⟩ u) base q g gB pB lB gf gl gs ga gb m x p pace D pi' po' pk':=by
  have t:=Step.engSet (q:=q) h.b h.g0 h.hs i u;have hb:=h.b.set_ i u;rw [he] at hb;exact ⟨h.d.engSet h.b i u,hb,h.g0,h.d.area h.al t.tch dcd,h.d.area h.as_ t.tch dcd,h.d.area h.aa t.tch dcd,h.d.area h.ab t.tch dcd,h.d.blk h.bl t.tch dcd,h.d.blk h.bp t.tch dcd,h.d.blk h.bg t.tch dcd,h.d.blk h.bf t.tch dcd,h.pr.step h.d t dcd dcd dcd,h.s.trans t.eToX,by simpa using h.hs⟩
def PrR1 (w0 W:World) (base:Nat) (q:qb9) (g gB pB lB gf gl gs ga gb m:Nat) (x:PA) (p:PV) (pace:Int) (F:qa1 × Nat × Int):Prop :=
  ∃ P,PrAt w0 W base q g gB pB lB gf gl gs ga gb m x p pace F.1 P none none∧(F.2.2=0→∃ gi,P=some ⟨gi,0,none⟩∧qd1 307 W base gi gl 3 F.2.1 p.ins)
def PrR2 (w0 W:World) (base:Nat) (q:qb9) (g gB pB lB gf gl gs ga gb m:Nat) (x:PA) (p:PV) (pace:Int) (nIn:Nat) (S:qa1 × Nat × Int):Prop :=
  ∃ gi P,PrAt w0 W base q g gB pB lB gf gl gs ga gb m x p pace S.1 (some ⟨gi,0,none⟩) P none∧qd1 307 W base gi gl 3 nIn p.ins∧(S.2.2=0→∃ go,P=some ⟨go,0,none⟩∧qd1 310 W base go gs 4 S.2.1 p.outs)
def PrR3 (w0 W:World) (base:Nat) (q:qb9) (g gB pB lB gf gl gs ga gb m:Nat) (x:PA) (p:PV) (pace hash:Int) (nIn nOut:Nat) (K:qa1 × KpV × Int):Prop :=
  ∃ gi go P,PrAt w0 W base q g gB pB lB gf gl gs ga gb m x p pace K.1 (some ⟨gi,0,none⟩) (some ⟨go,0,none⟩) P∧qd1 307 W base gi gl 3 nIn p.ins∧qd1 310 W base go gs 4 nOut p.outs∧(K.2.2=0→∃ gk,P=some ⟨gk,0,none⟩∧vq0 W base gk ga gb x p hash K.2.1)
theorem prt1_any (h:PrAt w0 W base q g gB pB lB gf gl gs ga gb m x p pace D none none none) (hm:1≤m) (big:11+m+m≤D.many) (hwt:D.waits.length<800000) :
    Calls Tryz.prog 190 #[.pointer (some ⟨lB,0,none⟩),.pointer (some ⟨pB,0,none⟩),.pointer (some ⟨gB,0,none⟩)] W fun e w' => e=.returned (.int .i64 (qc2 D 11 m 3 p.ins).2.2)∧PrR1 w0 w' base q g gB pB lB gf gl gs ga gb m x p pace (qc2 D 11 m 3 p.ins):=by
  have hb:Below W.heap.size W W.drew:=Below.drew (Below.refl _ _);have HD:=h.step (h.d.below hb) (Step.of_below hb h.hs);have hop:=fdopen_any HD.al hm HD.d HD.hs omg omg x.A1 x.n1 x.c1 HD.pr.ints1;have c0:W.cell? ⟨lB,0,none⟩=some (.pointer (some ⟨gl,0,none⟩)):=h.bl.cell 0;have c1:W.cell? ⟨pB,0,none⟩=some (.slice x.A1 x.n1 x.c1):=h.bp.cell 0;have c2:W.cell? ⟨gB,0,none⟩=some (.pointer (some ⟨g,0,none⟩)):=h.bg.cell 0;have ll:=h.bl.lt;have HX:=hdd HD;clear h HD hb;generalize qc2 D 11 m 3 p.ins=F at *;go_enter Tryz.func190,Tryz.ntmps190;go_upto_region 1 with fail;go_region_held3 (fun w' => w'.cell? ⟨lB,0,none⟩=some (.pointer (some ⟨gl,0,none⟩))∧w'.cell? ⟨pB,0,none⟩=some (.slice x.A1 x.n1 x.c1)∧w'.cell? ⟨gB,0,none⟩=some (.pointer (some ⟨g,0,none⟩))) (first | go_keep | (refine ⟨?_,?_,?_⟩ <;> assumption)) (first | ((go_at_call 191;(with_reducible refine (hop).mono ?_);rintro e w2 ⟨P2,rfl,n2,y2,d2,s2⟩);have X2:=hdd (HX.out.step d2 s2);have c0:w2.cell? ⟨lB,0,none⟩=some (.pointer (some ⟨gl,0,none⟩)):=X2.out.bl.cell 0;have c1:w2.cell? ⟨pB,0,none⟩=some (.slice x.A1 x.n1 x.c1):=X2.out.bp.cell 0;have c2:w2.cell? ⟨gB,0,none⟩=some (.pointer (some ⟨g,0,none⟩)):=X2.out.bg.cell 0;have k1:w2.cell? ⟨g,1,none⟩=some (.pointer none):=X2.out.b.cell 1;have f1:=X2.out.b.frozen 1;have gl2:=X2.out.b.lt;have X2s:=X2.out.setE 1 (.pointer P2) rfl;have s0:(w2.setCell ⟨g,1,none⟩ (.pointer P2)).cell? ⟨lB,0,none⟩=some (.pointer (some ⟨gl,0,none⟩)):=X2s.bl.cell 0;have s1:(w2.setCell ⟨g,1,none⟩ (.pointer P2)).cell? ⟨pB,0,none⟩=some (.slice x.A1 x.n1 x.c1):=X2s.bp.cell 0;have s2:(w2.setCell ⟨g,1,none⟩ (.pointer P2)).cell? ⟨gB,0,none⟩=some (.pointer (some ⟨g,0,none⟩)):=X2s.bg.cell 0;clear X2s) | fail "no arm");go_wp2_with fail;go_ret;refine ⟨rfl,P2,X2.out.setE 1 (.pointer P2) rfl,fun hz => ?_⟩;obtain ⟨gi,rfl,_,hj⟩:=y2 hz;exact ⟨gi,rfl,hj.at_.step X2.out.d (Step.engSet X2.out.b X2.out.g0 X2.out.hs 1 _) dcd dcd dcd⟩
theorem prt2_any {nIn gi:Nat} (h:PrAt w0 W base q g gB pB lB gf gl gs ga gb m x p pace D (some ⟨gi,0,none⟩) none none) (hf:qd1 307 W base gi gl 3 nIn p.ins) (hm:1≤m) (big:11+m+m≤D.many) (hwt:D.waits.length<800000) :
    Calls Tryz.prog 192 #[.pointer (some ⟨lB,0,none⟩),.pointer (some ⟨pB,0,none⟩),.pointer (some ⟨gB,0,none⟩)] W fun e w' => e=.returned (.int .i64 (qc2 D (11+m) m 4 p.outs).2.2)∧PrR2 w0 w' base q g gB pB lB gf gl gs ga gb m x p pace nIn (qc2 D (11+m) m 4 p.outs):=by
  have hb:Below W.heap.size W W.drew:=Below.drew (Below.refl _ _);have HD:=h.step (h.d.below hb) (Step.of_below hb h.hs);have hfD:=hdd (hf.below hb);have hop:=skopen_any HD.as_ hm HD.d HD.hs omg omg x.A2 x.n2 x.c2 HD.pr.ints2;have c0:W.cell? ⟨lB,1,none⟩=some (.pointer (some ⟨gs,0,none⟩)):=h.bl.cell 1;have c1:W.cell? ⟨pB,1,none⟩=some (.slice x.A2 x.n2 x.c2):=h.bp.cell 1;have c2:W.cell? ⟨gB,0,none⟩=some (.pointer (some ⟨g,0,none⟩)):=h.bg.cell 0;have ll:=h.bl.lt;have HX:=hdd HD;clear h HD hb hf;generalize qc2 D (11+m) m 4 p.outs=F at *;go_enter Tryz.func192,Tryz.ntmps192;go_upto_region 1 with fail;go_region_held3 (fun w' => w'.cell? ⟨lB,1,none⟩=some (.pointer (some ⟨gs,0,none⟩))∧w'.cell? ⟨pB,1,none⟩=some (.slice x.A2 x.n2 x.c2)∧w'.cell? ⟨gB,0,none⟩=some (.pointer (some ⟨g,0,none⟩))) (first | go_keep | (refine ⟨?_,?_,?_⟩ <;> assumption)) (first | ((go_at_call 193;(with_reducible refine (hop).mono ?_);rintro e w2 ⟨P2,rfl,n2,y2,d2,s2⟩);have X2:=hdd (HX.out.step d2 s2);have F2:=hdd (hfD.out.step HX.out.d s2 dcd dcd dcd);have c0:w2.cell? ⟨lB,1,none⟩=some (.pointer (some ⟨gs,0,none⟩)):=X2.out.bl.cell 1;have c1:w2.cell? ⟨pB,1,none⟩=some (.slice x.A2 x.n2 x.c2):=X2.out.bp.cell 1;have c2:w2.cell? ⟨gB,0,none⟩=some (.pointer (some ⟨g,0,none⟩)):=X2.out.bg.cell 0;have k1:w2.cell? ⟨g,2,none⟩=some (.pointer none):=X2.out.b.cell 2;have f1:=X2.out.b.frozen 2;have gl2:=X2.out.b.lt;have X2s:=X2.out.setE 2 (.pointer P2) rfl;have s0:(w2.setCell ⟨g,2,none⟩ (.pointer P2)).cell? ⟨lB,1,none⟩=some (.pointer (some ⟨gs,0,none⟩)):=X2s.bl.cell 1;have s1:(w2.setCell ⟨g,2,none⟩ (.pointer P2)).cell? ⟨pB,1,none⟩=some (.slice x.A2 x.n2 x.c2):=X2s.bp.cell 1;have s2:(w2.setCell ⟨g,2,none⟩ (.pointer P2)).cell? ⟨gB,0,none⟩=some (.pointer (some ⟨g,0,none⟩)):=X2s.bg.cell 0;clear X2s) | fail "no arm");go_wp2_with fail;go_ret;have t2:=Step.engSet (q:=q) X2.out.b X2.out.g0 X2.out.hs 2 (.pointer P2);refine ⟨rfl,gi,P2,X2.out.setE 2 (.pointer P2) rfl,F2.out.step X2.out.d t2 dcd dcd dcd,fun hz => ?_⟩;obtain ⟨go,rfl,_,hj⟩:=y2 hz;exact ⟨go,rfl,hj.at_.step X2.out.d t2 dcd dcd dcd⟩
theorem prt3_any {nIn nOut gi go:Nat} (h:PrAt w0 W base q g gB pB lB gf gl gs ga gb m x p pace D (some ⟨gi,0,none⟩) (some ⟨go,0,none⟩) none) (hf:qd1 307 W base gi gl 3 nIn p.ins) (ho:qd1 310 W base go gs 4 nOut p.outs) (hw:qk7 p) (hv:qf0 p=true) (big:11+m+m≤D.many) :
    Calls Tryz.prog 194 #[.pointer (some ⟨lB,0,none⟩),.pointer (some ⟨pB,0,none⟩),.pointer (some ⟨gB,0,none⟩)] W fun e w' => e=.returned (.int .i64 (qj1 D 1 5 6 5 p (qf5 p:Nat)).2.2)∧PrR3 w0 w' base q g gB pB lB gf gl gs ga gb m x p pace (qf5 p:Nat) nIn nOut (qj1 D 1 5 6 5 p (qf5 p:Nat)):=by
  have hb:Below W.heap.size W W.drew:=Below.drew (Below.refl _ _);have HD:=h.step (h.d.below hb) (Step.of_below hb h.hs);have hfD:=hdd (hf.below hb);have hoD:=hdd (ho.below hb);have hop:Calls Tryz.prog 195 _ _ (vm5 (fun _ => False) W.drew base q ga gb x p (qf5 p:Nat) (qj1 D 1 5 6 5 p (qf5 p:Nat))):=kopen_any (fun _ _ h => h) HD.pr hw hv HD.d HD.hs HD.aa HD.ab omg omg omg omg;have c0:W.cell? ⟨lB,2,none⟩=some (.pointer (some ⟨ga,0,none⟩)):=h.bl.cell 2;have c3:W.cell? ⟨lB,3,none⟩=some (.pointer (some ⟨gb,0,none⟩)):=h.bl.cell 3;obtain ⟨p0,p1,p2,p3,p4⟩:=blk5 (show Blk W pB _ [.slice x.A1 x.n1 x.c1,.slice x.A2 x.n2 x.c2,.int .i64 p.regs,.slice x.A3 x.n3 x.c3,.slice x.A4 x.n4 x.c4] from h.bp);have c2:W.cell? ⟨gB,0,none⟩=some (.pointer (some ⟨g,0,none⟩)):=h.bg.cell 0;have ll:=h.bl.lt;have HX:=hdd HD;clear h HD hb hf ho;generalize qj1 D 1 5 6 5 p (qf5 p:Nat)=F at *;go_enter Tryz.func194,Tryz.ntmps194;go_upto_region 1 with fail;go_region_held3 (fun w' => w'.cell? ⟨lB,2,none⟩=some (.pointer (some ⟨ga,0,none⟩))∧w'.cell? ⟨lB,3,none⟩=some (.pointer (some ⟨gb,0,none⟩))∧w'.cell? ⟨gB,0,none⟩=some (.pointer (some ⟨g,0,none⟩))∧w'.cell? ⟨pB,0,none⟩=some (.slice x.A1 x.n1 x.c1)∧w'.cell? ⟨pB,1,none⟩=some (.slice x.A2 x.n2 x.c2)∧w'.cell? ⟨pB,2,none⟩=some (.int .i64 p.regs)∧w'.cell? ⟨pB,3,none⟩=some (.slice x.A3 x.n3 x.c3)∧w'.cell? ⟨pB,4,none⟩=some (.slice x.A4 x.n4 x.c4)) (first | go_keep | (refine ⟨?_,?_,?_,?_,?_,?_,?_,?_⟩ <;> assumption)) (first | ((go_at_call 195;(with_reducible refine (hop).mono ?_);rintro e w2 ⟨P2,rfl,n2,y2,d2,s2⟩);have X2:=hdd (HX.out.step d2 s2);have F2:=hdd (hfD.out.step HX.out.d s2 dcd dcd dcd);have O2:=hdd (hoD.out.step HX.out.d s2 dcd dcd dcd);have c0:w2.cell? ⟨lB,2,none⟩=some (.pointer (some ⟨ga,0,none⟩)):=X2.out.bl.cell 2;have c3:w2.cell? ⟨lB,3,none⟩=some (.pointer (some ⟨gb,0,none⟩)):=X2.out.bl.cell 3;have c2:w2.cell? ⟨gB,0,none⟩=some (.pointer (some ⟨g,0,none⟩)):=X2.out.bg.cell 0;obtain ⟨p0,p1,p2,p3,p4⟩:=blk5 (show Blk w2 pB _ [.slice x.A1 x.n1 x.c1,.slice x.A2 x.n2 x.c2,.int .i64 p.regs,.slice x.A3 x.n3 x.c3,.slice x.A4 x.n4 x.c4] from X2.out.bp);have k1:w2.cell? ⟨g,3,none⟩=some (.pointer none):=X2.out.b.cell 3;have f1:=X2.out.b.frozen 3;have gl2:=X2.out.b.lt;have X2s:=X2.out.setE 3 (.pointer P2) rfl;have s0:(w2.setCell ⟨g,3,none⟩ (.pointer P2)).cell? ⟨lB,2,none⟩=some (.pointer (some ⟨ga,0,none⟩)):=X2s.bl.cell 2;have s1:(w2.setCell ⟨g,3,none⟩ (.pointer P2)).cell? ⟨lB,3,none⟩=some (.pointer (some ⟨gb,0,none⟩)):=X2s.bl.cell 3;have s2:(w2.setCell ⟨g,3,none⟩ (.pointer P2)).cell? ⟨gB,0,none⟩=some (.pointer (some ⟨g,0,none⟩)):=X2s.bg.cell 0;have s3:(w2.setCell ⟨g,3,none⟩ (.pointer P2)).cell? ⟨pB,0,none⟩=some (.slice x.A1 x.n1 x.c1):=X2s.bp.cell 0;have s4:(w2.setCell ⟨g,3,none⟩ (.pointer P2)).cell? ⟨pB,1,none⟩=some (.slice x.A2 x.n2 x.c2):=X2s.bp.cell 1;have s5:(w2.setCell ⟨g,3,none⟩ (.pointer P2)).cell? ⟨pB,2,none⟩=some (.int .i64 p.regs):=X2s.bp.cell 2;have s6:(w2.setCell ⟨g,3,none⟩ (.pointer P2)).cell? ⟨pB,3,none⟩=some (.slice x.A3 x.n3 x.c3):=X2s.bp.cell 3;have s7:(w2.setCell ⟨g,3,none⟩ (.pointer P2)).cell? ⟨pB,4,none⟩=some (.slice x.A4 x.n4 x.c4):=X2s.bp.cell 4;clear X2s) | fail "no arm");go_wp2_with fail;go_ret;have t2:=Step.engSet (q:=q) X2.out.b X2.out.g0 X2.out.hs 3 (.pointer P2);refine ⟨rfl,gi,go,P2,X2.out.setE 3 (.pointer P2) rfl,F2.out.step X2.out.d t2 dcd dcd dcd,O2.out.step X2.out.d t2 dcd dcd dcd,fun hz => ?_⟩;obtain ⟨gk,rfl,_,hj⟩:=y2 hz;exact ⟨gk,rfl,hj.step X2.out.d t2 dcd dcd dcd dcd dcd dcd⟩
end
end Go.Proofs.YtmeebofhlilcmaaGreat
