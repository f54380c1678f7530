/- Parts: StateE, Frame, ArgsProg, StateLawA, PlainState, MeterB. -/
import Derived.Test.YtmeebofhlilcmaaGreatPr02
import Derived.Test.YtmeebofhlilcmaaGreatPr06
import Derived.Test.YtmeebofhlilcmaaGreatPr01
import Derived.Test.YtmeebofhlilcmaaGreatRows
import Derived.ProofKit
import Derived.OpenShut
import Derived.Lib.SmallJoins
import Derived.Deep.Slices
import Derived.Deep.Fields
import Derived.ChangeSame
import Derived.Test.YtmeebofhlilcmaaGreatPr04
import Derived.Test.YtmeebofhlilcmaaGreatPr05
import Derived.Laws.LoneSync
import Derived.Deep.WholeRow
set_option linter.unusedVariables false
set_option linter.unusedSimpArgs false
set_option maxRecDepth 100000
set_option maxHeartbeats 40000000
namespace Go.Proofs.YtmeebofhlilcmaaGreat
open Go.RowKit
theorem Ow.grownBlk {α:Type} {enc:α→Value} {w w':World} {base n c g:Nat} {e t:TypeId} {A:Option Addr} {l:List α} {cs:List Value} (h:Ow enc w base e A n c l) (hg:w.grownBy w' (some g)) (hb:Blk w g t cs) (hne:e≠t):Ow enc w' base e A n c l :=
  ⟨h.1,qn4 (F:=(·=g)) h.2 (Keep.of_grown hg (fun x e => by injection e with e;exact e.symm)) (fun x hx e => vh9 h.2 hb hne (by subst e;exact hx))⟩
def qr6:SV:=⟨0,0,[]⟩
def qr7 (bs:List UInt8) (k:Nat):List Int:=(List.range k).map fun k => qx8 bs (16+8 * k)
def snapOf (n:Nat) (bs:List UInt8):SV:=⟨qx8 bs 0,qx8 bs 8,qr7 bs n⟩
def qo0 (p:PV) (bs:List UInt8):SV × Nat :=
  if mayB p=false then (qr6,2)
  else if bs.length<8 * (2+p.cells.length) then (qr6,10)
  else if 8 * (2+p.cells.length)<bs.length then (qr6,12)
  else if ql2 p (snapOf p.cells.length bs) then (snapOf p.cells.length bs,0) else (qr6,11)
def vm4 (w:World) (r:SV × Nat) (e:Ending) (w':World):Prop:=∃ A m d,e=.returned (.tuple #[.agg #[.int .i64 r.1.tick,.int .i64 r.1.hash,.slice A m d],.int .i64 (r.2:Nat)])∧(∃ b,w.heap.size≤b∧Ow iv w' b 3 A m d r.1.cells)∧Below w.heap.size w w'
theorem vm4.bad {w w':World} {r:SV × Nat} (z:Int) (h1:r.1=qr6) (h2:z=(r.2:Nat)) (hb:Below w.heap.size w w'):vm4 w r (.returned (.tuple #[.agg #[.int .i64 0,.int .i64 0,.slice none 0 0],.int .i64 z])) w' :=
  ⟨none,0,0,by rw [h1,h2];rfl,by rw [h1];exact ⟨w.heap.size,Nat.le_refl _,Ow.nil _ _ _ _⟩,hb⟩
theorem stateread_own (x:PA) (p:PV) (B:Option Addr) (m d:Nat) (bs:List UInt8) (w:World) (h:qg2 w x p) (hl:RB w B m bs) (hm:m≤d) (hd:d≤maxLen) :
    Calls Tryz.prog 161 #[.agg #[.slice x.A1 x.n1 x.c1,.slice x.A2 x.n2 x.c2,.int .i64 p.regs,.slice x.A3 x.n3 x.c3,.slice x.A4 x.n4 x.c4],.slice B m d] w (vm4 w (qo0 p bs)):=by
  have hmay:=fun w h => qy6 x p w h
  have hlen:=hl.1;have hn3:=h.r3.1;generalize hr:qo0 p bs=r;unfold qo0 at hr;have hMd:m≤9223372036854775807:=by unfold maxLen at hd;omega
  cases hmb:mayB p with
  | false =>
    rw [if_pos hmb] at hr;rw [hmb] at hmay;subst hr;clear hmb hlen hn3;go_enter Tryz.func161,Tryz.ntmps161;go_wp2_with ((go_at_call 153;(with_reducible refine (hmay _ (h.below (b:=w.heap.size) gwn nlr)).mono ?_);rintro e w1 ⟨rfl,hb1⟩);have hp1:=Blk.below (w':=w1) (g:=w.heap.size) (t:=26) (cs:=[.slice x.A1 x.n1 x.c1,.slice x.A2 x.n2 x.c2,.int .i64 p.regs,.slice x.A3 x.n3 x.c3,.slice x.A4 x.n4 x.c4]) blq hb1 szz;have hs1:=Blk.below (w':=w1) (g:=w.heap.size+1) (t:=139) (cs:=[.int .i64 0,.int .i64 0,.slice none 0 0]) blq hb1 szz;obtain ⟨y10,y11,y12,y13,y14⟩:=blk5 hp1;obtain ⟨j10,j11,j12⟩:=blk3 hs1;have f10:=hs1.frozen 0;have f11:=hs1.frozen 1;have f12:=hs1.frozen 2;have sz1:=hs1.lt;have rs1:=hb1.size;replace hb1:=qa2 (a:=w) (B:=w.heap.size) gwn hb1 szz;have hb1s:=hb1.size);refine bodyPost_ret (v:=.tuple #[.agg #[.int .i64 0,.int .i64 0,.slice none 0 0],.int .i64 2]) (by simp [results,Tryz.results161,go_sem,j10,j11,j12]) rfl ?_;exact vm4.bad 2 rfl rfl gwn
  | true =>
    rw [if_neg (by simp [hmb])] at hr;rw [hmb] at hmay;have hn60:=(qd6.1 hmb).2.2.2.2.1;rw [hlen,hn3] at hr;rw [hn3] at hn60;have hn3':=hdd hn3;clear hmb hn3;rcases (show m<8 * (2+x.n3)∨8 * (2+x.n3)<m∨m=8 * (2+x.n3) by omega) with hc | hc | hc
    · rw [if_pos hc] at hr;subst hr;have hc':(m:Int)<8 * (2+(x.n3:Int)):=omg;clear hlen;go_enter Tryz.func161,Tryz.ntmps161;go_wp2_with ((go_at_call 153;(with_reducible refine (hmay _ (h.below (b:=w.heap.size) gwn nlr)).mono ?_);rintro e w1 ⟨rfl,hb1⟩);have hp1:=Blk.below (w':=w1) (g:=w.heap.size) (t:=26) (cs:=[.slice x.A1 x.n1 x.c1,.slice x.A2 x.n2 x.c2,.int .i64 p.regs,.slice x.A3 x.n3 x.c3,.slice x.A4 x.n4 x.c4]) blq hb1 szz;have hs1:=Blk.below (w':=w1) (g:=w.heap.size+1) (t:=139) (cs:=[.int .i64 0,.int .i64 0,.slice none 0 0]) blq hb1 szz;obtain ⟨y10,y11,y12,y13,y14⟩:=blk5 hp1;obtain ⟨j10,j11,j12⟩:=blk3 hs1;have f10:=hs1.frozen 0;have f11:=hs1.frozen 1;have f12:=hs1.frozen 2;have sz1:=hs1.lt;have rs1:=hb1.size;replace hb1:=qa2 (a:=w) (B:=w.heap.size) gwn hb1 szz;have hb1s:=hb1.size);refine bodyPost_ret (v:=.tuple #[.agg #[.int .i64 0,.int .i64 0,.slice none 0 0],.int .i64 10]) (by simp [results,Tryz.results161,go_sem,j10,j11,j12]) rfl ?_;exact vm4.bad 10 rfl rfl gwn
    · rw [if_neg omg,if_pos hc] at hr;subst hr;have hc':¬ (m:Int)<8 * (2+(x.n3:Int)):=omg;have hc2:8 * (2+(x.n3:Int))<(m:Int):=omg;clear hlen;go_enter Tryz.func161,Tryz.ntmps161;go_wp2_with ((go_at_call 153;(with_reducible refine (hmay _ (h.below (b:=w.heap.size) gwn nlr)).mono ?_);rintro e w1 ⟨rfl,hb1⟩);have hp1:=Blk.below (w':=w1) (g:=w.heap.size) (t:=26) (cs:=[.slice x.A1 x.n1 x.c1,.slice x.A2 x.n2 x.c2,.int .i64 p.regs,.slice x.A3 x.n3 x.c3,.slice x.A4 x.n4 x.c4]) blq hb1 szz;have hs1:=Blk.below (w':=w1) (g:=w.heap.size+1) (t:=139) (cs:=[.int .i64 0,.int .i64 0,.slice none 0 0]) blq hb1 szz;obtain ⟨y10,y11,y12,y13,y14⟩:=blk5 hp1;obtain ⟨j10,j11,j12⟩:=blk3 hs1;have f10:=hs1.frozen 0;have f11:=hs1.frozen 1;have f12:=hs1.frozen 2;have sz1:=hs1.lt;have rs1:=hb1.size;replace hb1:=qa2 (a:=w) (B:=w.heap.size) gwn hb1 szz;have hb1s:=hb1.size);refine bodyPost_ret (v:=.tuple #[.agg #[.int .i64 0,.int .i64 0,.slice none 0 0],.int .i64 12]) (by simp [results,Tryz.results161,go_sem,j10,j11,j12]) rfl ?_;exact vm4.bad 12 rfl rfl gwn
    · rw [if_neg omg,if_neg omg] at hr;have hc':¬ (m:Int)<8 * (2+(x.n3:Int)):=omg;have hc2:¬ 8 * (2+(x.n3:Int))<(m:Int):=omg;have Hr:=hdd hr;have hbl:bs.length=16+8 * x.n3:=omg;have hge:16+8 * x.n3≤bs.length:=omg;have hm':m≤1000:=omg;have hnum:=fun w hl => numbers_any B m d bs w hl hm hd
      clear hr hlen hc hbl;have hT:∀ k,Hid (qr7 bs k ++ [qx8 bs (16+8 * k)]=qr7 bs (k+1)):=fun k => by
        show _=_
        unfold qr7;rw [List.range_succ,List.map_append];rfl
      have hT0:Hid (qr7 bs 0=[]):=rfl;have hsn:Hid (snapOf x.n3 bs=⟨qx8 bs 0,qx8 bs 8,qr7 bs x.n3⟩):=rfl;go_enter Tryz.func161,Tryz.ntmps161;go_wp2_with (first | ((go_at_call 153;(with_reducible refine (hmay _ (h.below (b:=w.heap.size) gwn nlr)).mono ?_);rintro e w1 ⟨rfl,hb1⟩);have hp1:=Blk.below (w':=w1) (g:=w.heap.size) (t:=26) (cs:=[.slice x.A1 x.n1 x.c1,.slice x.A2 x.n2 x.c2,.int .i64 p.regs,.slice x.A3 x.n3 x.c3,.slice x.A4 x.n4 x.c4]) blq hb1 szz;have hs1:=Blk.below (w':=w1) (g:=w.heap.size+1) (t:=139) (cs:=[.int .i64 0,.int .i64 0,.slice none 0 0]) blq hb1 szz;obtain ⟨y10,y11,y12,y13,y14⟩:=blk5 hp1;obtain ⟨j10,j11,j12⟩:=blk3 hs1;have f10:=hs1.frozen 0;have f11:=hs1.frozen 1;have f12:=hs1.frozen 2;have sz1:=hs1.lt;have rs1:=hb1.size;replace hb1:=qa2 (a:=w) (B:=w.heap.size) gwn hb1 szz;have hb1s:=hb1.size) | ((go_at_call 232;(with_reducible refine (hnum _ (hl.below (B:=w.heap.size) gwn nlr)).mono ?_);rintro e w2 ⟨rfl,st2,zs2⟩);have Hz2:=hdd zs2;clear zs2;have hp2:=hp1.below (w':=w2) st2.below hp1.lt;have hs2:=hs1.below (w':=w2) st2.below hs1.lt;have hb2:Below w.heap.size w w2:=hb1.trans (st2.below.mono omg);have sz2:=hs2.lt) | ((go_at_call 284;(with_reducible refine (vr0 w1.heap.size bs 0 w1 _ st2 omg).mono ?_);rintro e w3 ⟨rfl,st3,hg3⟩);have hp3:=Blk.grown hp2 hg3 (by simp;omega);have hs3:=Blk.grown hs2 hg3 (by simp;omega);have hb3:Below w.heap.size w w3:=hb1.trans (st3.below.mono omg);obtain ⟨y30,y31,y32,y33,y34⟩:=blk5 hp3;have sz3:=hs3.lt) | ((go_at_call 284;(with_reducible refine (vr0 w1.heap.size bs (0+8) w1 _ st3 omg).mono ?_);rintro e w4 ⟨rfl,st4,hg4⟩);have hp4:=Blk.grown hp3 hg4 (by simp;omega);have hs4:=Blk.grown hs3 hg4 (by simp;omega);have hb4:Below w.heap.size w w4:=hb1.trans (st4.below.mono omg);obtain ⟨y40,y41,y42,y43,y44⟩:=blk5 hp4;have sz4:=hs4.lt;have zp4:=hp4.lt));have zz1:=sz1;clear hp1 hs1 hp2 hs2 hp3 hs3 y10 y11 y12 y13 y14 j10 j11 j12 f10 f11 f12 y30 y31 y32 y33 y34 y40 y41 y42 y43 y44 st2 st3 hg3 hg4 hb2 hb3 sz2 sz3 hnum rs1 hb1s sz1;have hgb:=st4.hb;obtain ⟨_,_,Ab,nb,cb,hkb,_,_,_⟩:=id st4;have hltb:=hkb.lt;clear hkb;have hw14:=st4.below.size;have hgx:w1.heap.size<w4.heap.size:=omg;clear Hz2;have hst4':NumSt w1 w4 w1.heap.size bs 16:=st4;generalize qx8 bs 0=T at *;generalize qx8 bs 8=Hh at *;go_loopw [40] (fun i wr => ∃ (k:Nat) (A3:Option Addr) (c3:Nat),k≤x.n3∧i=.int .i64 (k:Nat)∧NumSt w1 wr w1.heap.size bs (16+8 * k)∧Blk wr w4.heap.size 139 [.int .i64 T,.int .i64 Hh,.slice A3 k c3]∧Ow iv wr w1.heap.size 3 A3 k c3 (qr7 bs k)∧Blk wr w.heap.size 26 [.slice x.A1 x.n1 x.c1,.slice x.A2 x.n2 x.c2,.int .i64 p.regs,.slice x.A3 x.n3 x.c3,.slice x.A4 x.n4 x.c4]∧Blk wr (w.heap.size+1) 139 [.int .i64 0,.int .i64 0,.slice none 0 0]∧Below w.heap.size w wr) (fun i _ => x.n3 - (intOf i).toNat)
      case atStart => exact ⟨0,none,0,omg,rfl,⟨hst4'.below.alloc omg _,hst4'.hb,by obtain ⟨a,b,c,k1,k2⟩:=hst4'.bb;exact ⟨a,b,c,k1.alloc _,k2⟩⟩,blq,by rw [hT0.out];exact Ow.nil _ _ _ _,blq,blq,gwn⟩
      case round =>
        clear hp4 hs4 hst4' st4 hb4;obtain ⟨k,A3,c3,hk,rfl,hst,hx,hown,hp,hs,hbel⟩:=hrel;have hbs:=hbel.size;have hgg:w4.heap.size<wr.heap.size:=hx.lt;obtain ⟨q0,q1,q2⟩:=blk3 hx
        by_cases hlt:k<x.n3
        · have hstd:NumSt w1 wr.drew w1.heap.size bs (16+8 * k):=⟨hst.below.drew,hst.hb,hst.bb⟩;obtain ⟨_,_,Ab,nb,cb,hkb,_,_,_⟩:=id hst;have hTk:=hT k;have hle:16+8 * k+8≤bs.length:=omg;have hnext:=fun (w2:World) (hs:NumSt w1 w2 w1.heap.size bs (16+8 * k)) => vr0 _ bs (16+8 * k) w1 w2 hs hle
          generalize qx8 bs (16+8 * k)=v at *;clear hT hT0;have n1:w1.heap.size≠w4.heap.size:=omg;have hfz:=hx.frozen 2;have hww1:=hb1.size;go_wp2;go_region_law (first | (go_simp;(go_at_call 284;(with_reducible refine (hnext _ hstd).mono ?_);rintro e w5 ⟨rfl,st5,hg5⟩);have hx5:Blk w5 w4.heap.size 139 [.int .i64 T,.int .i64 Hh,.slice A3 k c3]:=Blk.grown (w:=wr.drew) hx hg5 (by simp;omega);have hp5:Blk w5 w.heap.size 26 [.slice x.A1 x.n1 x.c1,.slice x.A2 x.n2 x.c2,.int .i64 p.regs,.slice x.A3 x.n3 x.c3,.slice x.A4 x.n4 x.c4]:=Blk.grown (w:=wr.drew) hp hg5 (by simp;omega);have hs5:Blk w5 (w.heap.size+1) 139 [.int .i64 0,.int .i64 0,.slice none 0 0]:=Blk.grown (w:=wr.drew) hs hg5 (by simp;omega);have own5:=Ow.grownBlk (w:=wr.drew) hown hg5 hkb dcd;have c52:w5.cell? ⟨w4.heap.size,2,none⟩=some (.slice A3 k c3):=hx5.cell 2;have hb5:Below w.heap.size w w5:=hb1.trans (st5.below.mono omg);have hb5s:=hb5.size;have z5:=hx5.lt;have st5b:=st5.below;have st5s:=st5b.size;obtain ⟨_,_,Ab5,nb5,cb5,hkb5,hrb5,hnc5,hcm5⟩:=id st5) | (refine qg3 rfl rfl qk2 qt6 (s:=.tmp 43) (N:=k+1) (L:=qr7 bs (k+1)) rfl (own5.below (b:=w5.heap.size) gwn nlr) rfl (k:=[v]) (Rd.of_block (l:=[v]) (qd3 _ _ smp) rfl) rfl hTk.out uml omg szz ?_;intro A6 c6 w6 own6 hg6 hat6 hb6;have hx6:Blk w6 w4.heap.size 139 [.int .i64 T,.int .i64 Hh,.slice A3 k c3]:=Blk.grown blq hg6 (own5.ne_ hx5 dcd);have hp6:Blk w6 w.heap.size 26 [.slice x.A1 x.n1 x.c1,.slice x.A2 x.n2 x.c2,.int .i64 p.regs,.slice x.A3 x.n3 x.c3,.slice x.A4 x.n4 x.c4]:=Blk.grown blq hg6 (own5.ne_ hp5 dcd);have hs6:Blk w6 (w.heap.size+1) 139 [.int .i64 0,.int .i64 0,.slice none 0 0]:=Blk.grown blq hg6 (own5.ne_ hs5 dcd);have c62:w6.cell? ⟨w4.heap.size,2,none⟩=some (.slice A3 k c3):=hx6.cell 2;have f62:=hx6.frozen 2;have z6:=hx6.lt;have hkb6:Blk w6 w1.heap.size 27 [.slice Ab5 nb5 cb5]:=Blk.grown blq hg6 (own5.ne_ hkb5 dcd);have hbw6:Below w1.heap.size w1 w6:=qa2 (a:=w1) (B:=w1.heap.size) gwn hb6 nlr))
          all_goals
            go_wp2;go_roundw
            case rel =>
              refine ⟨k+1,A6,c6,omg,by go_num,⟨hbw6.setCell omg _,hst.hb,Ab5,nb5,cb5,hkb6.far n1 _,hrb5,hnc5,hcm5⟩,hx6.set_ 2 _,own6.setFar hx6 dcd 2 _,hp6.far (by simp;omega) _,hs6.far (by simp;omega) _,hb1.trans ((hbw6.setCell omg _).mono omg)⟩
            case measure => simp [intOf];omega
        · have hkn:k=x.n3:=omg;subst hkn;have hge:((x.n3:Nat):Int)≤((x.n3:Nat):Int):=omg;obtain ⟨yw0,yw1,yw2,yw3,yw4⟩:=blk5 hp;obtain ⟨jw0,jw1,jw2⟩:=blk3 hs;have hfit:=fun w h k' => qx5 x p T Hh A3 x.n3 c3 (qr7 bs x.n3) w h k' uml
          have hcp:=hown.cap;rw [hsn.out] at Hr;clear hT hT0;generalize qr7 bs x.n3=CC at *;have Hr2:Hid ((if ql2 p ⟨T,Hh,CC⟩=true then ((⟨T,Hh,CC⟩:SV),0) else (qr6,11))=r):=Hr;clear Hr;generalize ql2 p ⟨T,Hh,CC⟩=fb at *
          cases fb with
          | true =>
            have hr2:Hid (r=(⟨T,Hh,CC⟩,0)):=by show r=_;rw [← Hr2.out];rfl
            clear Hr2;go_wp2_with ((go_at_call 233;(with_reducible refine (hfit _ (h.below (b:=w.heap.size) gwn nlr) hown.rd.ri).mono ?_);rintro e w7 ⟨rfl,hb7⟩);have hx7:=hx.below (w':=w7) hb7 hx.lt;have hs7:=hs.below (w':=w7) hb7 hs.lt;have own7:=hown.below hb7 nlr;obtain ⟨v70,v71,v72⟩:=blk3 hx7;obtain ⟨u70,u71,u72⟩:=blk3 hs7;have f70:=hs7.frozen 0;have f71:=hs7.frozen 1;have f72:=hs7.frozen 2;have zz7:=hs7.lt;replace hb7:=qa2 (a:=w) (B:=w.heap.size) gwn hb7 szz;have hb7s:=hb7.size);refine bodyPost_ret (v:=.tuple #[.agg #[.int .i64 T,.int .i64 Hh,.slice A3 x.n3 c3],.int .i64 0]) (by simp [results,Tryz.results161,go_sem,u70,u71,u72]) rfl ?_;exact ⟨A3,x.n3,c3,by rw [hr2.out];rfl,by rw [hr2.out];exact ⟨_,hb1.size,(((own7.setFar hs7 dcd 0 _).setFar (hs7.set_ 0 _) dcd 1 _).setFar ((hs7.set_ 0 _).set_ 1 _) dcd 2 _)⟩,gwn⟩
          | false =>
            have hr2:Hid (r=(qr6,11)):=by show r=_;rw [← Hr2.out];rfl
            clear Hr2;go_wp2_with ((go_at_call 233;(with_reducible refine (hfit _ (h.below (b:=w.heap.size) gwn nlr) hown.rd.ri).mono ?_);rintro e w7 ⟨rfl,hb7⟩);have hx7:=hx.below (w':=w7) hb7 hx.lt;have hs7:=hs.below (w':=w7) hb7 hs.lt;have own7:=hown.below hb7 nlr;obtain ⟨v70,v71,v72⟩:=blk3 hx7;obtain ⟨u70,u71,u72⟩:=blk3 hs7;have f70:=hs7.frozen 0;have f71:=hs7.frozen 1;have f72:=hs7.frozen 2;have zz7:=hs7.lt;replace hb7:=qa2 (a:=w) (B:=w.heap.size) gwn hb7 szz;have hb7s:=hb7.size);refine bodyPost_ret (v:=.tuple #[.agg #[.int .i64 0,.int .i64 0,.slice none 0 0],.int .i64 11]) (by simp [results,Tryz.results161,go_sem,u70,u71,u72]) rfl ?_;exact vm4.bad 11 (by rw [hr2.out]) (by rw [hr2.out];rfl) gwn
open Go.RowKit Go.WideShapes Go.ChangeShapes
section
variable {H:Type} {enc:TypeId × Value→H} {P:Program} {w:World} {base b0:Nat} {spare:Nat→Bool} {held:Bool} {r:Reach} {v:Value} {d:DataW H} {ps:List MemPlace}
theorem args_int {t:TypeId} {k:IntKind} (ht:P.underlying t=some (.int k)) (hval:Value.okWide P w r b0 t v) (hd:DataW.Trod enc P w base spare held t v d ps) :
    ∃ n,v=.int k n∧(Lit.int k n).wf=true:=by
  obtain ⟨n,h,_,_,hw⟩:=open_int ht hval hd;exact ⟨n,h,hw⟩
end
open Go.RowKit Go.WideShapes Go.ChangeShapes Go.Deep
open Go.RowKit Go.WideShapes Go.ChangeShapes Go.Deep Go.Joins
open Go.RowKit Go.WideShapes Go.ChangeShapes Go.Deep Go.Joins
open Go.ChangeShapes Go.WideShapes Go.RowKit Go.Deep
def I64 (z:Int):Prop:=-9223372036854775808≤z∧z≤9223372036854775807
open Go.ChangeShapes Go.WideShapes Go.RowKit Go.Deep
section
variable {H:Type} {enc:TypeId × Value→H} {w:World} {base b0:Nat} {held:Bool} {r:Reach} {v:Value} {d:DataW H} {ps:List MemPlace}
structure vs7 (s:SV):Prop where
  tick:I64 s.tick
  hash:I64 s.hash
  cells:∀ z ∈ s.cells,I64 z
end
theorem vk4 {n:Int} (hn:-9223372036854775808≤n∧n≤9223372036854775807) (a b:List UInt8):qx8 (a ++ (nBs n ++ b)) a.length=n:=by
  unfold qx8;rw [List.drop_left,List.take_left' (qz7 n)];unfold nBs;rw [vk8 _ (un_lt n),sg_un hn.1 hn.2]
theorem flat_len8 (l:List Int):(l.flatMap nBs).length=8 * l.length:=by
  induction l with
  | nil => rfl
  | cons a l ih => rw [List.flatMap_cons,List.length_append,ih,qz7,List.length_cons];omega
theorem stBs_len (s:SV):(stBs s).length=16+8 * s.cells.length:=by
  unfold stBs;rw [List.length_append,List.length_append,qz7,qz7,flat_len8]
theorem numAt_flat (l:List Int) (hl:∀ z ∈ l,-9223372036854775808≤z∧z≤9223372036854775807) (a:List UInt8) (k:Nat) (hk:k<l.length):qx8 (a ++ l.flatMap nBs) (a.length+8 * k)=l[k]:=by
  induction l generalizing a k with
  | nil => simp at hk
  | cons z l ih =>
    rw [List.flatMap_cons]
    cases k with
    | zero => exact vk4 (hl z smp) a _
    | succ k =>
      have:=ih (fun y hy => hl y (by simp [hy])) (a ++ nBs z) k (by simpa using hk);rw [List.length_append,qz7,List.append_assoc] at this;rw [show a.length+8 * (k+1)=a.length+8+8 * k by omega,this];rfl
theorem snapOf_stBs {s:SV} (ht:I64 s.tick) (hh:I64 s.hash) (hc:∀ z ∈ s.cells,I64 z):snapOf s.cells.length (stBs s)=s:=by
  have e1:qx8 (stBs s) 0=s.tick:=by
    have:=vk4 (n:=s.tick) ht [] (nBs s.hash ++ s.cells.flatMap nBs);rw [List.nil_append,← List.append_assoc] at this;exact this
  have e2:qx8 (stBs s) 8=s.hash:=by
    have:=vk4 (n:=s.hash) hh (nBs s.tick) (s.cells.flatMap nBs);rw [← List.append_assoc,qz7] at this;exact this
  have e3:qr7 (stBs s) s.cells.length=s.cells:=by
    apply List.ext_getElem
    · simp [qr7]
    intro k h1 h2;have:=numAt_flat s.cells hc (nBs s.tick ++ nBs s.hash) k h2;rw [List.length_append,qz7,qz7] at this;have e:(qr7 (stBs s) s.cells.length)[k]=qx8 (stBs s) (16+8 * k):=by
      simp only [qr7,List.getElem_map,List.getElem_range]
    rw [e];exact this
  obtain ⟨t,h,c⟩:=s;unfold snapOf;simp only at e1 e2 e3;rw [e1,e2,e3]
theorem aadd_any (g k:Nat) (x y:Int) (w:World) (hc:w.cell? ⟨g,k,none⟩=some (.int .i64 x)) (hz:w.frozen? ⟨g,k,none⟩=false) :
    Calls Tryz.prog 305 #[.pointer (some ⟨g,k,none⟩),.int .i64 y] w fun e w' => e=.returned (.int .i64 (wrap64 (x+y)))∧w.setCell ⟨g,k,none⟩ (.int .i64 (wrap64 (x+y)))=w':=by
  have hl:=run_call_add (P:=Tryz.prog) Tryz.func320 (by kernel_rfl) (by kernel_rfl) (by kernel_rfl) .i64 (by kernel_rfl) (y:=y) (s:=wrap64 (x+y)) hc hz (by simp [go_sem,wrap64,IntKind.wrap_i64]);generalize wrap64 (x+y)=z at *;go_enter Tryz.func305,Tryz.ntmps305;go_wp2;go_ret;exact ⟨rfl,rfl⟩
theorem has_yes (g:Nat) (kind:Int) (w:World) (h1:1≤kind) (h2:kind≤6):Calls Tryz.prog 304 #[.pointer (some ⟨g,0,none⟩),.int .i64 kind] w fun e w' => e=.returned (.bool true)∧w=w':=by
  go_enter Tryz.func304,Tryz.ntmps304;go_wp2;go_ret;exact ⟨rfl,rfl⟩
theorem has_no (g:Nat) (kind:Int) (w:World) (h:¬ (1≤kind∧kind≤6)):Calls Tryz.prog 304 #[.pointer (some ⟨g,0,none⟩),.int .i64 kind] w fun e w' => e=.returned (.bool false)∧w=w':=by
  have h':kind<1∨(1≤kind∧6<kind):=omg;clear h;rcases h' with h | ⟨h1,h2⟩
  all_goals
    go_enter Tryz.func304,Tryz.ntmps304;go_wp2;go_ret;exact ⟨qg5 (by first | (simp;done) | (simp;omega)),rfl⟩
theorem has_nil (kind:Int) (w:World):Calls Tryz.prog 304 #[.pointer none,.int .i64 kind] w fun e w' => e=.returned (.bool false)∧w=w':=by
  go_enter Tryz.func304,Tryz.ntmps304;go_wp2;go_ret;exact ⟨rfl,rfl⟩
def qb1 (w:World) (g:Nat) (l:List Int):Prop:=l.length=6∧Blk w g 300 (l.map iv)
def mPut (l:List Int) (kind x:Int):List Int:=l.set (kind - 1).toNat x
def mGet (l:List Int) (kind:Int):Int:=l.getD (kind - 1).toNat 0
theorem mPut_len (l:List Int) (kind x:Int):(mPut l kind x).length=l.length:=by simp [mPut]
theorem qb1.cell {w:World} {g:Nat} {l:List Int} (h:qb1 w g l) (k:Nat) (hk:k<6):w.cell? ⟨g,k,none⟩=some (.int .i64 (mGet l ((k:Int)+1))):=by
  rw [h.2.cell];have:k<l.length:=by rw [h.1];exact hk
  unfold mGet iv;rw [show ((k:Int)+1 - 1).toNat=k from by omega];simp [List.getD_eq_getElem?_getD,this]
theorem qb1.put {w:World} {g:Nat} {l:List Int} (h:qb1 w g l) (k:Nat) (x:Int):qb1 (w.setCell ⟨g,k,none⟩ (.int .i64 x)) g (mPut l ((k:Int)+1) x):=by
  refine ⟨by rw [mPut_len];exact h.1,?_⟩;unfold mPut;rw [show ((k:Int)+1 - 1).toNat=k from by omega,List.map_set];exact h.2.set_ k _
theorem newmeter_any (w:World):Calls Tryz.prog 117 #[] w fun e w' => e=.returned (.pointer (some ⟨w.heap.size,0,none⟩))∧qb1 w' w.heap.size [0,0,0,0,0,0]∧Below w.heap.size w w'∧w'.heap.size=w.heap.size+1:=by
  have hbu:∀ w:World,(Instr.build 300 #[]).run Tryz.prog w=.ok (.agg #[.int .i64 0,.int .i64 0,.int .i64 0,.int .i64 0,.int .i64 0,.int .i64 0]) w:=fun w => run_build w _ _ _ (by kernel_rfl)
  go_enter Tryz.func117,Tryz.ntmps117;go_wp2;go_ret;exact ⟨rfl,⟨rfl,Blk.top _ rfl rfl⟩,gwn,by simp⟩
theorem add_yes (g:Nat) (l:List Int) (kind n:Int) (w:World) (hm:qb1 w g l) (h1:1≤kind) (h2:kind≤6) :
    Calls Tryz.prog 285 #[.pointer (some ⟨g,0,none⟩),.int .i64 kind,.int .i64 n] w fun e w' => e=.returned (.bool true)∧qb1 w' g (mPut l kind (wrap64 (mGet l kind+n)))∧w.grownBy w' (some g)∧w'.heap.size=w.heap.size:=by
  obtain ⟨k,rfl⟩:∃ k:Nat,kind=(k:Int)+1:=⟨(kind - 1).toNat,omg⟩;have hk:k<6:=omg;have hc:=hm.cell k hk;have hz:=hm.2.frozen k;have hp:=fun x => hdd (hm.put k x)
  generalize mGet l ((k:Int)+1)=x at *;have hput:∀ x,Hid (qb1 (w.setCell ⟨g,k,none⟩ (.int .i64 x)) g (mPut l ((k:Int)+1) x)):=hp;clear hp;go_enter Tryz.func285,Tryz.ntmps285;go_wp2_with (first | (go_at_call 304;(with_reducible refine (has_yes _ _ _ h1 h2).mono ?_);rintro e w1 ⟨rfl,rfl⟩) | (go_at_call 305;(with_reducible refine (aadd_any _ _ _ _ _ hc hz).mono ?_);rintro e w1 ⟨rfl,rfl⟩));go_ret;exact ⟨rfl,(hput _).out,qb5 _,by simp [World.setCell]⟩
def NoKind (A:Option Addr) (kind:Int):Prop:=(∃ g,A=some ⟨g,0,none⟩∧¬ (1≤kind∧kind≤6))∨A=none
theorem has_not (A:Option Addr) (kind:Int) (w:World) (h:NoKind A kind):Calls Tryz.prog 304 #[.pointer A,.int .i64 kind] w fun e w' => e=.returned (.bool false)∧w=w':=by
  rcases h with ⟨g,rfl,h⟩ | rfl
  · exact has_no g kind w h
  · exact has_nil kind w
theorem add_no (A:Option Addr) (kind n:Int) (w:World) (h:NoKind A kind):Calls Tryz.prog 285 #[.pointer A,.int .i64 kind,.int .i64 n] w fun e w' => e=.returned (.bool false)∧w=w':=by
  go_enter Tryz.func285,Tryz.ntmps285;go_wp2_with (go_at_call 304;(with_reducible refine (has_not _ _ _ h).mono ?_);rintro e w1 ⟨rfl,rfl⟩);go_ret;exact ⟨rfl,rfl⟩
theorem qb1.alloc {w:World} {g:Nat} {l:List Int} (h:qb1 w g l) (o:Obj):qb1 (w.alloc o) g l:=⟨h.1,h.2.alloc o⟩
def inK (kind:Int):Bool:=decide (1≤kind∧kind≤6)
def mAdd (l:List Int) (kind n:Int):List Int:=if inK kind then mPut l kind (wrap64 (mGet l kind+n)) else l
theorem inK_yes {kind:Int} (h:inK kind=true):1≤kind∧kind≤6:=by simpa [inK] using h
theorem inK_no {kind:Int} {g:Nat} (h:inK kind=false):NoKind (some ⟨g,0,none⟩) kind:=.inl ⟨g,rfl,by simpa [inK] using h⟩
theorem add_any (g:Nat) (l:List Int) (kind n:Int) (w:World) (hm:qb1 w g l) :
    Calls Tryz.prog 285 #[.pointer (some ⟨g,0,none⟩),.int .i64 kind,.int .i64 n] w fun e w' => e=.returned (.bool (inK kind))∧qb1 w' g (mAdd l kind n)∧w.grownBy w' (some g)∧w'.heap.size=w.heap.size:=by
  cases h:inK kind with
  | true => unfold mAdd;rw [if_pos h];exact add_yes g l kind n w hm (inK_yes h).1 (inK_yes h).2
  | false => unfold mAdd;rw [if_neg (by simp [h])];exact (add_no _ kind n w (inK_no h)).mono fun e w' ⟨he,hw⟩ => by subst hw;exact ⟨he,hm,World.grownBy.refl _ _,rfl⟩
end Go.Proofs.YtmeebofhlilcmaaGreat
