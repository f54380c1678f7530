/- Parts: StateC, RefNumC, RefNumD, RefNumE, RowB, RowC, RefNumF, Zag, RowD, StateD. -/
import Derived.Test.YtmeebofhlilcmaaGreatPr02
import Derived.Test.YtmeebofhlilcmaaGreatPr05
import Derived.Deep.RegionHeld3
import Derived.Test.YtmeebofhlilcmaaGreatPr03
import Derived.Test.YtmeebofhlilcmaaGreatPr04
import Derived.Test.YtmeebofhlilcmaaGreatPr01
import Derived.Deep.RegionLaw
import Derived.Deep.AppendLies
set_option linter.unusedVariables false
set_option linter.unusedSimpArgs false
set_option maxRecDepth 100000
set_option maxHeartbeats 40000000
namespace Go.Proofs.YtmeebofhlilcmaaGreat
open Go.RowKit
def nBs (n:Int):List UInt8:=putL (un n)
theorem qz7 (n:Int):(nBs n).length=8:=qq3 _
def stBs (s:SV):List UInt8:=nBs s.tick ++ nBs s.hash ++ s.cells.flatMap nBs
theorem statewrite_row (x:PA) (p:PV) (tick hash:Int) (B:Option Addr) (m d:Nat) (l:List Int) (w:World) (h:qg2 w x p) (hl:RI w B m l) (hm:m≤maxLen) (hmb:mayB p=true) (hf:ql2 p ⟨tick,hash,l⟩=false) :
    Calls Tryz.prog 263 #[.agg #[.slice x.A1 x.n1 x.c1,.slice x.A2 x.n2 x.c2,.int .i64 p.regs,.slice x.A3 x.n3 x.c3,.slice x.A4 x.n4 x.c4],.agg #[.int .i64 tick,.int .i64 hash,.slice B m d]] w fun e w' => e=.returned (.tuple #[.slice none 0 0,.int .i64 41])∧Below w.heap.size w w':=by
  have hmay:=fun w h => qy6 x p w h
  have hfit:=fun w h k => qx5 x p tick hash B m d l w h k hm
  rw [hmb] at hmay;rw [hf] at hfit;clear hmb hf;go_enter Tryz.func263,Tryz.ntmps263;go_wp2_with (first | ((go_at_call 153;(with_reducible refine (hmay _ (h.below (b:=w.heap.size) gwn nlr)).mono ?_);rintro e w1 ⟨rfl,hb1⟩);have hp1:=Blk.below (w':=w1) (g:=w.heap.size) (t:=26) (cs:=[.slice x.A1 x.n1 x.c1,.slice x.A2 x.n2 x.c2,.int .i64 p.regs,.slice x.A3 x.n3 x.c3,.slice x.A4 x.n4 x.c4]) blq hb1 szz;have hs1:=Blk.below (w':=w1) (g:=w.heap.size+1) (t:=139) (cs:=[.int .i64 tick,.int .i64 hash,.slice B m d]) blq hb1 szz;obtain ⟨y10,y11,y12,y13,y14⟩:=blk5 hp1;obtain ⟨j10,j11,j12⟩:=blk3 hs1;have sz1:=hs1.lt;have rs1:=hb1.size;replace hb1:=qa2 (a:=w) (B:=w.heap.size) gwn hb1 szz;have hb1s:=hb1.size) | ((go_at_call 233;(with_reducible refine (hfit _ (h.below (b:=w.heap.size) gwn nlr) (hl.below (B:=w.heap.size) gwn nlr)).mono ?_);rintro e w2 ⟨rfl,hb2⟩);replace hb2:=qa2 (a:=w) (B:=w.heap.size) gwn hb2 szz;have hb2s:=hb2.size));go_ret2;exact ⟨rfl,gwn⟩
theorem statewrite_ok (x:PA) (p:PV) (tick hash:Int) (B:Option Addr) (m d:Nat) (l:List Int) (w:World) (h:qg2 w x p) (hl:RI w B m l) (hm:m≤maxLen) (hf:ql2 p ⟨tick,hash,l⟩=true) :
    Calls Tryz.prog 263 #[.agg #[.slice x.A1 x.n1 x.c1,.slice x.A2 x.n2 x.c2,.int .i64 p.regs,.slice x.A3 x.n3 x.c3,.slice x.A4 x.n4 x.c4],.agg #[.int .i64 tick,.int .i64 hash,.slice B m d]] w fun e w' => ∃ A N c,e=.returned (.tuple #[.slice A N c,.int .i64 0])∧OB w' w.heap.size 5 A N c (stBs ⟨tick,hash,l⟩)∧Below w.heap.size w w':=by
  have hmay:=fun w h => qy6 x p w h
  have hfit:=fun w h k => qx5 x p tick hash B m d l w h k hm
  obtain ⟨f1,f2,f3,f4,_⟩:=ql8.1 hf;have hm60:m≤60:=by have:=(qd6.1 f1).2.2.2.2.1;have:=hl.1;simp only at f4;omega
  rw [f1] at hmay;rw [hf] at hfit;clear hf f1 f2 f3 f4 hm;have hput:∀ n w,Calls Tryz.prog 254 #[.int .i64 n] w fun e w' => ∃ A c,e=.returned (.slice A 8 c)∧OB w' w.heap.size 5 A 8 c (nBs n)∧Below w.heap.size w w':=fun n w => vq6 n w
  have hcat:∀ k,k<m→Hid (nBs tick ++ nBs hash ++ (l.take k).flatMap nBs ++ nBs (qa6 l k)=nBs tick ++ nBs hash ++ (l.take (k+1)).flatMap nBs):=fun k hk => by
    show _=_
    have hk':k<l.length:=by rw [hl.1];exact hk
    rw [List.take_succ_eq_append_getElem hk',List.flatMap_append];unfold qa6;rw [List.getD_eq_getElem?_getD,List.getElem?_eq_getElem hk'];simp
  have hz0:Hid (nBs tick ++ nBs hash ++ (l.take 0).flatMap nBs=nBs tick ++ nBs hash):=by show _=_;simp
  have hfin:Hid (nBs tick ++ nBs hash ++ (l.take m).flatMap nBs=stBs ⟨tick,hash,l⟩):=by
    show _=_
    unfold stBs;rw [List.take_of_length_le (by rw [hl.1];omega)]
  generalize stBs ⟨tick,hash,l⟩=SB at *;go_enter Tryz.func263,Tryz.ntmps263;go_wp2_with (first | ((go_at_call 153;(with_reducible refine (hmay _ (h.below (b:=w.heap.size) gwn nlr)).mono ?_);rintro e w1 ⟨rfl,hb1⟩);have hp1:=Blk.below (w':=w1) (g:=w.heap.size) (t:=26) (cs:=[.slice x.A1 x.n1 x.c1,.slice x.A2 x.n2 x.c2,.int .i64 p.regs,.slice x.A3 x.n3 x.c3,.slice x.A4 x.n4 x.c4]) blq hb1 szz;have hs1:=Blk.below (w':=w1) (g:=w.heap.size+1) (t:=139) (cs:=[.int .i64 tick,.int .i64 hash,.slice B m d]) blq hb1 szz;obtain ⟨y10,y11,y12,y13,y14⟩:=blk5 hp1;obtain ⟨j10,j11,j12⟩:=blk3 hs1;have sz1:=hs1.lt;have rs1:=hb1.size;replace hb1:=qa2 (a:=w) (B:=w.heap.size) gwn hb1 szz;have hb1s:=hb1.size) | ((go_at_call 233;(with_reducible refine (hfit _ (h.below (b:=w.heap.size) gwn nlr) (hl.below (B:=w.heap.size) gwn nlr)).mono ?_);rintro e w2 ⟨rfl,hb2⟩);have hp2:=Blk.below (w':=w2) (g:=w.heap.size) (t:=26) (cs:=[.slice x.A1 x.n1 x.c1,.slice x.A2 x.n2 x.c2,.int .i64 p.regs,.slice x.A3 x.n3 x.c3,.slice x.A4 x.n4 x.c4]) blq hb2 szz;have hs2:=Blk.below (w':=w2) (g:=w.heap.size+1) (t:=139) (cs:=[.int .i64 tick,.int .i64 hash,.slice B m d]) blq hb2 szz;obtain ⟨y20,y21,y22,y23,y24⟩:=blk5 hp2;obtain ⟨j20,j21,j22⟩:=blk3 hs2;have sz2:=hs2.lt;have rs2:=hb2.size;replace hb2:=qa2 (a:=w) (B:=w.heap.size) gwn hb2 szz;have hb2s:=hb2.size));go_region_held3 (fun w' => w'.cell? ⟨w.heap.size+1,0,none⟩=some (.int .i64 tick)∧w'.cell? ⟨w.heap.size+1,1,none⟩=some (.int .i64 hash)) (first | go_keep | (refine ⟨?_,?_⟩ <;> assumption)) (first | ((go_at_call 254;(with_reducible refine (hput tick _).mono ?_);rintro e w3 ⟨A3,c3,rfl,own3,hb3⟩);have hp3:=Blk.below (w':=w3) (g:=w.heap.size) (t:=26) (cs:=[.slice x.A1 x.n1 x.c1,.slice x.A2 x.n2 x.c2,.int .i64 p.regs,.slice x.A3 x.n3 x.c3,.slice x.A4 x.n4 x.c4]) blq hb3 szz;have hs3:=Blk.below (w':=w3) (g:=w.heap.size+1) (t:=139) (cs:=[.int .i64 tick,.int .i64 hash,.slice B m d]) blq hb3 szz;obtain ⟨y30,y31,y32,y33,y34⟩:=blk5 hp3;obtain ⟨j30,j31,j32⟩:=blk3 hs3;have sz3:=hs3.lt;have rs3:=hb3.size;replace hb3:=qa2 (a:=w) (B:=w.heap.size) gwn hb3 szz;have hb3s:=hb3.size) | ((go_at_call 254;(with_reducible refine (hput hash _).mono ?_);rintro e w4 ⟨A4,c4,rfl,own4,hb4⟩);have own3a:=own3.below hb4 nlr;have hp4:=Blk.below (w':=w4) (g:=w.heap.size) (t:=26) (cs:=[.slice x.A1 x.n1 x.c1,.slice x.A2 x.n2 x.c2,.int .i64 p.regs,.slice x.A3 x.n3 x.c3,.slice x.A4 x.n4 x.c4]) blq hb4 szz;have hs4:=Blk.below (w':=w4) (g:=w.heap.size+1) (t:=139) (cs:=[.int .i64 tick,.int .i64 hash,.slice B m d]) blq hb4 szz;obtain ⟨y40,y41,y42,y43,y44⟩:=blk5 hp4;obtain ⟨j40,j41,j42⟩:=blk3 hs4;have sz4:=hs4.lt;have rs4:=hb4.size;replace hb4:=qa2 (a:=w) (B:=w.heap.size) gwn hb4 szz;have hb4s:=hb4.size) | (refine qg3 rfl rfl qd8 qf3 (s:=.tmp 20) (N:=16) (L:=nBs tick ++ nBs hash) rfl own3a rfl (k:=nBs hash) own4.rd rfl rfl uml omg szz ?_;intro A5 c5 w5 own5 hg5 hat5 hb5;have hs5:Blk w5 (w.heap.size+1) 139 [.int .i64 tick,.int .i64 hash,.slice B m d]:=Blk.grown hs4 hg5 (own3a.ne_ hs4 dcd);obtain ⟨j50,j51,j52⟩:=blk3 hs5;replace own5:=own5.rebase (base':=w.heap.size) szz;replace hb5:=qa2 (a:=w) (B:=w.heap.size) gwn hb5 szz;have hb5s:=hb5.size))
  all_goals
    clear own3 own3a own4;go_wp2;go_loopw [6,28] (fun v i wr => ∃ (k:Nat) (C:Option Addr) (e:Nat),k≤m∧i=.int .i64 (k:Nat)∧v=.slice C (16+8 * k) e∧Ow bv wr w.heap.size 5 C (16+8 * k) e (nBs tick ++ nBs hash ++ (l.take k).flatMap nBs)∧Below w.heap.size w wr) (fun _ i _ => m - (intOf i).toNat)
    case atStart => exact ⟨0,A5,c5,omg,rfl,rfl,by rw [hz0.out];exact own5,hb5⟩
    case round =>
      clear own5;obtain ⟨k,C,e,hk,rfl,rfl,hown,hbel⟩:=hrel;have hbs:=hbel.size
      by_cases hlt:k<m
      · obtain ⟨b,o,rfl,_,hc⟩:=(hl.below hbel nlr).at_ hlt;have hcx:=hcat k hlt;clear hcat hz0;generalize qa6 l k=v at *;go_wp2_with (first | ((go_at_call 254;(with_reducible refine (hput v _).mono ?_);rintro e w7 ⟨A7,c7,rfl,own7,hb7⟩);have own7a:=hown.below hb7 nlr;replace hb7:=qa2 (a:=w) (B:=w.heap.size) gwn hb7 szz;have hb7s:=hb7.size) | (at_builtin;refine qc7 rfl rfl qd8 qf3 (s:=.tmp 32) (N:=16+8 * (k+1)) (L:=nBs tick ++ nBs hash ++ (l.take (k+1)).flatMap nBs) rfl own7a rfl (k:=nBs v) own7.rd omg hcx.out uml omg szz ?_;intro A8 c8 w8 own8 hg8 hat8 hb8;replace hb8:=qa2 (a:=w) (B:=w.heap.size) gwn hb8 szz;have hb8s:=hb8.size));go_roundw
        case rel => exact ⟨k+1,A8,c8,omg,by go_num,rfl,own8,hb8⟩
        case measure => simp [intOf];omega
      · have hkm:k=m:=omg;subst hkm;clear hcat hz0;go_wp2;go_ret2;exact ⟨C,_,e,rfl,by rw [← hfin.out];exact hown,hbel⟩
/-! ### Turned numbers -/
theorem write_row (A B:Option Addr) (n m c d:Nat) (ts l:List Int) (w:World) (ht:RI w A n ts) (hl:RI w B m l) (hn:n≤maxLen) (hm:m≤maxLen) (h:qg8 ts=true) (hf:qh6 ts l=false) :
    Calls Tryz.prog 205 #[.slice A n c,.slice B m d] w fun e w' => e=.returned (.tuple #[.slice none 0 0,.int .i64 41])∧w=w':=by
  have hright:=qq6 A n c ts w ht hn;have hfits:=vr4 A B n m c d ts l w ht hl hn hm;rw [h] at hright;rw [hf] at hfits;clear h hf;go_enter Tryz.func205,Tryz.ntmps205;go_wp2_with (first | (go_at_call 150;(with_reducible refine (hright).mono ?_);rintro e w' ⟨rfl,rfl⟩) | (go_at_call 216;(with_reducible refine (hfits).mono ?_);rintro e w' ⟨rfl,rfl⟩));go_ret2;exact ⟨rfl,rfl⟩
theorem piece_two (v:Int):piece 2 v=[UInt8.ofNat v.toNat]:=by unfold piece;rw [if_pos rfl]
theorem piece_not {t:Int} (h:t≠2) (v:Int):piece t v=digL 9 (zz v):=by unfold piece;rw [if_neg h]
theorem vk0 (A B:Option Addr) (n m c d:Nat) (ts l:List Int) (w:World) (ht:RI w A n ts) (hl:RI w B m l) (hn:n≤maxLen) (hm:m≤maxLen) (hf:qh6 ts l=true)
    (hb:∀ i,i<l.length→-9223372036854775808≤qa6 l i∧qa6 l i≤9223372036854775807) :
    Calls Tryz.prog 205 #[.slice A n c,.slice B m d] w fun e w' => ∃ A' N c',e=.returned (.tuple #[.slice A' N c',.int .i64 0])∧OB w' w.heap.size 5 A' N c' (rowB ts l ts.length)∧Below w.heap.size w w':=by
  have hright:=qq6 A n c ts w ht hn;have hfits:=vr4 A B n m c d ts l w ht hl hn hm;obtain ⟨f1,f2,f3⟩:=qp6.1 hf;obtain ⟨r1,r2,r3⟩:=qe7.1 f1;rw [hf] at hfits;rw [f1] at hright;have e1:=ht.1;have e2:=hl.1;have hmn:m=n:=omg;subst hmn;have hm8:m≤8:=omg;rw [e1] at f3 r1 ⊢;rw [e2] at hb;clear hf f1 f2 r2 r3 e1 e2;have hrs:∀ k,Hid (rowB ts l (k+1)=rowB ts l k ++ piece (qa6 ts k) (qa6 l k)):=fun k => rfl
  have hr0:Hid (rowB ts l 0=[]):=rfl;generalize rowB ts l=R at *;go_enter Tryz.func205,Tryz.ntmps205;go_wp2_with (first | (go_at_call 150;(with_reducible refine (hright).mono ?_);rintro e w' ⟨rfl,rfl⟩) | (go_at_call 216;(with_reducible refine (hfits).mono ?_);rintro e w' ⟨rfl,rfl⟩));go_loopw [6,20] (fun v i wr => ∃ k N A' c',k≤m∧i=.int .i64 (k:Nat)∧N≤10 * k∧v=.slice A' N c'∧Ow bv wr w.heap.size 5 A' N c' (R k)∧Below w.heap.size w wr) (fun _ i _ => m - (intOf i).toNat)
  case atStart => exact ⟨0,0,none,0,omg,rfl,omg,rfl,by rw [hr0.out];exact Ow.nil _ _ _ _,Below.refl _ _⟩
  case round =>
    obtain ⟨k,N,A1,c1,hk,rfl,hN,rfl,hown,hbel⟩:=hrel;have hbs:=hbel.size
    by_cases hlt:k<m
    · have ht':=ht.below hbel nlr;have hl':=hl.below hbel nlr;obtain ⟨b,o,rfl,_,hc⟩:=ht'.at_ hlt;obtain ⟨b2,o2,rfl,_,hc2⟩:=hl'.at_ hlt;have hk1:=hrs k;have hbk:=hb k hlt
      by_cases h2:qa6 ts k=2
      · have h3:=f3 k hlt h2;rw [h2] at hc;clear hrs hb f3 r1;rcases h3 with h3 | h3
        all_goals
          have hk2:Hid (R k ++ [UInt8.ofNat (qa6 l k).toNat]=R (k+1)):=by
            show _=_
            rw [hk1.out,h2,piece_two]
          rw [h3] at hc2 hk2;clear h3 h2 hk1 hbk
        · go_wp2_with (at_builtin;refine qc7 rfl rfl qd8 qf3 (s:=.tmp 27) (N:=N+1) (L:=R (k+1)) rfl (hown.below (b:=wr.heap.size) gwn szz) rfl (k:=[(0:UInt8)]) (Rd.of_block (l:=[(0:UInt8)]) (qd3 _ _ smp) rfl) rfl (hk2.out) uml omg szz ?_;intro A5 c5 w5 hown5 hg5 hat5 hb5);replace hb5:=qa2 (a:=w) (B:=w.heap.size) gwn hb5 szz;have hb5s:=hb5.size;go_roundw
          case rel => exact ⟨k+1,N+1,A5,c5,omg,by go_num,omg,rfl,hown5,hb5⟩
          case measure => simp [intOf];omega
        · go_wp2_with (at_builtin;refine qc7 rfl rfl qd8 qf3 (s:=.tmp 27) (N:=N+1) (L:=R (k+1)) rfl (hown.below (b:=wr.heap.size) gwn szz) rfl (k:=[(1:UInt8)]) (Rd.of_block (l:=[(1:UInt8)]) (qd3 _ _ smp) rfl) rfl (hk2.out) uml omg szz ?_;intro A5 c5 w5 hown5 hg5 hat5 hb5);replace hb5:=qa2 (a:=w) (B:=w.heap.size) gwn hb5 szz;have hb5s:=hb5.size;go_roundw
          case rel => exact ⟨k+1,N+1,A5,c5,omg,by go_num,omg,rfl,hown5,hb5⟩
          case measure => simp [intOf];omega
      · have b2:(qa6 ts k == 2)=false:=by rw [beq_eq_false_iff_ne];exact h2
        have hkL:Hid (R k ++ digL 9 (zz (qa6 l k))=R (k+1)):=by
          show _=_
          rw [hk1.out,piece_not h2]
        have hz:=fun w => zig_any (qa6 l k) w hbk.1 hbk.2
        have hd:=(ql3 9 (zz (qa6 l k))).1;clear hrs hb f3 r1 h2 hk1 hbk;generalize qa6 ts k=t at *;generalize digL 9 (zz (qa6 l k))=D at *;generalize qa6 l k=v at *;go_wp2_with (first | ((go_at_call 229;(with_reducible refine (hz _).mono ?_);rintro e w4 ⟨A4,c4,rfl,hown4,hb4⟩);have hb4s:=hb4.size;have hbw4:=ql1 hbel hb4 hbs) | (at_builtin;refine qc7 rfl rfl qd8 qf3 (s:=.tmp 35) (N:=N+D.length) (L:=R (k+1)) rfl (hown.below (b:=wr.heap.size) gwn szz) rfl (k:=D) (hown4.rd) (by first | rfl | omega) (by first | exact hkL.out | rfl | (simp;done)) uml omg szz ?_;intro A5 c5 w5 hown5 hg5 hat5 hb5;replace hown5:=hown5.rebase (base':=w.heap.size) szz;replace hb5:=qa2 (a:=w) (B:=w.heap.size) gwn hb5 szz;have hb5s:=hb5.size));go_roundw
        case rel => exact ⟨k+1,N+D.length,A5,c5,omg,by go_num,omg,rfl,hown5,hb5⟩
        case measure => simp [intOf];omega
    · have hkn:k=m:=omg;subst hkn;clear hrs hb f3 r1;go_wp2;go_ret2;exact ⟨A1,N,c1,rfl,hown,hbel⟩
theorem zag_any (A:Option Addr) (n c:Nat) (l:List UInt8) (w:World) (hl:RB w A n l) (hn:n≤maxLen) :
    Calls Tryz.prog 240 #[.slice A n c] w fun e w' => e=.returned (.tuple #[.int .i64 (zagV l),.int .i64 (zagS l:Nat),.int .i64 (zagE l:Nat)])∧w=w':=by
  by_cases h:(qg4 10 0 l).2=0
  · have hz:qg4 10 0 l=((qg4 10 0 l).1,0):=Prod.ext rfl h
    by_cases hb:(qg4 10 0 l).1=10∧1<qa4 l 9
    · have e1:zagE l=11:=by unfold zagE;rw [if_neg omg,if_pos hb]
      have e2:zagS l=0:=by unfold zagS;rw [if_neg omg]
      have e3:zagV l=0:=by unfold zagV;rw [if_neg omg]
      rw [e1,e2,e3];rw [hb.1] at hz;exact zag_big A n c l w hl hn hz hb.2
    · have e1:zagE l=0:=by unfold zagE;rw [if_neg omg,if_neg hb]
      have e2:zagS l=(qg4 10 0 l).1:=by unfold zagS;rw [if_pos e1]
      have e3:zagV l=unzz (sevL (l.take (qg4 10 0 l).1)):=by unfold zagV;rw [if_pos e1]
      rw [e1,e2,e3];exact zag_ok A n c _ l w hl hn hz omg
  · have e1:zagE l=(qg4 10 0 l).2:=by unfold zagE;rw [if_pos h]
    have e2:zagS l=0:=by unfold zagS;rw [if_neg omg]
    have e3:zagV l=0:=by unfold zagV;rw [if_neg omg]
    rw [e1,e2,e3];exact zag_err A n c l w hl hn h
structure RdSt (w0 w:World) (gb go:Nat) (bs:List UInt8) (out:List Int) (i:Nat):Prop where
  below:Below w0.heap.size w0 w
  hb:w0.heap.size≤gb
  ho:w0.heap.size≤go
  bb:∃ A n c,Blk w gb 27 [.slice A n c]∧RB w0 A n (bs.drop i)∧n≤c∧c≤maxLen
  bo:∃ A n c,Blk w go 22 [.slice A n c]∧Ow iv w w0.heap.size 3 A n c out
theorem cut_rb {w:World} {A:Option Addr} {n c k:Nat} {l:List UInt8} (h:RB w A n l) (hk:k≤n) (hc:n≤c):RB w (if c=k then A else A.map (·.add (k * 1))) (n - k) (l.drop k):=by
  refine ⟨by rw [List.length_drop,h.1],?_⟩;have:=h.2.cut hk hc;rw [Nat.mul_one];exact this.congr fun i hi => by unfold qa4;simp [List.getD_eq_getElem?_getD]
theorem read1_int (gb go:Nat) (bs:List UInt8) (out:List Int) (i:Nat) (w0 w:World) (h:RdSt w0 w gb go bs out i) (ho:out.length≤100) :
    Calls Tryz.prog 239 #[.int .i64 1,.pointer (some ⟨gb,0,none⟩),.pointer (some ⟨go,0,none⟩)] w fun e w' => e=.returned (.int .i64 (zagE (bs.drop i):Nat))∧RdSt w0 w' gb go bs (out ++ [zagV (bs.drop i)]) (i+zagS (bs.drop i)):=by
  obtain ⟨hbel,hb,ho2,⟨A,n,c,hblk,hrb,hnc,hcm⟩,A2,n2,c2,hblk2,hown⟩:=h;have hzag:=fun w hl => zag_any A n c (bs.drop i) w hl omg
  have hS:=zagS_le (bs.drop i);have hlen:=hrb.1;rw [hlen] at hS;have hcut:=qq5 (P:=Tryz.prog) qd8 A n c (zagS (bs.drop i)) hS;have hrb2:=cut_rb hrb hS hnc;rw [List.drop_drop] at hrb2;generalize zagS (bs.drop i)=s at *;generalize zagV (bs.drop i)=v at *;generalize (if c=s then A else A.map (·.add (s * 1)))=A' at *;have hrbw:=hrb.below hbel nlr;clear hlen;generalize zagE (bs.drop i)=z at *;have c1:w.cell? ⟨gb,0,none⟩=some (.slice A n c):=hblk.cell 0;have f1:=hblk.frozen 0;have c3:w.cell? ⟨go,0,none⟩=some (.slice A2 n2 c2):=hblk2.cell 0;have f3:=hblk2.frozen 0;have hlt:=hblk.lt;have hlt2:=hblk2.lt;have hbs:=hbel.size;have hn2:n2≤100:=by have:=hown.1;omega
  have hne1:=hown.ne_ hblk dcd;have hne2:=hown.ne_ hblk2 dcd;have hgo:gb≠go:=hblk.ne_ hblk2 dcd;go_enter Tryz.func239,Tryz.ntmps239;go_wp2_with (go_at_call 240;(with_reducible refine (hzag _ hrbw).mono ?_);rintro e w' ⟨rfl,rfl⟩);go_region_law ((refine qg3 rfl rfl qk2 qt6 (s:=.tmp 16) (N:=n2+1) (L:=out ++ [v]) rfl (hown.below (b:=w.heap.size) gwn nlr) rfl (k:=[v]) (Rd.of_block (l:=[v]) (qd3 _ _ smp) rfl) rfl rfl uml omg (by simp;omega) ?_;intro A5 c5 w5 hown5 hg5 hat5 hb5;have k1:Blk w5 gb 27 [.slice A n c]:=Blk.grown blq hg5 hne1;have k2:Blk w5 go 22 [.slice A2 n2 c2]:=Blk.grown blq hg5 hne2;have c15:w5.cell? ⟨gb,0,none⟩=some (.slice A n c):=k1.cell 0;have f15:=k1.frozen 0;have c35:w5.cell? ⟨go,0,none⟩=some (.slice A2 n2 c2):=k2.cell 0;have f35:=k2.frozen 0))
  all_goals
    go_wp2;go_ret;have hb6:Below w0.heap.size w0 w5:=((hbel.alloc omg _).drew).trans hb5;refine ⟨rfl,(hb6.setCell omg _).setCell omg _,hb,ho2,⟨A',n - s,c - s,(k1.far hgo _).set_ 0 _,hrb2,omg,omg⟩,A5,n2+1,c5,(k2.set_ 0 _).far (Ne.symm hgo) _,?_⟩;exact (hown5.setFar k2 dcd 0 _).setFar (k1.far hgo _) dcd 0 _
theorem read1_end (t:Int) (gb go:Nat) (bs:List UInt8) (out:List Int) (i:Nat) (w0 w:World) (h:RdSt w0 w gb go bs out i) (ht:t≠1) (hi:bs.length≤i) :
    Calls Tryz.prog 239 #[.int .i64 t,.pointer (some ⟨gb,0,none⟩),.pointer (some ⟨go,0,none⟩)] w fun e w' => e=.returned (.int .i64 10)∧w=w':=by
  obtain ⟨hbel,hb,ho2,⟨A,n,c,hblk,hrb,hnc,hcm⟩,A2,n2,c2,hblk2,hown⟩:=h;have hn:n=0:=by have:=hrb.1;rw [List.length_drop] at this;omega
  subst hn;have c1:w.cell? ⟨gb,0,none⟩=some (.slice A 0 c):=hblk.cell 0;have b:(t == 1)=false:=by rw [beq_eq_false_iff_ne];exact ht
  clear ht;go_enter Tryz.func239,Tryz.ntmps239;go_wp2;go_ret;exact ⟨rfl,rfl⟩
theorem read1_form (t:Int) (gb go:Nat) (bs:List UInt8) (out:List Int) (i:Nat) (w0 w:World) (h:RdSt w0 w gb go bs out i) (ht:t≠1) (hi:i<bs.length) (hf:1<qa4 bs i) :
    Calls Tryz.prog 239 #[.int .i64 t,.pointer (some ⟨gb,0,none⟩),.pointer (some ⟨go,0,none⟩)] w fun e w' => e=.returned (.int .i64 11)∧w=w':=by
  obtain ⟨hbel,hb,ho2,⟨A,n,c,hblk,hrb,hnc,hcm⟩,A2,n2,c2,hblk2,hown⟩:=h;have hn:0<n:=by have:=hrb.1;rw [List.length_drop] at this;omega
  have c1:w.cell? ⟨gb,0,none⟩=some (.slice A n c):=hblk.cell 0;have b:(t == 1)=false:=by rw [beq_eq_false_iff_ne];exact ht
  have hrb':=hrb.below hbel nlr;obtain ⟨b2,o2,rfl,_,hc2⟩:=hrb'.at_ hn;have e1:qa4 (bs.drop i) 0=qa4 bs i:=by unfold qa4;simp [List.getD_eq_getElem?_getD]
  rw [e1,Nat.add_zero] at hc2;have e2:(((qa4 bs i:Nat):Int) == 0 || ((qa4 bs i:Nat):Int) == 1)=false:=by
    rw [Bool.or_eq_false_iff,beq_eq_false_iff_ne,beq_eq_false_iff_ne];omega
  have hb256:=qk5 bs i;clear e1 ht hf hrb';have hnb:(((n:Nat):Int) == 0)=false:=by rw [beq_eq_false_iff_ne];omega
  have ht2:=fun w => ve2 ((qa4 bs i:Nat):Int) w
  rw [e2] at ht2;clear e2;generalize qa4 bs i=y at *;unfold maxLen at hcm;go_enter Tryz.func239,Tryz.ntmps239;go_wp2_with (go_at_call 241;(with_reducible refine (ht2 _).mono ?_);rintro e w' ⟨rfl,rfl⟩);go_ret;exact ⟨rfl,rfl⟩
theorem read1_bool (t:Int) (gb go:Nat) (bs:List UInt8) (out:List Int) (i:Nat) (w0 w:World) (h:RdSt w0 w gb go bs out i) (ho:out.length≤100) (ht:t≠1) (hi:i<bs.length) (hf:qa4 bs i≤1) :
    Calls Tryz.prog 239 #[.int .i64 t,.pointer (some ⟨gb,0,none⟩),.pointer (some ⟨go,0,none⟩)] w fun e w' => e=.returned (.int .i64 0)∧RdSt w0 w' gb go bs (out ++ [(qa4 bs i:Int)]) (i+1):=by
  obtain ⟨hbel,hb,ho2,⟨A,n,c,hblk,hrb,hnc,hcm⟩,A2,n2,c2,hblk2,hown⟩:=h;have hn:0<n:=by have:=hrb.1;rw [List.length_drop] at this;omega
  have hrb2:=cut_rb hrb (k:=1) hn hnc;rw [List.drop_drop] at hrb2;have b:(t == 1)=false:=by rw [beq_eq_false_iff_ne];exact ht
  have hrb':=hrb.below hbel nlr;obtain ⟨b2,o2,hA,hb2,hc2⟩:=hrb'.at_ hn;have e1:qa4 (bs.drop i) 0=qa4 bs i:=by unfold qa4;simp [List.getD_eq_getElem?_getD]
  rw [e1,Nat.add_zero] at hc2;have e2:(((qa4 bs i:Nat):Int) == 0 || ((qa4 bs i:Nat):Int) == 1)=true:=by
    rw [Bool.or_eq_true,beq_iff_eq,beq_iff_eq];omega
  have hb256:=qk5 bs i;have hcut:∀ W,(Instr.slice 27 (.slice A n c) (some (.int .i64 1)) none none).run Tryz.prog W=.ok (.slice (if c=1 then A else A.map (·.add (1 * 1))) (n - 1) (c - 1)) W:=fun W => qq5 (P:=Tryz.prog) qd8 A n c 1 hn W
  generalize (if c=1 then A else A.map (·.add (1 * 1)))=A' at *;subst hA;clear e1 ht hf hrb';have hnb:(((n:Nat):Int) == 0)=false:=by rw [beq_eq_false_iff_ne];omega
  have ht2:=fun w => ve2 ((qa4 bs i:Nat):Int) w
  rw [e2] at ht2;clear e2;generalize qa4 bs i=y at *;have c1:w.cell? ⟨gb,0,none⟩=some (.slice (some ⟨b2,o2,none⟩) n c):=hblk.cell 0;have f1:=hblk.frozen 0;have c3:w.cell? ⟨go,0,none⟩=some (.slice A2 n2 c2):=hblk2.cell 0;have f3:=hblk2.frozen 0;have hlt:=hblk.lt;have hlt2:=hblk2.lt;have hbs:=hbel.size;have hn2:n2≤100:=by have:=hown.1;omega
  have hne1:=hown.ne_ hblk dcd;have hne2:=hown.ne_ hblk2 dcd;have hgo:gb≠go:=hblk.ne_ hblk2 dcd;have hi0:(0:Int)<(n:Int):=omg;have hi1:(1:Int)≤(n:Int):=omg;have hw:IntKind.i64.wrap ((y:Nat):Int)=(y:Int):=by rw [IntKind.wrap_i64];omega
  unfold maxLen at hcm;go_enter Tryz.func239,Tryz.ntmps239;go_wp2_with (go_at_call 241;(with_reducible refine (ht2 _).mono ?_);rintro e w' ⟨rfl,rfl⟩);go_region_law ((refine qg3 rfl rfl qk2 qt6 (s:=.tmp 35) (N:=n2+1) (L:=out ++ [((y:Nat):Int)]) rfl (hown.below (b:=w.heap.size) gwn nlr) rfl (k:=[((y:Nat):Int)]) (Rd.of_block (l:=[((y:Nat):Int)]) (qd3 _ _ smp) rfl) rfl rfl uml omg (by simp;omega) ?_;intro A5 c5 w5 hown5 hg5 hat5 hb5;have k1:Blk w5 gb 27 [.slice (some ⟨b2,o2,none⟩) n c]:=Blk.grown blq hg5 hne1;have k2:Blk w5 go 22 [.slice A2 n2 c2]:=Blk.grown blq hg5 hne2;have c15:w5.cell? ⟨gb,0,none⟩=some (.slice (some ⟨b2,o2,none⟩) n c):=k1.cell 0;have f15:=k1.frozen 0;have c35:w5.cell? ⟨go,0,none⟩=some (.slice A2 n2 c2):=k2.cell 0;have f35:=k2.frozen 0))
  all_goals
    go_wp2;go_ret;have hb6:Below w0.heap.size w0 w5:=((hbel.alloc omg _).drew).trans hb5;refine ⟨rfl,(hb6.setCell omg _).setCell omg _,hb,ho2,⟨A',n - 1,c - 1,(k1.far hgo _).set_ 0 _,hrb2,omg,by unfold maxLen;omega⟩,A5,n2+1,c5,(k2.set_ 0 _).far (Ne.symm hgo) _,?_⟩;exact (hown5.setFar k2 dcd 0 _).setFar (k1.far hgo _) dcd 0 _
structure NumSt (w0 w:World) (gb:Nat) (bs:List UInt8) (i:Nat):Prop where
  below:Below w0.heap.size w0 w
  hb:w0.heap.size≤gb
  bb:∃ A n c,Blk w gb 27 [.slice A n c]∧RB w0 A n (bs.drop i)∧n≤c∧c≤maxLen
def qx8 (bs:List UInt8) (i:Nat):Int:=sg (getL ((bs.drop i).take 8))
theorem vr0 (gb:Nat) (bs:List UInt8) (i:Nat) (w0 w:World) (h:NumSt w0 w gb bs i) (hi:i+8≤bs.length) :
    Calls Tryz.prog 284 #[.pointer (some ⟨gb,0,none⟩)] w fun e w' => e=.returned (.int .i64 (qx8 bs i))∧NumSt w0 w' gb bs (i+8)∧w.grownBy w' (some gb):=by
  obtain ⟨hbel,hb,A,n,c,hblk,hrb,hnc,hcm⟩:=h;have hn:8≤n:=by have:=hrb.1;rw [List.length_drop] at this;omega
  have hcut8:∀ W,(Instr.slice 27 (.slice A n c) none (some (.int .i64 8)) none).run Tryz.prog W=.ok (.slice A 8 c) W:=fun W => vb2 (P:=Tryz.prog) qd8 A n c 8 omg W
  have hcutr:∀ W,(Instr.slice 27 (.slice A n c) (some (.int .i64 8)) none none).run Tryz.prog W=.ok (.slice (if c=8 then A else A.map (·.add (8 * 1))) (n - 8) (c - 8)) W:=fun W => qq5 (P:=Tryz.prog) qd8 A n c 8 hn W
  have hrb2:=cut_rb hrb (k:=8) hn hnc;rw [List.drop_drop] at hrb2;generalize (if c=8 then A else A.map (·.add (8 * 1)))=A' at *;have hget:=fun w hl => vr1 A c ((bs.drop i).take 8) w hl
  have hr8:=(hrb.below hbel nlr).less hn;have hnum:Hid (sg (getL ((bs.drop i).take 8))=qx8 bs i):=rfl;rw [hnum.out] at hget;generalize qx8 bs i=v at *;have c1:w.cell? ⟨gb,0,none⟩=some (.slice A n c):=hblk.cell 0;have f1:=hblk.frozen 0;clear hnum;go_enter Tryz.func284,Tryz.ntmps284;go_wp2_with (go_at_call 237;(with_reducible refine (hget _ hr8).mono ?_);rintro e w' ⟨rfl,rfl⟩);go_ret;exact ⟨rfl,⟨hbel.setCell hb _,hb,A',n - 8,c - 8,hblk.set_ 0 _,hrb2,omg,omg⟩,qb5 _⟩
theorem numbers_any (A:Option Addr) (n c:Nat) (bs:List UInt8) (w:World) (hl:RB w A n bs) (hnc:n≤c) (hcm:c≤maxLen) :
    Calls Tryz.prog 232 #[.slice A n c] w fun e w' => e=.returned (.func (.func 284) #[] #[.pointer (some ⟨w.heap.size,0,none⟩)])∧NumSt w w' w.heap.size bs 0∧w'.heap.size=w.heap.size+1:=by
  go_enter Tryz.func232,Tryz.ntmps232;go_wp2;go_ret;exact ⟨rfl,⟨gwn,Nat.le_refl _,A,n,c,blq,by simpa using hl,hnc,hcm⟩,by simp⟩
end Go.Proofs.YtmeebofhlilcmaaGreat
