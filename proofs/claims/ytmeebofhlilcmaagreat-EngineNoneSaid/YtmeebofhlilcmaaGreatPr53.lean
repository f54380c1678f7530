/- Parts: KeepP, KeepM, EngU, EngS. -/
import Derived.Test.YtmeebofhlilcmaaGreatPr22
import Derived.Test.YtmeebofhlilcmaaGreatPr38
import Derived.Test.YtmeebofhlilcmaaGreatPr37
import Derived.Test.YtmeebofhlilcmaaGreatPr25
import Derived.Test.YtmeebofhlilcmaaGreatPr02
import Derived.Test.YtmeebofhlilcmaaGreatPr52
import Derived.Test.YtmeebofhlilcmaaGreatPr05
import Derived.Test.YtmeebofhlilcmaaGreatPr48
set_option linter.unusedVariables false
set_option linter.unusedSimpArgs false
set_option maxRecDepth 100000
set_option maxHeartbeats 40000000
namespace Go.Proofs.YtmeebofhlilcmaaGreat
open Go.RowKit
def qe3:PV:=⟨[1],[1],2,[(1,0)],[⟨28,0,0,0,0⟩,⟨21,1,0,0,0⟩,⟨32,0,0,0,0⟩,⟨29,1,0,0,0⟩]⟩
theorem qy3:qf0 qe3=true:=by decide +kernel
theorem vi9:qk7 qe3:=⟨by decide +kernel,by decide +kernel⟩
def ProgNew (w:World) (P:PV) (e:Ending) (w':World):Prop:=∃ x:PA,e=.returned (.agg #[.slice x.A1 x.n1 x.c1,.slice x.A2 x.n2 x.c2,.int .i64 P.regs,.slice x.A3 x.n3 x.c3,.slice x.A4 x.n4 x.c4])∧(∀ base,qk8 w' base x P)∧Below w.heap.size w w'
theorem delay_at {W:World} {g1 g2 g3 g4:Nat} (b1:Blk W g1 3 [.int .i64 1]) (b2:Blk W g2 3 [.int .i64 1]) (b3:Blk W g3 187 [.int .i64 1,.int .i64 0])
    (b4:Blk W g4 144 [.int .i64 28,.int .i64 0,.int .i64 0,.int .i64 0,.int .i64 0,.int .i64 21,.int .i64 1,.int .i64 0,.int .i64 0,.int .i64 0,.int .i64 32,.int .i64 0,.int .i64 0,.int .i64 0,.int .i64 0,.int .i64 29,.int .i64 1,.int .i64 0,.int .i64 0,.int .i64 0]) (base:Nat) :
    qk8 W base ⟨some ⟨g1,0,none⟩,1,1,some ⟨g2,0,none⟩,1,1,some ⟨g3,0,none⟩,1,1,some ⟨g4,0,none⟩,4,4⟩ qe3:=by
  have mx:∀ n:Nat,n≤4→n≤n∧n≤maxLen:=fun n hn => ⟨Nat.le_refl _,by unfold maxLen;omega⟩
  refine ⟨⟨(Rd.of_block (enc:=iv) (l:=[1]) b1 rfl).ri,(Rd.of_block (enc:=iv) (l:=[1]) b2 rfl).ri,RdS.of_block b3 qt7 (l:=[(1,0)]) rfl,RdS.of_block b4 vf4 (l:=[⟨28,0,0,0,0⟩,⟨21,1,0,0,0⟩,⟨32,0,0,0,0⟩,⟨29,1,0,0,0⟩]) rfl,mx 1 omg,mx 1 omg,mx 1 omg,mx 4 omg⟩,fun _ g hg => ?_,fun _ g hg => ?_,fun _ g hg => ?_,fun _ g hg => ?_⟩
  · simp only [Option.map_some,Option.some.injEq] at hg;subst hg;exact .inr ⟨_,b1⟩
  · simp only [Option.map_some,Option.some.injEq] at hg;subst hg;exact .inr ⟨_,b2⟩
  · simp only [Option.map_some,Option.some.injEq] at hg;subst hg;exact .inr ⟨_,b3⟩
  · simp only [Option.map_some,Option.some.injEq] at hg;subst hg;exact .inr ⟨_,b4⟩
theorem va4 (w:World):Calls Tryz.prog 26 #[] w (ProgNew w qe3):=by
  go_enter Tryz.func26,Tryz.ntmps26;go_wp2;refine bodyPost_ret (v:=.agg #[.slice (some ⟨w.heap.size+1,0,none⟩) 1 1,.slice (some ⟨w.heap.size+1+1,0,none⟩) 1 1,.int .i64 2,.slice (some ⟨w.heap.size+1+1+1,0,none⟩) 1 1,.slice (some ⟨w.heap.size+1+1+1+1,0,none⟩) 4 4]) (by simp [results,Tryz.results26,go_sem]) rfl ?_;refine ⟨_,rfl,fun base => delay_at (g1:=w.heap.size+1) (g2:=w.heap.size+1+1) (g3:=w.heap.size+1+1+1) (g4:=w.heap.size+1+1+1+1) ?_ ?_ ?_ ?_ base,gwn⟩
  · exact (((Blk.top _ smp rfl).alloc _).alloc _).alloc _
  · exact ((Blk.top _ smp rfl).alloc _).alloc _
  · exact (Blk.top _ smp rfl).alloc _
  · exact Blk.top _ smp rfl
section
variable {w w':World} {base g m c many k tick:Nat} {q:qb9} {p:PV} {pace rep ran:Int} {rows all:List (List Int)} {x:PA}
theorem vs5 (V:Env p m pace many) (h:StOn w base q g p m c pace many true rows tick rep) (B:Option Addr) (n d:Nat) (l:List Int) (hl:RI w B n l) (hn:n≤maxLen) (hi:qz3 l) (hf:qh6 p.ins l=true) (hlt:rows.length<m) :
    Calls Tryz.prog 31 #[.pointer (some ⟨g,0,none⟩),.slice B n d] w fun e' w' => e'=.returned (.tuple #[.int .i64 (rows.length:Nat),.int .i64 0])∧StOn w' base q g p m c pace many true (rows ++ [l]) tick rep∧Step mutE base q w w' :=
  (t_submit V h B n d l hl hn hi).mono fun e' w' ⟨s,v,z,h1,h2⟩ => by
    rcases h2 with ⟨_,_,x,_⟩ | ⟨_,_,_,x,_⟩ | ⟨rfl,rfl,_,_,x⟩ | ⟨_,_,_,_,x,_⟩
    · rw [hf] at x;cases x
    · omega
    · exact ⟨h1,x,s⟩
    · cases x
theorem c_run (V:Env p m pace many) (h:StOn w base q g p m c pace many true rows tick rep) (most:Int) (hmo:0≤most) (hcb:c<7000000000000000000) (n:Nat) (hn:min most ((rows.length:Int) - tick)=(n:Int)) :
    Calls Tryz.prog 33 #[.pointer (some ⟨g,0,none⟩),.int .i64 most] w fun e' w' => e'=.returned (.tuple #[.int .i64 (n:Nat),.int .i64 0])∧StOn w' base q g p m (c+2000) pace many true rows (tick+n) rep∧Step mutE base q w w' :=
  (t_run V h most hmo hcb).mono fun e' w' ⟨s,v,z,h1,h2⟩ => by
    rcases h2 with ⟨rfl,x1,x2⟩ | ⟨_,_,_,x,_⟩
    · have e:v=(n:Int):=x1.trans hn;subst e;exact ⟨h1,by simpa using x2,s⟩
    · cases x
theorem c_open (V:Env p m pace many) (h:qx0 w base q p m c pace many true k all ran) (hx:qk8 w base x p) (hcb:c<7000000000000000000) (hk:k=all.length) :
    Calls Tryz.prog 25 #[.pointer (some ⟨q.d,0,none⟩),.agg #[.slice x.A1 x.n1 x.c1,.slice x.A2 x.n2 x.c2,.int .i64 p.regs,.slice x.A3 x.n3 x.c3,.slice x.A4 x.n4 x.c4],.int .i64 pace] w fun e' w' =>
      ∃ g rep,e'=.returned (.tuple #[.pointer (some ⟨g,0,none⟩),.int .i64 0])∧StOn w' base q g p m (c+2000) pace many true all all.length rep∧Step mutE base q w w' :=
  (t_open V h hx hcb).mono fun e' w' ⟨s,g,z,h1,h2⟩ => by
    rcases h2 with ⟨rfl,nx,rep,x1,x2,x3,x4,x5⟩ | ⟨_,x,_⟩
    · have e:nx=all.length:=omg;subst e;rw [List.take_length] at x5;exact ⟨g,rep,h1,x5,s⟩
    · cases x
theorem vs6 (V:Env p m pace many) {D:qa1} {N:Secs} (hd:qa5 w base q D) (hr:Rest D N) (hm:D.many=many) (hc:D.cut=-1) (hs:base≤w.heap.size) (hx:qg2 w x p) :
    Calls Tryz.prog 27 #[.pointer (some ⟨q.d,0,none⟩),.agg #[.slice x.A1 x.n1 x.c1,.slice x.A2 x.n2 x.c2,.int .i64 p.regs,.slice x.A3 x.n3 x.c3,.slice x.A4 x.n4 x.c4]] w fun e' w' => e'=.returned (.int .i64 0)∧qx0 w' base q p m 0 pace many true 0 [] 0∧Step mutE base q w w' :=
  (t_format V hd hr hm hs hx).mono fun e' w' ⟨s,z,h1,h2⟩ => by
    rcases h2 with ⟨rfl,x⟩ | ⟨_,x,_⟩
    · rw [decide_eq_true hc] at x;exact ⟨h1,x,s⟩
    · exact absurd hc x
end
theorem vl4 {many m:Nat} {pace:Int} (h1:13≤many) (h2:many≤2059) (hm:m=(many - 11) / 2) (p1:1≤pace) (p2:pace≤1024):Env qe3 m pace many:=Env.of qy3 vi9 h1 h2 hm p1 p2
theorem statf1 (a b c d e f:Int) (w:World):(Instr.field 54 (.agg #[.int .i64 a,.int .i64 b,.int .i64 c,.int .i64 d,.int .i64 e,.int .i64 f]) 1).run Tryz.prog w=.ok (.int .i64 b) w:=by kernel_rfl
def qw1:List (List Int):=[[5],[6],[7]]
theorem vm0 (w:World):Calls Tryz.prog 24 #[] w fun e w' => e=.returned (.bool true)∧Below w.heap.size w w':=by
  have V:Env qe3 10 2 31:=vl4 omg omg rfl omg omg;have hnew:∀ w,Calls Tryz.prog 28 #[.int .i64 31,.int .i64 31] w fun e' w' => ∃ q,e'=.returned (.tuple #[.pointer (some ⟨q.d,0,none⟩),.int .i64 0])∧qa5 w' w.heap.size q (newV 31 31)∧Below w.heap.size w w':=fun w => t_new (many:=31) w omg omg
  have hrn:=vq4 (many:=31) omg omg;have hmn:(newV 31 31).many=31:=rfl;have hcn:(newV 31 31).cut=-1:=rfl;have f5:qh6 qe3.ins [5]=true:=by decide +kernel
  have f6:qh6 qe3.ins [6]=true:=by decide +kernel
  have f7:qh6 qe3.ins [7]=true:=by decide +kernel
  have g2:qo4 qe3 qw1 2=[6]:=by decide +kernel
  have ik:∀ z:Int,0≤z→z≤10→qz3 [z]:=fun z h0 h1 i hi => by
    have:i=0:=by simpa using hi
    subst this
    show -9223372036854775808≤z∧z≤9223372036854775807
    omega
  have cD:=fun (W:World) => va4 W
  have cF:=fun {W:World} {base:Nat} {q:qb9} {x:PA} (hd:qa5 W base q (newV 31 31)) (hs:base≤W.heap.size) (hx:qg2 W x qe3) => vs6 V hd hrn hmn hcn hs hx
  have cO1:=fun {W:World} {base:Nat} {q:qb9} {x:PA} (h:qx0 W base q qe3 10 0 2 31 true 0 [] 0) (hx:qk8 W base x qe3) => c_open V h hx omg rfl
  have cS:∀ {W:World} {base g gb:Nat} {q:qb9} {rep:Int} {k:Nat},k<3→StOn W base q g qe3 10 2000 2 31 true (qw1.take k) 0 rep→RI W (some ⟨gb,0,none⟩) 1 [(k:Int)+5] →
      Calls Tryz.prog 31 #[.pointer (some ⟨g,0,none⟩),.slice (some ⟨gb,0,none⟩) 1 1] W fun e' w' => e'=.returned (.tuple #[.int .i64 (k:Nat),.int .i64 0])∧StOn w' base q g qe3 10 2000 2 31 true (qw1.take (k+1)) 0 rep∧Step mutE base q W w':=by
    intro W base g gb q rep k hk h hl;have hc:k=0∨k=1∨k=2:=omg;rcases hc with rfl | rfl | rfl
    · exact vs5 V h _ 1 1 [5] hl dcd (ik 5 omg omg) f5 dcd
    · exact vs5 V h _ 1 1 [6] hl dcd (ik 6 omg omg) f6 dcd
    · exact vs5 V h _ 1 1 [7] hl dcd (ik 7 omg omg) f7 dcd
  have cR:=fun {W:World} {base g:Nat} {q:qb9} {rep:Int} (h:StOn W base q g qe3 10 2000 2 31 true (qw1.take 3) 0 rep) =>
    (show Calls Tryz.prog 33 #[.pointer (some ⟨g,0,none⟩),.int .i64 1] W fun e' w' => e'=.returned (.tuple #[.int .i64 1,.int .i64 0])∧StOn w' base q g qe3 10 4000 2 31 true qw1 1 rep∧Step mutE base q W w' from c_run V h 1 omg omg 1 dcd)
  have cC:=fun {W:World} {base g:Nat} {q:qb9} {rep:Int} (h:StOn W base q g qe3 10 4000 2 31 true qw1 1 rep) =>
    (show Calls Tryz.prog 43 #[.pointer (some ⟨q.d,0,none⟩),.slice none 0 0] W fun e' w' => e'=.returned (.tuple #[])∧qx0 w' base q qe3 10 4000 2 31 true 3 qw1 1∧Step mutE base q W w' from t_crash h.may none 0 0 [] ⟨rfl,Row.nil _ _ _⟩ (fun h => absurd h omg) omg)
  have cO2:=fun {W:World} {base:Nat} {q:qb9} {x:PA} (h:qx0 W base q qe3 10 4000 2 31 true 3 qw1 1) (hx:qk8 W base x qe3) => (show Calls Tryz.prog 25 #[.pointer (some ⟨q.d,0,none⟩),.agg #[.slice x.A1 x.n1 x.c1,.slice x.A2 x.n2 x.c2,.int .i64 qe3.regs,.slice x.A3 x.n3 x.c3,.slice x.A4 x.n4 x.c4],.int .i64 2] W fun e' w' =>
      ∃ g rep,e'=.returned (.tuple #[.pointer (some ⟨g,0,none⟩),.int .i64 0])∧StOn w' base q g qe3 10 6000 2 31 true qw1 3 rep∧Step mutE base q W w' from c_open V h hx omg rfl)
  have cT:=fun {W:World} {base g:Nat} {q:qb9} {rep:Int} (h:StOn W base q g qe3 10 6000 2 31 true qw1 3 rep) =>
    (show Calls Tryz.prog 98 #[.pointer (some ⟨g,0,none⟩),.int .i64 2] W fun e' w' => ∃ B k d,e'=.returned (.tuple #[.slice B k d,.int .i64 0])∧Ow iv w' W.heap.size 3 B k d [6]∧StOn w' base q g qe3 10 6000 2 31 true qw1 3 rep∧Step mutE base q W w' from by
      have:=t_output V h 2 omg;rw [g2] at this;exact this)
  have cA:=fun {W:World} {base g:Nat} {q:qb9} {rep:Int} (h:StOn W base q g qe3 10 6000 2 31 true qw1 3 rep) =>
    (show Calls Tryz.prog 29 #[.pointer (some ⟨g,0,none⟩)] W fun e' w' => ∃ pa sv,e'=.returned (.agg #[.int .i64 3,.int .i64 3,.int .i64 3,.int .i64 pa,.int .i64 rep,.int .i64 sv])∧Below W.heap.size W w' from
      (t_stat h).mono fun e' w' ⟨pa,sv,h1,_,_,_,_,_,h2⟩ => ⟨pa,sv,h1,h2⟩)
  have hfd:=fun pa rep sv w => statf1 3 3 3 pa rep sv w
  clear V hrn hmn hcn f5 f6 f7 g2 ik;generalize newV 31 31=D0 at *;generalize qw1=L at *;generalize qe3=P at *;go_enter Tryz.func24,Tryz.ntmps24;go_wp2_with (first | ((go_at_call 28;(with_reducible refine (hnew _).mono ?_);rintro e w1 ⟨q,rfl,d1,b1⟩);have D1:=hdd d1;have B1:=hdd b1;have S1:=b1.size;clear d1 b1) | ((go_at_call 26;(with_reducible refine (cD _).mono ?_);rintro e w2 ⟨x2,rfl,px2,bx2⟩);have D2:=hdd (D1.out.below bx2);have B2:=hdd (B1.out.trans (bx2.mono B1.out.size));have P2:=hdd (px2 0).rd;have S2:=B2.out.size;clear px2 bx2 D1) | ((go_at_call 27;(with_reducible refine (cF D2.out S2 P2.out).mono ?_);rintro e w3 ⟨rfl,r3,s3⟩);have R3:=hdd r3;have B3:=hdd (B2.out.trans s3.bel);clear r3 s3 D2) | ((go_at_call 26;(with_reducible refine (cD _).mono ?_);rintro e w4 ⟨x4,rfl,px4,bx4⟩);have R4:=hdd (R3.out.below bx4);have B4:=hdd (B3.out.trans (bx4.mono B3.out.size));have P4:=hdd (px4 w.heap.size);clear px4 bx4 R3) | ((go_at_call 25;(with_reducible refine (cO1 R4.out P4.out).mono ?_);rintro e w5 ⟨g5,rep5,rfl,o5,s5⟩);have O5:=hdd o5;have B5:=hdd (B4.out.trans s5.bel);clear o5 s5 R4) | fail "no arm");go_loopw [28] (fun i wr => ∃ k:Nat,k≤3∧i=.int .i64 (k:Nat)∧Hid (StOn wr w.heap.size q g5 P 10 2000 2 31 true (L.take k) 0 rep5)∧Hid (Below w.heap.size w wr)) (fun i _ => 3 - (intOf i).toNat)
  case atStart => exact ⟨0,omg,rfl,O5.out,B5.out⟩
  case round =>
    obtain ⟨k,hk,rfl,hO,hB⟩:=hrel;have hs:=hB.out.size;clear O5 B5
    by_cases hlt:k<3
    · go_wp2_with (first | ((go_at_call 31;(with_reducible refine (cS hlt (hO.out.below gwn) (Rd.of_block (enc:=iv) (l:=[(k:Int)+5]) (qd3 _ _ smp) rfl).ri).mono ?_);rintro e w6 ⟨rfl,o6,s6⟩);have O6:=hdd o6;have B6:=hdd (hB.out.trans ((show Below wr.heap.size wr _ from gwn).mono hs |>.trans s6.bel));clear o6 s6) | fail "no arm");go_roundw
      case rel => first
        | exact ⟨k+1,omg,by go_num,O6.out,B6.out⟩
        | ((repeat apply Exists.intro);exact ⟨⟨k+1,omg,by go_num,O6.out,B6.out⟩,rfl⟩)
      case measure => simp [intOf];omega
    · have hk3:k=3:=omg;subst hk3;have O8:=hdd hO.out;have B8:=hdd hB.out;clear hO hB;go_upto_region 15 with (first | ((go_at_call 33;(with_reducible refine (cR O8.out).mono ?_);rintro e w9 ⟨rfl,o9,s9⟩);have O9:=hdd o9;have B9:=hdd (B8.out.trans s9.bel);clear o9 s9 O8) | ((go_at_call 43;(with_reducible refine (cC O9.out).mono ?_);rintro e w10 ⟨rfl,o10,s10⟩);have R10:=hdd o10;have B10:=hdd (B9.out.trans s10.bel);clear o10 s10 O9) | ((go_at_call 26;(with_reducible refine (cD _).mono ?_);rintro e w11 ⟨x11,rfl,px11,bx11⟩);have R11:=hdd (R10.out.below bx11);have B11:=hdd (B10.out.trans (bx11.mono B10.out.size));have P11:=hdd (px11 w.heap.size);clear px11 bx11 R10) | ((go_at_call 25;(with_reducible refine (cO2 R11.out P11.out).mono ?_);rintro e w12 ⟨g12,rep12,rfl,o12,s12⟩);have O12:=hdd o12;have B12:=hdd (B11.out.trans s12.bel);clear o12 s12 R11) | ((go_at_call 98;(with_reducible refine (cT O12.out).mono ?_);rintro e w13 ⟨A13,n13,c13,rfl,w13',o13,s13⟩);have O13:=hdd o13;have B13:=hdd (B12.out.trans s13.bel);have W13:=hdd w13';clear o13 s13 w13' O12) | fail "no arm");have hcp:=W13.out.cap;have hI:=fun (W:World) (g:Nat) (h1:RI W A13 n13 [6]) (h2:RI W (some ⟨g,0,none⟩) 1 [6]) => (show Calls Tryz.prog 95 #[.slice A13 n13 c13,.slice (some ⟨g,0,none⟩) 1 1] W fun e w' => e=.returned (.bool true)∧∃ q,w'=W.drewN q from by
        have:=ints_any A13 (some ⟨g,0,none⟩) n13 1 c13 1 [6] [6] W h1 h2 omg;rw [decide_eq_true (rfl:([6]:List Int)=[6])] at this;exact this)
      go_wp2_with (first | ((go_at_call 29;(with_reducible refine (cA O13.out).mono ?_);rintro e w14 ⟨pa,sv,rfl,b14⟩);have B14:=hdd (B13.out.trans (b14.mono B13.out.size));have W14:=hdd (W13.out.below b14 nlr);clear b14) | ((go_at_call 95;(with_reducible refine (hI _ _ (W14.out.below (b:=w14.heap.size) gwn nlr).rd.ri (Rd.of_block (enc:=iv) (l:=[6]) (qd3 _ _ smp) rfl).ri).mono ?_);rintro e w15 ⟨rfl,q15,rfl⟩)) | fail "no arm");go_ret;exact ⟨rfl,B14.out.trans ((show Below w14.heap.size w14 _ from gwn).mono B14.out.size)⟩
section
variable {w w':World} {base m:Nat} {q:qb9} {D:qa1} {p:PV} {x:PA} {pace z:Int} {d:Option Addr}
theorem vo4 (hz:z≠0) (hmay:∀ W,Below w.heap.size w W→Calls Tryz.prog 99 #[.pointer d,.agg #[.slice x.A1 x.n1 x.c1,.slice x.A2 x.n2 x.c2,.int .i64 p.regs,.slice x.A3 x.n3 x.c3,.slice x.A4 x.n4 x.c4]] W fun e' w' => e'=.returned (.tuple #[.agg #[.int .i64 0,.int .i64 0,.int .i64 0,.int .i64 0,.int .i64 0,.int .i64 0,.int .i64 0,.int .i64 0,.int .i64 0,.int .i64 0],.int .i64 0,.int .i64 z])∧Below W.heap.size W w') :
    Calls Tryz.prog 27 #[.pointer d,.agg #[.slice x.A1 x.n1 x.c1,.slice x.A2 x.n2 x.c2,.int .i64 p.regs,.slice x.A3 x.n3 x.c3,.slice x.A4 x.n4 x.c4]] w fun e' w' => e'=.returned (.int .i64 z)∧Below w.heap.size w w':=by
  have hb0:Below w.heap.size w (w.alloc (.cells #[.slice x.A1 x.n1 x.c1,.slice x.A2 x.n2 x.c2,.int .i64 p.regs,.slice x.A3 x.n3 x.c3,.slice x.A4 x.n4 x.c4] 26)):=(Below.refl _ _).alloc nlr _;have hm:=hmay _ hb0;have dz:decide (z≠0)=true:=decide_eq_true hz;have dz2:(z != 0)=true:=by rw [bne_iff_ne];exact hz
  clear hmay hz;go_enter Tryz.func27,Tryz.ntmps27;go_wp2_with (first | ((go_at_call 99;(with_reducible refine (hm).mono ?_);rintro e w2 ⟨rfl,hb2⟩);have B2:=hb0.trans (hb2.mono smp);have s2:=B2.size) | fail "no arm");go_ret;exact ⟨rfl,(B2.alloc s2 _).alloc (by simp;omega) _⟩
theorem open_err (hz:z≠0) (hmay:∀ W,Below w.heap.size w W→Calls Tryz.prog 99 #[.pointer d,.agg #[.slice x.A1 x.n1 x.c1,.slice x.A2 x.n2 x.c2,.int .i64 p.regs,.slice x.A3 x.n3 x.c3,.slice x.A4 x.n4 x.c4]] W fun e' w' => e'=.returned (.tuple #[.agg #[.int .i64 0,.int .i64 0,.int .i64 0,.int .i64 0,.int .i64 0,.int .i64 0,.int .i64 0,.int .i64 0,.int .i64 0,.int .i64 0],.int .i64 0,.int .i64 z])∧Below W.heap.size W w') :
    Calls Tryz.prog 25 #[.pointer d,.agg #[.slice x.A1 x.n1 x.c1,.slice x.A2 x.n2 x.c2,.int .i64 p.regs,.slice x.A3 x.n3 x.c3,.slice x.A4 x.n4 x.c4],.int .i64 pace] w fun e' w' => e'=.returned (.tuple #[.pointer none,.int .i64 z])∧Below w.heap.size w w':=by
  have hb00:Below w.heap.size w (w.alloc (.cells #[.pointer d] 50)):=(Below.refl _ _).alloc nlr _;have hb0:Below w.heap.size w ((w.alloc (.cells #[.pointer d] 50)).alloc (.cells #[.slice x.A1 x.n1 x.c1,.slice x.A2 x.n2 x.c2,.int .i64 p.regs,.slice x.A3 x.n3 x.c3,.slice x.A4 x.n4 x.c4] 26)):=hb00.alloc smp _;have hm:=hmay _ hb0;have dz:decide (z≠0)=true:=decide_eq_true hz;have dz2:(z != 0)=true:=by rw [bne_iff_ne];exact hz
  clear hmay hz;go_enter Tryz.func25,Tryz.ntmps25;go_wp2_with (first | ((go_at_call 99;(with_reducible refine (hm).mono ?_);rintro e w2 ⟨rfl,hb2⟩);have B2:=hb0.trans (hb2.mono (by simp;omega));have s2:=B2.size) | fail "no arm");go_ret2;exact ⟨rfl,(B2.alloc s2 _).alloc (by simp;omega) _⟩
theorem open_pace (hd:qa5 w base q D) (hp:qg2 w x p) (hw:qk7 p) (hv:qf0 p=true) (h13:13≤D.many) (hm:logN (D.many:Nat)=(m:Nat)) (hpc:pace<1∨1024<pace) :
    Calls Tryz.prog 25 #[.pointer (some ⟨q.d,0,none⟩),.agg #[.slice x.A1 x.n1 x.c1,.slice x.A2 x.n2 x.c2,.int .i64 p.regs,.slice x.A3 x.n3 x.c3,.slice x.A4 x.n4 x.c4],.int .i64 pace] w fun e' w' => e'=.returned (.tuple #[.pointer none,.int .i64 2])∧Below w.heap.size w w':=by
  have hb00:Below w.heap.size w (w.alloc (.cells #[.pointer (some ⟨q.d,0,none⟩)] 50)):=(Below.refl _ _).alloc nlr _;have hb0:Below w.heap.size w ((w.alloc (.cells #[.pointer (some ⟨q.d,0,none⟩)] 50)).alloc (.cells #[.slice x.A1 x.n1 x.c1,.slice x.A2 x.n2 x.c2,.int .i64 p.regs,.slice x.A3 x.n3 x.c3,.slice x.A4 x.n4 x.c4] 26)):=hb00.alloc smp _;have hm':=may_yes (hd.below hb0) (hp.below (b:=w.heap.size) hb0 nlr) hw hv h13 hm;generalize qf5 p=hh at *;clear hm h13 hd hp;rcases hpc with q1 | q1
  · have d1:decide (pace<1)=true:=decide_eq_true q1;have d2:decide (1024<pace)=false:=decide_eq_false omg;clear q1;go_enter Tryz.func25,Tryz.ntmps25;go_wp2_with (first | ((go_at_call 99;(with_reducible refine (hm').mono ?_);rintro e w2 ⟨rfl,hb2⟩);have B2:=hb0.trans (hb2.mono (by simp;omega));have s2:=B2.size) | fail "no arm");go_ret2;exact ⟨rfl,(B2.alloc s2 _).alloc (by simp;omega) _⟩
  · have d1:decide (pace<1)=false:=decide_eq_false omg;have d2:decide (1024<pace)=true:=decide_eq_true q1;clear q1;go_enter Tryz.func25,Tryz.ntmps25;go_wp2_with (first | ((go_at_call 99;(with_reducible refine (hm').mono ?_);rintro e w2 ⟨rfl,hb2⟩);have B2:=hb0.trans (hb2.mono (by simp;omega));have s2:=B2.size) | fail "no arm");go_ret2;exact ⟨rfl,(B2.alloc s2 _).alloc (by simp;omega) _⟩
theorem vb8 (x:PA) (p:PV) (w:World):Calls Tryz.prog 27 #[.pointer none,.agg #[.slice x.A1 x.n1 x.c1,.slice x.A2 x.n2 x.c2,.int .i64 p.regs,.slice x.A3 x.n3 x.c3,.slice x.A4 x.n4 x.c4]] w fun e' w' => e'=.returned (.int .i64 1)∧Below w.heap.size w w' :=
  vo4 omg fun W _ => may_nil x p W
theorem vi3 (x:PA) (p:PV) (pace:Int) (w:World):Calls Tryz.prog 25 #[.pointer none,.agg #[.slice x.A1 x.n1 x.c1,.slice x.A2 x.n2 x.c2,.int .i64 p.regs,.slice x.A3 x.n3 x.c3,.slice x.A4 x.n4 x.c4],.int .i64 pace] w fun e' w' => e'=.returned (.tuple #[.pointer none,.int .i64 1])∧Below w.heap.size w w' :=
  open_err omg fun W _ => may_nil x p W
theorem format_plan (hd:qa5 w base q D) (hp:qg2 w x p) (hw:qk7 p) (hv:qf0 p=true) (h13:D.many<13):Calls Tryz.prog 27 #[.pointer (some ⟨q.d,0,none⟩),.agg #[.slice x.A1 x.n1 x.c1,.slice x.A2 x.n2 x.c2,.int .i64 p.regs,.slice x.A3 x.n3 x.c3,.slice x.A4 x.n4 x.c4]] w fun e' w' => e'=.returned (.int .i64 2)∧Below w.heap.size w w' :=
  vo4 omg fun W hb => may_plan (hd.below hb) (hp.below (b:=w.heap.size) hb nlr) hw hv h13
theorem open_plan (hd:qa5 w base q D) (hp:qg2 w x p) (hw:qk7 p) (hv:qf0 p=true) (h13:D.many<13) (pace:Int):Calls Tryz.prog 25 #[.pointer (some ⟨q.d,0,none⟩),.agg #[.slice x.A1 x.n1 x.c1,.slice x.A2 x.n2 x.c2,.int .i64 p.regs,.slice x.A3 x.n3 x.c3,.slice x.A4 x.n4 x.c4],.int .i64 pace] w fun e' w' => e'=.returned (.tuple #[.pointer none,.int .i64 2])∧Below w.heap.size w w' :=
  open_err omg fun W hb => may_plan (hd.below hb) (hp.below (b:=w.heap.size) hb nlr) hw hv h13
end
end Go.Proofs.YtmeebofhlilcmaaGreat
