/- EngineNone. -/
import Derived.Test.YtmeebofhlilcmaaGreatPr02
import Derived.Test.YtmeebofhlilcmaaGreatPr53
import Derived.Test.YtmeebofhlilcmaaGreatPr41
import Derived.IntWalk
set_option maxRecDepth 100000
set_option maxHeartbeats 40000000
namespace Go.Proofs.YtmeebofhlilcmaaGreat
open Go.RowKit
set_option linter.unusedVariables false
set_option linter.unusedSimpArgs false
theorem run_eq_stat0 (w:World):(Op.equalIn 10000 54 (.agg #[.int .i64 0,.int .i64 0,.int .i64 0,.int .i64 0,.int .i64 0,.int .i64 0]) (.agg #[.int .i64 0,.int .i64 0,.int .i64 0,.int .i64 0,.int .i64 0,.int .i64 0])).run Tryz.prog w=.ok true w:=by
  have h:=run_eq_ints (P:=Tryz.prog) w Tryz.underlying3 (by kernel_rfl) Tryz.underlying54 (by kernel_rfl) 6 (by kernel_rfl) (by kernel_rfl) [0,0,0,0,0,0] [0,0,0,0,0,0] rfl rfl;rw [decide_eq_true rfl] at h;exact h
theorem c_stat0 {w:World} {base g m c many:Nat} {q:qb9} {p:PV} {pace rep:Int} {calm:Bool} (h:StOn w base q g p m c pace many calm [] 0 rep) :
    Calls Tryz.prog 29 #[.pointer (some ⟨g,0,none⟩)] w fun e' w' => e'=.returned (.agg #[.int .i64 0,.int .i64 0,.int .i64 0,.int .i64 0,.int .i64 0,.int .i64 0])∧Below w.heap.size w w':=by
  obtain ⟨_,_,r0,r1,_⟩:=h.le;refine (t_stat h).mono fun e' w' ⟨pa,sv,h1,a1,a2,a3,a4,a5,h2⟩ => ⟨?_,h2⟩
  rw [h1,show pa=0 by omega,show rep=0 by omega,show sv=0 by omega]
  rfl
end Go.Proofs.YtmeebofhlilcmaaGreat
namespace Go.Proofs.YtmeebofhlilcmaaGreat.engineNone
open Go.ChangeShapes Go.WideShapes Go.ChangeAt Go.RowKit
set_option linter.unusedVariables false
set_option linter.unusedSimpArgs false
theorem walk_out (s pace:Int) (w:World) (h:s<1∨60<s) :
    Calls Tryz.prog 4 #[.int .i64 s,.int .i64 pace] w fun e w' => e=.returned (.bool true)∧Below w.heap.size w w':=by
  have cD:=fun (W:World) => va4 W
  have cN:=fun (x:PA) (W:World) => vi3 x qe3 1 W
  have cM:=fun (x:PA) (W:World) => vb8 x qe3 W
  generalize qe3=P at *;rcases h with h | h
  · have d1:decide (s<1)=true:=decide_eq_true h;clear h;go_enter Tryz.func4,Tryz.ntmps4;go_wp2_with (first | ((go_at_call 24;(with_reducible refine (vm0 _).mono ?_);rintro e w1 ⟨rfl,hb1⟩);have B1:=hdd hb1;have s1:=hb1.size;clear hb1) | ((go_at_call 26;(with_reducible refine (cD _).mono ?_);rintro e w2 ⟨x2,rfl,_,hb2⟩);have B2:=hdd (B1.out.trans (hb2.mono s1));clear hb2) | ((go_at_call 25;(with_reducible refine (cN x2 _).mono ?_);rintro e w3 ⟨rfl,hb3⟩);have B3:=hdd (B2.out.trans (hb3.mono B2.out.size));have s3:=B3.out.size;clear hb3) | ((go_at_call 26;(with_reducible refine (cD _).mono ?_);rintro e w4 ⟨x4,rfl,_,hb4⟩);have B4:=hdd (B3.out.trans (hb4.mono s3));clear hb4) | ((go_at_call 27;(with_reducible refine (cM x4 _).mono ?_);rintro e w5 ⟨rfl,hb5⟩);have B5:=hdd (B4.out.trans (hb5.mono B4.out.size));clear hb5) | fail "no arm");go_ret;exact ⟨rfl,B5.out⟩
  · have d1:decide (s<1)=false:=decide_eq_false omg;have d2:decide (s > 60)=true:=decide_eq_true h;clear h;go_enter Tryz.func4,Tryz.ntmps4;go_wp2_with (first | ((go_at_call 24;(with_reducible refine (vm0 _).mono ?_);rintro e w1 ⟨rfl,hb1⟩);have B1:=hdd hb1;have s1:=hb1.size;clear hb1) | ((go_at_call 26;(with_reducible refine (cD _).mono ?_);rintro e w2 ⟨x2,rfl,_,hb2⟩);have B2:=hdd (B1.out.trans (hb2.mono s1));clear hb2) | ((go_at_call 25;(with_reducible refine (cN x2 _).mono ?_);rintro e w3 ⟨rfl,hb3⟩);have B3:=hdd (B2.out.trans (hb3.mono B2.out.size));have s3:=B3.out.size;clear hb3) | ((go_at_call 26;(with_reducible refine (cD _).mono ?_);rintro e w4 ⟨x4,rfl,_,hb4⟩);have B4:=hdd (B3.out.trans (hb4.mono s3));clear hb4) | ((go_at_call 27;(with_reducible refine (cM x4 _).mono ?_);rintro e w5 ⟨rfl,hb5⟩);have B5:=hdd (B4.out.trans (hb5.mono B4.out.size));clear hb5) | fail "no arm");go_ret;exact ⟨rfl,B5.out⟩
theorem walk_small (n:Nat) (pace:Int) (w:World) (h0:1≤n) (h1:n<13) :
    Calls Tryz.prog 4 #[.int .i64 (n:Nat),.int .i64 pace] w fun e w' => e=.returned (.bool true)∧Below w.heap.size w w':=by
  have d1:decide ((n:Int)<1)=false:=decide_eq_false omg;have d2:decide ((n:Int) > 60)=false:=decide_eq_false omg;have cD:=fun (W:World) => va4 W
  have cN:=fun (x:PA) (W:World) => vi3 x qe3 1 W
  have cM:=fun (x:PA) (W:World) => vb8 x qe3 W
  have cnew:=fun W => t_new (many:=n) W h0 omg
  have cF:=fun {W:World} {base:Nat} {q:qb9} {x:PA} (hd:qa5 W base q (newV n n)) (hp:qg2 W x qe3) => format_plan hd hp vi9 qy3 h1
  have cO:=fun {W:World} {base:Nat} {q:qb9} {x:PA} (hd:qa5 W base q (newV n n)) (hp:qg2 W x qe3) => open_plan hd hp vi9 qy3 h1 pace
  have cL:∀ W,Calls Tryz.prog 18 #[.int .i64 (n:Nat)] W fun e w' => e=.returned (.int .i64 0)∧W=w':=fun W => by
    have:=log_any (n:Int) W;unfold logN at this
    rwa [if_pos omg] at this
  generalize newV n n=D0 at *;generalize qe3=P at *;clear h0 h1;go_enter Tryz.func4,Tryz.ntmps4;go_wp2_with (first | ((go_at_call 24;(with_reducible refine (vm0 _).mono ?_);rintro e w1 ⟨rfl,hb1⟩);have B1:=hdd hb1;have s1:=hb1.size;clear hb1) | ((go_at_call 26;(with_reducible refine (cD _).mono ?_);rintro e w2 ⟨x2,rfl,_,hb2⟩);have B2:=hdd (B1.out.trans (hb2.mono s1));clear hb2) | ((go_at_call 25;(with_reducible refine (cN x2 _).mono ?_);rintro e w3 ⟨rfl,hb3⟩);have B3:=hdd (B2.out.trans (hb3.mono B2.out.size));have s3:=B3.out.size;clear hb3) | ((go_at_call 26;(with_reducible refine (cD _).mono ?_);rintro e w4 ⟨x4,rfl,_,hb4⟩);have B4:=hdd (B3.out.trans (hb4.mono s3));clear hb4) | ((go_at_call 27;(with_reducible refine (cM x4 _).mono ?_);rintro e w5 ⟨rfl,hb5⟩);have B5:=hdd (B4.out.trans (hb5.mono B4.out.size));clear hb5) | ((go_at_call 28;(with_reducible refine (cnew _).mono ?_);rintro e w6 ⟨q,rfl,d6,b6⟩);have D6:=hdd d6;have B6:=hdd (B5.out.trans (b6.mono B5.out.size));clear d6 b6) | ((go_at_call 26;(with_reducible refine (cD _).mono ?_);rintro e w7 ⟨x7,rfl,px7,b7⟩);have D7:=hdd (D6.out.below b7);have P7:=hdd (px7 0).rd;have B7:=hdd (B6.out.trans (b7.mono B6.out.size));clear px7 b7) | ((go_at_call 27;(with_reducible refine (cF D7.out P7.out).mono ?_);rintro e w8 ⟨rfl,b8⟩);have D8:=hdd (D7.out.below b8);have B8:=hdd (B7.out.trans (b8.mono B7.out.size));clear b8) | ((go_at_call 26;(with_reducible refine (cD _).mono ?_);rintro e w9 ⟨x9,rfl,px9,b9⟩);have D9:=hdd (D8.out.below b9);have P9:=hdd (px9 0).rd;have B9:=hdd (B8.out.trans (b9.mono B8.out.size));clear px9 b9) | ((go_at_call 25;(with_reducible refine (cO D9.out P9.out).mono ?_);rintro e w10 ⟨rfl,b10⟩);have B10:=hdd (B9.out.trans (b10.mono B9.out.size));clear b10) | (go_at_call 18;(with_reducible refine (cL _).mono ?_);rintro e w11 ⟨rfl,rfl⟩) | fail "no arm");go_ret;exact ⟨rfl,B10.out⟩
theorem walk_pace (n m:Nat) (pace:Int) (w:World) (h0:13≤n) (h1:n≤60) (hm:m=(n - 11) / 2) (hp:pace<1∨1024<pace) :
    Calls Tryz.prog 4 #[.int .i64 (n:Nat),.int .i64 pace] w fun e w' => e=.returned (.bool true)∧Below w.heap.size w w':=by
  have V:Env qe3 m 1 n:=vl4 h0 omg hm omg omg;have d1:decide ((n:Int)<1)=false:=decide_eq_false omg;have d2:decide ((n:Int) > 60)=false:=decide_eq_false omg;have cD:=fun (W:World) => va4 W
  have cN:=fun (x:PA) (W:World) => vi3 x qe3 1 W
  have cM:=fun (x:PA) (W:World) => vb8 x qe3 W
  have cnew:=fun W => t_new (many:=n) W omg omg
  have hrn:=vq4 (many:=n) omg omg;have hmn:(newV n n).many=n:=rfl;have hcn:(newV n n).cut=-1:=rfl;have cF:=fun {W:World} {base:Nat} {q:qb9} {x:PA} (hd:qa5 W base q (newV n n)) (hs:base≤W.heap.size) (hx:qg2 W x qe3) => vs6 V hd hrn hmn hcn hs hx
  have cO:=fun {W:World} {base:Nat} {q:qb9} {x:PA} (h:qx0 W base q qe3 m 0 1 n true 0 [] 0) (hp':qg2 W x qe3) => (show Calls Tryz.prog 25 #[.pointer (some ⟨q.d,0,none⟩),.agg #[.slice x.A1 x.n1 x.c1,.slice x.A2 x.n2 x.c2,.int .i64 qe3.regs,.slice x.A3 x.n3 x.c3,.slice x.A4 x.n4 x.c4],.int .i64 pace] W fun e' w' => e'=.returned (.tuple #[.pointer none,.int .i64 2])∧Below W.heap.size W w' from by
    obtain ⟨D,N,hd,r,hmm,_,_⟩:=h.ex;exact open_pace hd hp' vi9 qy3 omg (by rw [hmm];exact V.lg) hp)
  have cL:∀ W,Calls Tryz.prog 18 #[.int .i64 (n:Nat)] W fun e w' => e=.returned (.int .i64 (m:Nat))∧W=w':=fun W => by
    have:=log_any (n:Int) W
    rwa [V.lg] at this
  have hm0:((m:Int) == 0)=false:=by rw [beq_eq_false_iff_ne];omega
  have e1:decide (pace<1)=true∨(decide (pace<1)=false∧decide (pace > 1024)=true):=by
    rcases hp with q | q
    · exact .inl (decide_eq_true q)
    · exact .inr ⟨decide_eq_false omg,decide_eq_true q⟩
  clear h0 h1 hrn hmn hcn hm hp V;generalize newV n n=D0 at *;generalize qe3=P at *;rcases e1 with e1 | ⟨e1,e2⟩
  all_goals
    go_enter Tryz.func4,Tryz.ntmps4;go_wp2_with (first | ((go_at_call 24;(with_reducible refine (vm0 _).mono ?_);rintro e w1 ⟨rfl,hb1⟩);have B1:=hdd hb1;have s1:=hb1.size;clear hb1) | ((go_at_call 26;(with_reducible refine (cD _).mono ?_);rintro e w2 ⟨x2,rfl,_,hb2⟩);have B2:=hdd (B1.out.trans (hb2.mono s1));clear hb2) | ((go_at_call 25;(with_reducible refine (cN x2 _).mono ?_);rintro e w3 ⟨rfl,hb3⟩);have B3:=hdd (B2.out.trans (hb3.mono B2.out.size));have s3:=B3.out.size;clear hb3) | ((go_at_call 26;(with_reducible refine (cD _).mono ?_);rintro e w4 ⟨x4,rfl,_,hb4⟩);have B4:=hdd (B3.out.trans (hb4.mono s3));clear hb4) | ((go_at_call 27;(with_reducible refine (cM x4 _).mono ?_);rintro e w5 ⟨rfl,hb5⟩);have B5:=hdd (B4.out.trans (hb5.mono B4.out.size));clear hb5) | ((go_at_call 28;(with_reducible refine (cnew _).mono ?_);rintro e w6 ⟨q,rfl,d6,b6⟩);have D6:=hdd d6;have B6:=hdd (B5.out.trans (b6.mono B5.out.size));have z6:=b6.size;clear d6 b6) | ((go_at_call 26;(with_reducible refine (cD _).mono ?_);rintro e w7 ⟨x7,rfl,px7,b7⟩);have D7:=hdd (D6.out.below b7);have P7:=hdd (px7 0).rd;have B7:=hdd (B6.out.trans (b7.mono B6.out.size));have z7:=Nat.le_trans z6 b7.size;clear px7 b7) | ((go_at_call 27;(with_reducible refine (cF D7.out z7 P7.out).mono ?_);rintro e w8 ⟨rfl,r8,s8⟩);have R8:=hdd r8;have B8:=hdd (B7.out.trans (s8.bel.mono B5.out.size));clear r8 s8) | ((go_at_call 26;(with_reducible refine (cD _).mono ?_);rintro e w9 ⟨x9,rfl,px9,b9⟩);have R9:=hdd (R8.out.below b9);have P9:=hdd (px9 0).rd;have B9:=hdd (B8.out.trans (b9.mono B8.out.size));clear px9 b9) | ((go_at_call 25;(with_reducible refine (cO R9.out P9.out).mono ?_);rintro e w10 ⟨rfl,b10⟩);have B10:=hdd (B9.out.trans (b10.mono B9.out.size));clear b10) | (go_at_call 18;(with_reducible refine (cL _).mono ?_);rintro e w11 ⟨rfl,rfl⟩) | fail "no arm");go_ret;exact ⟨rfl,B10.out⟩
theorem walk_main (n m:Nat) (pace:Int) (w:World) (h0:13≤n) (h1:n≤60) (hm:m=(n - 11) / 2) (hp:1≤pace) (hp2:pace≤1024) :
    Calls Tryz.prog 4 #[.int .i64 (n:Nat),.int .i64 pace] w fun e w' => e=.returned (.bool true)∧Below w.heap.size w w':=by
  have V:Env qe3 m pace n:=vl4 h0 omg hm hp hp2;have d1:decide ((n:Int)<1)=false:=decide_eq_false omg;have d2:decide ((n:Int) > 60)=false:=decide_eq_false omg;have cD:=fun (W:World) => va4 W
  have cN:=fun (x:PA) (W:World) => vi3 x qe3 1 W
  have cM:=fun (x:PA) (W:World) => vb8 x qe3 W
  have cnew:=fun W => t_new (many:=n) W omg omg
  have hrn:=vq4 (many:=n) omg omg;have hmn:(newV n n).many=n:=rfl;have hcn:(newV n n).cut=-1:=rfl;have cF:=fun {W:World} {base:Nat} {q:qb9} {x:PA} (hd:qa5 W base q (newV n n)) (hs:base≤W.heap.size) (hx:qg2 W x qe3) => vs6 V hd hrn hmn hcn hs hx
  have cO:=fun {W:World} {base:Nat} {q:qb9} {x:PA} (h:qx0 W base q qe3 m 0 pace n true 0 [] 0) (hx:qk8 W base x qe3) => c_open V h hx omg rfl
  have cL:∀ W,Calls Tryz.prog 18 #[.int .i64 (n:Nat)] W fun e w' => e=.returned (.int .i64 (m:Nat))∧W=w':=fun W => by
    have:=log_any (n:Int) W
    rwa [V.lg] at this
  have hm0:((m:Int) == 0)=false:=by rw [beq_eq_false_iff_ne];omega
  have e1:decide (pace<1)=false:=decide_eq_false omg;have e2:decide (pace > 1024)=false:=decide_eq_false omg;have heq:=fun w => run_eq_stat0 w
  clear h0 h1 hrn hmn hcn hm hp hp2 V;generalize newV n n=D0 at *;generalize qe3=P at *;go_enter Tryz.func4,Tryz.ntmps4;go_wp2_with (first | ((go_at_call 24;(with_reducible refine (vm0 _).mono ?_);rintro e w1 ⟨rfl,hb1⟩);have B1:=hdd hb1;have s1:=hb1.size;clear hb1) | ((go_at_call 26;(with_reducible refine (cD _).mono ?_);rintro e w2 ⟨x2,rfl,_,hb2⟩);have B2:=hdd (B1.out.trans (hb2.mono s1));clear hb2) | ((go_at_call 25;(with_reducible refine (cN x2 _).mono ?_);rintro e w3 ⟨rfl,hb3⟩);have B3:=hdd (B2.out.trans (hb3.mono B2.out.size));have s3:=B3.out.size;clear hb3) | ((go_at_call 26;(with_reducible refine (cD _).mono ?_);rintro e w4 ⟨x4,rfl,_,hb4⟩);have B4:=hdd (B3.out.trans (hb4.mono s3));clear hb4) | ((go_at_call 27;(with_reducible refine (cM x4 _).mono ?_);rintro e w5 ⟨rfl,hb5⟩);have B5:=hdd (B4.out.trans (hb5.mono B4.out.size));clear hb5) | ((go_at_call 28;(with_reducible refine (cnew _).mono ?_);rintro e w6 ⟨q,rfl,d6,b6⟩);have D6:=hdd d6;have B6:=hdd (B5.out.trans (b6.mono B5.out.size));have z6:=b6.size;clear d6 b6) | ((go_at_call 26;(with_reducible refine (cD _).mono ?_);rintro e w7 ⟨x7,rfl,px7,b7⟩);have D7:=hdd (D6.out.below b7);have P7:=hdd (px7 0).rd;have B7:=hdd (B6.out.trans (b7.mono B6.out.size));have z7:=Nat.le_trans z6 b7.size;clear px7 b7) | ((go_at_call 27;(with_reducible refine (cF D7.out z7 P7.out).mono ?_);rintro e w8 ⟨rfl,r8,s8⟩);have R8:=hdd r8;have B8:=hdd (B7.out.trans (s8.bel.mono B5.out.size));clear r8 s8) | ((go_at_call 26;(with_reducible refine (cD _).mono ?_);rintro e w9 ⟨x9,rfl,px9,b9⟩);have R9:=hdd (R8.out.below b9);have P9:=hdd (px9 w5.heap.size);have B9:=hdd (B8.out.trans (b9.mono B8.out.size));clear px9 b9) | ((go_at_call 25;(with_reducible refine (cO R9.out P9.out).mono ?_);rintro e w10 ⟨g10,rep10,rfl,o10,s10⟩);have O10:=hdd o10;have B10:=hdd (B9.out.trans (s10.bel.mono B5.out.size));clear o10 s10) | (go_at_call 18;(with_reducible refine (cL _).mono ?_);rintro e w11 ⟨rfl,rfl⟩) | ((go_at_call 29;(with_reducible refine (c_stat0 O10.out).mono ?_);rintro e w12 ⟨rfl,b12⟩);have B12:=hdd (B10.out.trans (b12.mono B10.out.size));clear b12) | fail "no arm");go_ret;exact ⟨rfl,B12.out⟩
theorem walk (w:World) (s:Int) (ws:(Lit.int .i64 s).wf=true) (pace:Int) (wp:(Lit.int .i64 pace).wf=true) :
    Calls Tryz.prog 4 #[.int .i64 s,.int .i64 pace] w fun e w' => e=.returned (.bool true)∧Below w.heap.size w w':=by
  by_cases h:s<1∨60<s
  · exact walk_out s pace w h
  obtain ⟨n,rfl⟩:∃ n:Nat,s=(n:Nat):=⟨s.toNat,omg⟩
  by_cases h2:n<13
  · exact walk_small n pace w omg h2
  by_cases h3:pace<1∨1024<pace
  · exact walk_pace n _ pace w omg omg rfl h3
  · exact walk_main n _ pace w omg omg rfl omg omg
theorem own:ownKnob Tryz.prog.godebug=none:=by kernel_rfl
theorem laidOut:laidOutB Tryz.prog=true:=by kernel_rfl
theorem lifted (os:Os) (started:os.Started) (H:Type) (enc:TypeId × Value→H) :
    ReturnsInHanded {} Tryz.checked os 4 .any (Rows.engineNoneSpec.pre6 enc Tryz.prog Tryz.f4 Rows.engineNoneRow.domain false) (Rows.engineNoneSpec.post enc Tryz.prog Tryz.f4 false true false false):=by
  refine returnsInHanded_of_change (C:=Tryz.checked) own started (by kernel_rfl) Tryz.func4
    (ChangeSpec.witness6 (enc:=enc) (C:=Tryz.checked) false ⟨#[],#[.int .i64 0,.int .i64 0],[]⟩ 8 (by kernel_rfl) (by kernel_rfl) (by kernel_rfl) (by kernel_rfl)) ?_
  intro W base args ds gs before hval0 hW hcnd _;have hval:∀ (j:Nat) t v,Tryz.f4.params[j]?=some t→args[j]?=some v→Value.okWide Tryz.prog W .any base t v:=hval0;have hW':=hW;obtain ⟨p,q,hA0,hV,rfl,hfz,hnd⟩:=hW;have hA:DataW.TrodAll enc Tryz.prog W 0 (fun _ => true) true Tryz.f4.params.toList args.toList ds p:=hA0;rw [Tryz.params4] at hA hval;obtain ⟨v0,vs0,d0,ds0,p0,q0,hargs,rfl,rfl,h0,rr0⟩:=trodAll_cons hA;obtain ⟨v1,vs1,d1,ds1,p1,q1,rfl,rfl,rfl,h1,rr1⟩:=trodAll_cons rr0;obtain ⟨rfl,rfl,rfl⟩:=trodAll_nil rr1;obtain rfl:args=#[v0,v1]:=by cases args;simp_all
  obtain ⟨rfl,rfl⟩:=trodVars_none hV;have k0:=h0;have lt0:∀ x ∈ p0,x.block<W.heap.size:=by obtain ⟨m,hm⟩:=k0;exact DataW.trod_lt m _ _ _ hm
  obtain ⟨a0,rfl,wf0⟩:=args_int Tryz.underlying3 (hval 0 3 v0 rfl rfl) h0;have k1:=h1;have lt1:∀ x ∈ p1,x.block<W.heap.size:=by obtain ⟨m,hm⟩:=k1;exact DataW.trod_lt m _ _ _ hm
  obtain ⟨a1,rfl,wf1⟩:=args_int Tryz.underlying3 (hval 1 3 v1 rfl rfl) h1;clear hA0 hval0;refine (walk W a0 wf0 a1 wf1).mono fun e W' ⟨he,bel⟩ => ?_
  subst he;exact ⟨_,rfl,_,_,_,[],_,[],hW',trodAll_mk1 (shut_bool Tryz.underlying4 _),(trodAll_cons_mk (Below.trod laidOut (by kernel_rfl) (of_decide_eq_true (by kernel_rfl)) k0 bel lt0) (trodAll_cons_mk (Below.trod laidOut (by kernel_rfl) (of_decide_eq_true (by kernel_rfl)) k1 bel lt1) trodAll_mk0)),rfl,bel.frame _,fun h => by cases h⟩
theorem cInPlace:(Rows.engineNoneRow.inPlace == Tryz.prog.inPlace 4)=true:=by kernel_rfl
theorem cUnfollowed:(Rows.engineNoneRow.unfollowed == Tryz.prog.unfollowed 4)=true:=by kernel_rfl
theorem cRecurses:(Rows.engineNoneRow.recurses == Tryz.prog.recurses 4)=true:=by kernel_rfl
theorem cNamed:(Rows.engineNoneRow.named == Tryz.prog.varsNamed 4)=true:=by kernel_rfl
theorem closed:joinedFacts Tryz.prog 4 Tryz.f4 Rows.engineNoneSpec Rows.engineNoneRow=true:=by
  unfold joinedFacts;rw [cInPlace,cUnfollowed,cRecurses,cNamed]
  kernel_rfl
theorem over:Rows.engineNoneRow.holds Tryz.pinned (OpenSpec.ofChange Rows.engineNoneSpec) :=
  OpenClaim.holds_of_wide 4 Tryz.f4 rfl rfl rfl rfl rfl rfl rfl ⟨rfl,rfl,rfl,rfl,rfl⟩ rfl rfl rfl rfl rfl (by kernel_rfl) Tryz.func4 closed
    (of_decide_eq_true (by kernel_rfl)) (by unfold Func.isWrapper;first | (rw [if_pos (by decide +kernel)];kernel_rfl) | (rw [if_neg (by decide +kernel)];exact ⟨rfl,rfl⟩))
    (fun os started H enc _ => lifted os started H enc)
theorem proved:Rows.EngineNoneSaid:=over
end Go.Proofs.YtmeebofhlilcmaaGreat.engineNone
