/- Parts: PlainEng, ArithV, VerifyA, VmA. -/
import Derived.Test.YtmeebofhlilcmaaGreatPr23
import Derived.Test.YtmeebofhlilcmaaGreatPr24
import Derived.Test.YtmeebofhlilcmaaGreatPr26
import Derived.Test.YtmeebofhlilcmaaGreatPr02
import Derived.IntWalk
import Derived.Test.YtmeebofhlilcmaaGreatPr21
import Derived.Test.YtmeebofhlilcmaaGreatPr04
import Derived.WalkKit
import Derived.WalkSpells
import Derived.WalkLawsBesides
import Derived.Deep.RegionHeld3
import Derived.Deep.DeepCutAuto
import Derived.Deep.CutBlock
set_option linter.unusedVariables false
set_option linter.unusedSimpArgs false
set_option maxRecDepth 100000
set_option maxHeartbeats 40000000
namespace Go.Proofs.YtmeebofhlilcmaaGreat
open Go.RowKit
structure EgV where
  nIn:Nat
  nOut:Nat
  k:KpV
  cells:List Int
  tick:Int
  passed:Int
  replayed:Int
  put:Bool
  off:Bool
def vf7 (E:EgV) (t:List Int × List Int × Nat × Int) (S:qa1 × Nat × Bool × Int):qa1 × EgV × Int :=
  if S.2.2.2≠0 then (S.1,{ E with nOut:=S.2.1 },S.2.2.2)
  else (S.1,{ E with nOut:=S.2.1,put:=E.put || S.2.2.1,tick:=E.tick+1,cells:=t.1,passed:=E.passed+1 },0)
def eOneB (m:Nat) (p:PV) (E:EgV) (D:qa1) (t:List Int × List Int × Nat × Int):qa1 × EgV × Int :=
  if t.2.2.2≠0 then (D,E,t.2.2.2) else vf7 E t (qt1 D (11+m) m 4 E.nOut p.outs E.tick t.2.1)
def vl2 (m:Nat) (p:PV) (E:EgV) (r:qa1 × List Int × Int):qa1 × EgV × Int :=
  if r.2.2≠0 then (r.1,E,r.2.2) else eOneB m p E r.1 (qu9 p E.cells r.2.1)
def qc9 (m:Nat) (p:PV) (D:qa1) (E:EgV):qa1 × EgV × Int:=vl2 m p E (ql5 D 11 m 3 E.nIn p.ins E.tick)
def vl3 (E:EgV) (F:qa1 × Int):qa1 × EgV × Int:=(F.1,{ E with put:=decide (F.2≠0) },F.2)
def qd0 (D:qa1) (E:EgV):qa1 × EgV × Int:=if E.put=false then (D,E,0) else vl3 E (qb0 D)
def vc4 (E:EgV) (K:qa1 × KpV × Int):qa1 × EgV × Int :=
  if K.2.2≠0 then (K.1,{ E with k:=K.2.1 },K.2.2) else (K.1,{ E with k:=K.2.1,passed:=0 },0)
def vc5 (p:PV) (hash:Int) (E:EgV) (F:qa1 × Int):qa1 × EgV × Int :=
  if F.2≠0 then (F.1,E,F.2) else vc4 { E with put:=false } (qk4 F.1 1 5 6 5 p hash E.k E.tick E.cells)
def qh3 (p:PV) (hash:Int) (D:qa1) (E:EgV):qa1 × EgV × Int:=vc5 p hash E (qb0 D)
def qp4 (m:Nat) (p:PV):Nat→qa1→EgV→qa1 × EgV × Int
  | 0,D,E => (D,E,0)
  | n+1,D,E => if (qc9 m p D E).2.2≠0 then qc9 m p D E else qp4 m p n (qc9 m p D E).1 { (qc9 m p D E).2.1 with replayed:=(qc9 m p D E).2.1.replayed+1 }
def vk2 (p:PV) (hash pace:Int) (F:qa1 × EgV × Int):qa1 × EgV × Int :=
  if F.2.2≠0 then F else if pace≤F.2.1.passed then qh3 p hash F.1 F.2.1 else (F.1,F.2.1,0)
def vq5 (p:PV) (hash pace:Int) (R:qa1 × EgV × Int):qa1 × EgV × Int :=
  if R.2.2≠0 then R else vk2 p hash pace (qd0 R.1 R.2.1)
def qo7 (m:Nat) (p:PV) (hash pace:Int) (D:qa1) (E:EgV):qa1 × EgV × Int :=
  vq5 p hash pace (qp4 m p ((E.nIn:Int) - E.tick).toNat D E)
def runT (p:PV) (hash pace:Int) (R:qa1 × EgV × Int):qa1 × EgV × Int :=
  if pace≤R.2.1.passed then qh3 p hash R.1 R.2.1 else (R.1,R.2.1,0)
def runK (m:Nat) (p:PV) (hash pace most:Int):Nat→Nat→qa1→EgV→qa1 × EgV × Nat × Int
  | 0,n,D,E => (D,E,n,0)
  | f+1,n,D,E =>
    if most≤(n:Int) then (D,E,n,0)
    else if (qc9 m p D E).2.2≠0 then ((qc9 m p D E).1,(qc9 m p D E).2.1,n,(qc9 m p D E).2.2)
    else if (runT p hash pace (qc9 m p D E)).2.2≠0 then ((runT p hash pace (qc9 m p D E)).1,(runT p hash pace (qc9 m p D E)).2.1,n+1,(runT p hash pace (qc9 m p D E)).2.2)
    else runK m p hash pace most f (n+1) (runT p hash pace (qc9 m p D E)).1 (runT p hash pace (qc9 m p D E)).2.1
def qx3 (E:EgV) (z:Int):EgV:={ E with off:=E.off || decide (z=50) }
def runB (n:Nat) (z:Int) (F:qa1 × EgV × Int):qa1 × EgV × Int × Int :=
  (F.1,qx3 F.2.1 (if z=0 then F.2.2 else z),(n:Int),if z=0 then F.2.2 else z)
def runA (R:qa1 × EgV × Nat × Int):qa1 × EgV × Int × Int:=runB R.2.2.1 R.2.2.2 (qd0 R.1 R.2.1)
def runE (m:Nat) (p:PV) (hash pace most:Int) (D:qa1) (E:EgV):qa1 × EgV × Int × Int :=
  if E.off=true then (D,E,0,50) else if most<0 then (D,E,0,2) else runA (runK m p hash pace most ((E.nIn:Int) - E.tick).toNat 0 D E)
def subB (E:EgV) (A:qa1 × Nat × Int × Int):qa1 × EgV × Int × Int:=(A.1,qx3 { E with nIn:=A.2.1 } A.2.2.2,A.2.2.1,A.2.2.2)
def subE (m:Nat) (p:PV) (D:qa1) (E:EgV) (l:List Int):qa1 × EgV × Int × Int :=
  if E.off=true then (D,E,0,50) else subB E (qn2 D 11 m 3 E.nIn p.ins l)
def ve9 (hash:Int) (T:Int × List UInt8 × Int):Int:=if T.2.2=53 then 54 else if T.2.2≠0 then T.2.2 else if T.1≠hash then 42 else 0
def noEg:EgV:=⟨0,0,qw5,[],0,0,0,false,false⟩
def qk6 (p:PV) (nIn nOut:Nat) (K:KpV):EgV:=⟨nIn,nOut,K,if K.has then K.last.cells else qn0 p,if K.has then K.last.tick else 0,0,0,false,false⟩
def qj8 (E:EgV):Prop:=(E.nIn:Int)<E.tick∨(E.nOut:Int)<E.tick∨E.nIn<E.nOut
instance (E:EgV):Decidable (qj8 E):=by unfold qj8;infer_instance
def openK (m:Nat) (p:PV) (hash pace:Int) (nIn nOut:Nat) (K:qa1 × KpV × Int):qa1 × EgV × Int :=
  if K.2.2≠0 then (K.1,noEg,K.2.2)
  else if qj8 (qk6 p nIn nOut K.2.1) then (K.1,noEg,53)
  else if (qo7 m p hash pace K.1 (qk6 p nIn nOut K.2.1)).2.2≠0 then ((qo7 m p hash pace K.1 (qk6 p nIn nOut K.2.1)).1,noEg,(qo7 m p hash pace K.1 (qk6 p nIn nOut K.2.1)).2.2)
  else qo7 m p hash pace K.1 (qk6 p nIn nOut K.2.1)
def openS (m:Nat) (p:PV) (hash pace:Int) (nIn:Nat) (S:qa1 × Nat × Int):qa1 × EgV × Int :=
  if S.2.2≠0 then (S.1,noEg,S.2.2) else openK m p hash pace nIn S.2.1 (qj1 S.1 1 5 6 5 p hash)
def openF (m:Nat) (p:PV) (hash pace:Int) (F:qa1 × Nat × Int):qa1 × EgV × Int :=
  if F.2.2≠0 then (F.1,noEg,F.2.2) else openS m p hash pace F.2.1 (qc2 F.1 (11+m) m 4 p.outs)
def openO (m:Nat) (p:PV) (hash pace:Int) (D:qa1) (z:Int):qa1 × EgV × Int :=
  if z≠0 then (D,noEg,z) else openF m p hash pace (qc2 D 11 m 3 p.ins)
def qt4 (m:Nat) (p:PV) (hash pace:Int) (D:qa1):qa1 × EgV × Int :=
  openO m p hash pace (qb4 D 0 1 0).1 (ve9 hash (qe5 D 0 1 0 1))
def qj2 (now:List UInt8) (f a:Nat):Nat→List Int
  | 0 => []
  | k+1 => if qf1 now ((f+(a+k):Nat):Int)=qa3 then qj2 now f a k else qj2 now f a k ++ [((a+k:Nat):Int)]
def wipeW (l:List Int) (W:qa1 × Int):qa1 × Int:=if W.2≠0 then W else if l=[] then (W.1,0) else qb0 W.1
def qi0 (D:qa1) (f m a k:Nat):qa1 × Int :=
  if D.off=true∧0<k then (D,50) else wipeW (qj2 D.now f a k) (qm2 (rdK D k) f m (qj2 D.now f a k))
def formD (P:qa1 × Int):qa1 × Int:=if P.2≠0 then P else qb0 P.1
def formC (M:Nat) (hash:Int) (W:qa1 × Int):qa1 × Int:=if W.2≠0 then W else formD (qh1 W.1 0 M 0 1 hash [])
def formB (M:Nat) (hash:Int) (W:qa1 × Int):qa1 × Int:=if W.2≠0 then W else formC M hash (qi0 W.1 0 M 1 (M - 1))
def qr4 (M:Nat) (hash:Int) (D:qa1):qa1 × Int:=formB M hash (qi0 D 0 M 0 1)
theorem vc6 (x:Int):IntKind.i64.wrap x=wrap64 x:=by rw [IntKind.wrap_i64];unfold wrap64;omega
theorem arneg_any (a:Int) (w:World):Calls Tryz.prog 306 #[.int .i64 a] w fun e w' => e=.returned (.int .i64 (wrap64 (-a)))∧w=w':=by
  have hw:=vc6 (-a);go_enter Tryz.func306,Tryz.ntmps306;go_wp2;go_ret;exact ⟨rfl,rfl⟩
theorem aradd_any (a b:Int) (w:World):Calls Tryz.prog 308 #[.int .i64 a,.int .i64 b] w fun e w' => e=.returned (.int .i64 (wrap64 (a+b)))∧w=w':=by
  have hw:=vc6 (a+b);go_enter Tryz.func308,Tryz.ntmps308;go_wp2;go_ret;exact ⟨rfl,rfl⟩
theorem arsub_any (a b:Int) (w:World):Calls Tryz.prog 309 #[.int .i64 a,.int .i64 b] w fun e w' => e=.returned (.int .i64 (wrap64 (a - b)))∧w=w':=by
  have hw:=vc6 (a - b);go_enter Tryz.func309,Tryz.ntmps309;go_wp2;go_ret;exact ⟨rfl,rfl⟩
theorem armul_any (a b:Int) (w:World):Calls Tryz.prog 310 #[.int .i64 a,.int .i64 b] w fun e w' => e=.returned (.int .i64 (wrap64 (a * b)))∧w=w':=by
  have hw:=vc6 (a * b);go_enter Tryz.func310,Tryz.ntmps310;go_wp2;go_ret;exact ⟨rfl,rfl⟩
theorem vp7 (b:Bool) (w:World):Calls Tryz.prog 307 #[.bool b] w fun e w' => e=.returned (.int .i64 (qq9 b))∧w=w':=by
  cases b <;>
  (go_enter Tryz.func307,Tryz.ntmps307
   go_wp2;go_ret;exact ⟨rfl,rfl⟩)
theorem ardiv_any (a b:Int) (w:World) (ha:In64 a):Calls Tryz.prog 311 #[.int .i64 a,.int .i64 b] w fun e w' => e=.returned (.int .i64 (divK a b))∧w=w':=by
  have hin:In64 (divK a b):=divK_in ha
  by_cases h0:b=0
  · subst h0;rw [show divK a 0=0 from by unfold divK;rw [if_pos rfl]];clear hin;go_enter Tryz.func311,Tryz.ntmps311;go_wp2;go_ret;exact ⟨rfl,rfl⟩
  · by_cases h1:b=-1
    · subst h1;rw [show divK a (-1)=wrap64 (-a) from by unfold divK;rw [if_neg omg,if_pos rfl]];have hw:=vc6 (-a);clear hin;go_enter Tryz.func311,Tryz.ntmps311;go_wp2;go_ret;exact ⟨rfl,rfl⟩
    · have hd:divK a b=a.tdiv b:=by unfold divK;rw [if_neg h0,if_neg h1]
      rw [hd] at hin ⊢;have hw:IntKind.i64.wrap (a.tdiv b)=a.tdiv b:=IntWalk.i64_in _ hin;have b0:(b == 0)=false:=by rw [beq_eq_false_iff_ne];exact h0
      have b1:(b == -1)=false:=by rw [beq_eq_false_iff_ne];exact h1
      clear hin hd;go_enter Tryz.func311,Tryz.ntmps311;go_wp2;go_ret;exact ⟨rfl,rfl⟩
theorem armod_any (a b:Int) (w:World) (ha:In64 a):Calls Tryz.prog 312 #[.int .i64 a,.int .i64 b] w fun e w' => e=.returned (.int .i64 (modK a b))∧w=w':=by
  have hd:=fun w => ardiv_any a b w ha
  have h1:=vc6 (divK a b * b);have h2:=vc6 (a - wrap64 (divK a b * b));unfold modK;generalize wrap64 (a - wrap64 (divK a b * b))=R at *;generalize wrap64 (divK a b * b)=x2 at *;generalize divK a b=x1 at *;clear ha;go_enter Tryz.func312,Tryz.ntmps312;go_wp2_with (first | (go_at_call 311;(with_reducible refine (hd _).mono ?_);rintro e w1 ⟨rfl,rfl⟩) | fail "no arm");go_ret;exact ⟨rfl,rfl⟩
theorem arone_any (op a:Int) (w:World) (ho:op=5∨op=6):Calls Tryz.prog 287 #[.int .i64 op,.int .i64 a] w fun e w' => e=.returned (.tuple #[.int .i64 (oneK op a),.bool true])∧w=w':=by
  have hn:=arneg_any;have hf:=vp7;rcases ho with rfl | rfl
  · rw [show oneK 5 a=wrap64 (-a) from rfl];go_enter Tryz.func287,Tryz.ntmps287;go_wp2_with (first | (go_at_call 306;(with_reducible refine (hn _ _).mono ?_);rintro e w1 ⟨rfl,rfl⟩) | fail "no arm");go_ret2;exact ⟨rfl,rfl⟩
  · rw [show oneK 6 a=qq9 (a == 0) from rfl];go_enter Tryz.func287,Tryz.ntmps287;go_wp2_with (first | (go_at_call 307;(with_reducible refine (hf _ _).mono ?_);rintro e w1 ⟨rfl,rfl⟩) | fail "no arm");go_ret2;exact ⟨rfl,rfl⟩
def cmpB (op a b:Int):Bool:=if op=12 then a == b else if op=13 then a != b else if op=14 then decide (a<b) else if op=15 then decide (a≤b) else if op=16 then decide (b<a) else decide (b≤a)
def logB (op:Int) (a b:Bool):Bool:=if op=18 then a && b else if op=19 then a || b else a != b
theorem arcmp_any (op a b:Int) (w:World) (ho:12≤op∧op≤17):Calls Tryz.prog 313 #[.int .i64 op,.int .i64 a,.int .i64 b] w fun e w' => e=.returned (.bool (cmpB op a b))∧w=w':=by
  rcases (show op=12∨op=13∨op=14∨op=15∨op=16∨op=17 by omega) with rfl | rfl | rfl | rfl | rfl | rfl
  all_goals
    go_enter Tryz.func313,Tryz.ntmps313;go_wp2;go_ret;exact ⟨by first | rfl | (unfold cmpB;simp),rfl⟩
theorem arlog_any (op:Int) (a b:Bool) (w:World) (ho:18≤op∧op≤20):Calls Tryz.prog 314 #[.int .i64 op,.bool a,.bool b] w fun e w' => e=.returned (.bool (logB op a b))∧w=w':=by
  rcases (show op=18∨op=19∨op=20 by omega) with rfl | rfl | rfl
  all_goals
    cases a <;> cases b <;>
    (go_enter Tryz.func314,Tryz.ntmps314
     go_wp2;go_ret;exact ⟨by first | rfl | (unfold logB;simp),rfl⟩)
theorem ardo_any (op a b:Int) (w:World) (ho:7≤op∧op≤20) (ha:In64 a):Calls Tryz.prog 288 #[.int .i64 op,.int .i64 a,.int .i64 b] w fun e w' => e=.returned (.tuple #[.int .i64 (doK op a b),.bool true])∧w=w':=by
  have c7:=aradd_any a b;have c8:=arsub_any a b;have c9:=armul_any a b;have c10:=fun w => ardiv_any a b w ha
  have c11:=fun w => armod_any a b w ha
  have hf:=vp7;have hc:=fun (o:Int) (h:12≤o∧o≤17) w => arcmp_any o a b w h
  have hl:=fun (o:Int) (h:18≤o∧o≤20) w => arlog_any o (a != 0) (b != 0) w h
  rcases (show op=7∨op=8∨op=9∨op=10∨op=11∨op=12∨op=13∨op=14∨op=15∨op=16∨op=17∨op=18∨op=19∨op=20 by omega) with rfl | rfl | rfl | rfl | rfl | rfl | rfl | rfl | rfl | rfl | rfl | rfl | rfl | rfl
  · rw [show doK 7 a b=wrap64 (a+b) from rfl];go_enter Tryz.func288,Tryz.ntmps288;go_wp2_with (first | (go_at_call 308;(with_reducible refine (c7 _).mono ?_);rintro e w1 ⟨rfl,rfl⟩) | fail "no arm");go_ret2;exact ⟨rfl,rfl⟩
  · rw [show doK 8 a b=wrap64 (a - b) from rfl];go_enter Tryz.func288,Tryz.ntmps288;go_wp2_with (first | (go_at_call 309;(with_reducible refine (c8 _).mono ?_);rintro e w1 ⟨rfl,rfl⟩) | fail "no arm");go_ret2;exact ⟨rfl,rfl⟩
  · rw [show doK 9 a b=wrap64 (a * b) from rfl];go_enter Tryz.func288,Tryz.ntmps288;go_wp2_with (first | (go_at_call 310;(with_reducible refine (c9 _).mono ?_);rintro e w1 ⟨rfl,rfl⟩) | fail "no arm");go_ret2;exact ⟨rfl,rfl⟩
  · rw [show doK 10 a b=divK a b from rfl];go_enter Tryz.func288,Tryz.ntmps288;go_wp2_with (first | (go_at_call 311;(with_reducible refine (c10 _).mono ?_);rintro e w1 ⟨rfl,rfl⟩) | fail "no arm");go_ret2;exact ⟨rfl,rfl⟩
  · rw [show doK 11 a b=modK a b from rfl];go_enter Tryz.func288,Tryz.ntmps288;go_wp2_with (first | (go_at_call 312;(with_reducible refine (c11 _).mono ?_);rintro e w1 ⟨rfl,rfl⟩) | fail "no arm");go_ret2;exact ⟨rfl,rfl⟩
  · have hc1:=hc 12 omg;rw [show doK 12 a b=qq9 (cmpB 12 a b) from rfl];clear c7 c8 c9 c10 c11 hc hl;generalize cmpB _ a b=B at *;go_enter Tryz.func288,Tryz.ntmps288;go_wp2_with (first | (go_at_call 313;(with_reducible refine (hc1 _).mono ?_);rintro e w1 ⟨rfl,rfl⟩) | (go_at_call 307;(with_reducible refine (hf _ _).mono ?_);rintro e w2 ⟨rfl,rfl⟩) | fail "no arm");go_ret2;exact ⟨rfl,rfl⟩
  · have hc1:=hc 13 omg;rw [show doK 13 a b=qq9 (cmpB 13 a b) from rfl];clear c7 c8 c9 c10 c11 hc hl;generalize cmpB _ a b=B at *;go_enter Tryz.func288,Tryz.ntmps288;go_wp2_with (first | (go_at_call 313;(with_reducible refine (hc1 _).mono ?_);rintro e w1 ⟨rfl,rfl⟩) | (go_at_call 307;(with_reducible refine (hf _ _).mono ?_);rintro e w2 ⟨rfl,rfl⟩) | fail "no arm");go_ret2;exact ⟨rfl,rfl⟩
  · have hc1:=hc 14 omg;rw [show doK 14 a b=qq9 (cmpB 14 a b) from rfl];clear c7 c8 c9 c10 c11 hc hl;generalize cmpB _ a b=B at *;go_enter Tryz.func288,Tryz.ntmps288;go_wp2_with (first | (go_at_call 313;(with_reducible refine (hc1 _).mono ?_);rintro e w1 ⟨rfl,rfl⟩) | (go_at_call 307;(with_reducible refine (hf _ _).mono ?_);rintro e w2 ⟨rfl,rfl⟩) | fail "no arm");go_ret2;exact ⟨rfl,rfl⟩
  · have hc1:=hc 15 omg;rw [show doK 15 a b=qq9 (cmpB 15 a b) from rfl];clear c7 c8 c9 c10 c11 hc hl;generalize cmpB _ a b=B at *;go_enter Tryz.func288,Tryz.ntmps288;go_wp2_with (first | (go_at_call 313;(with_reducible refine (hc1 _).mono ?_);rintro e w1 ⟨rfl,rfl⟩) | (go_at_call 307;(with_reducible refine (hf _ _).mono ?_);rintro e w2 ⟨rfl,rfl⟩) | fail "no arm");go_ret2;exact ⟨rfl,rfl⟩
  · have hc1:=hc 16 omg;rw [show doK 16 a b=qq9 (cmpB 16 a b) from rfl];clear c7 c8 c9 c10 c11 hc hl;generalize cmpB _ a b=B at *;go_enter Tryz.func288,Tryz.ntmps288;go_wp2_with (first | (go_at_call 313;(with_reducible refine (hc1 _).mono ?_);rintro e w1 ⟨rfl,rfl⟩) | (go_at_call 307;(with_reducible refine (hf _ _).mono ?_);rintro e w2 ⟨rfl,rfl⟩) | fail "no arm");go_ret2;exact ⟨rfl,rfl⟩
  · have hc1:=hc 17 omg;rw [show doK 17 a b=qq9 (cmpB 17 a b) from rfl];clear c7 c8 c9 c10 c11 hc hl;generalize cmpB _ a b=B at *;go_enter Tryz.func288,Tryz.ntmps288;go_wp2_with (first | (go_at_call 313;(with_reducible refine (hc1 _).mono ?_);rintro e w1 ⟨rfl,rfl⟩) | (go_at_call 307;(with_reducible refine (hf _ _).mono ?_);rintro e w2 ⟨rfl,rfl⟩) | fail "no arm");go_ret2;exact ⟨rfl,rfl⟩
  · have hl1:=hl 18 omg;rw [show doK 18 a b=qq9 (logB 18 (a != 0) (b != 0)) from rfl];clear c7 c8 c9 c10 c11 hc hl;generalize logB _ (a != 0) (b != 0)=B at *;go_enter Tryz.func288,Tryz.ntmps288;go_wp2_with (first | (go_at_call 314;(with_reducible refine (hl1 _).mono ?_);rintro e w1 ⟨rfl,rfl⟩) | (go_at_call 307;(with_reducible refine (hf _ _).mono ?_);rintro e w2 ⟨rfl,rfl⟩) | fail "no arm");go_ret2;exact ⟨rfl,rfl⟩
  · have hl1:=hl 19 omg;rw [show doK 19 a b=qq9 (logB 19 (a != 0) (b != 0)) from rfl];clear c7 c8 c9 c10 c11 hc hl;generalize logB _ (a != 0) (b != 0)=B at *;go_enter Tryz.func288,Tryz.ntmps288;go_wp2_with (first | (go_at_call 314;(with_reducible refine (hl1 _).mono ?_);rintro e w1 ⟨rfl,rfl⟩) | (go_at_call 307;(with_reducible refine (hf _ _).mono ?_);rintro e w2 ⟨rfl,rfl⟩) | fail "no arm");go_ret2;exact ⟨rfl,rfl⟩
  · have hl1:=hl 20 omg;rw [show doK 20 a b=qq9 (logB 20 (a != 0) (b != 0)) from rfl];clear c7 c8 c9 c10 c11 hc hl;generalize logB _ (a != 0) (b != 0)=B at *;go_enter Tryz.func288,Tryz.ntmps288;go_wp2_with (first | (go_at_call 314;(with_reducible refine (hl1 _).mono ?_);rintro e w1 ⟨rfl,rfl⟩) | (go_at_call 307;(with_reducible refine (hf _ _).mono ?_);rintro e w2 ⟨rfl,rfl⟩) | fail "no arm");go_ret2;exact ⟨rfl,rfl⟩
def bo (b:Bool):Value:=.bool b
def lkC (x:PA) (p:PV) (K:Option Addr) (nk ck:Nat) (O:Option Addr) (no co:Nat) (past:Int) (bad:Bool):List Value :=
  [.slice x.A1 x.n1 x.c1,.slice x.A2 x.n2 x.c2,.int .i64 p.regs,.slice x.A3 x.n3 x.c3,.slice x.A4 x.n4 x.c4,.slice K nk ck,.slice O no co,.int .i64 past,.bool bad]
def LkAt (w:World) (base g:Nat) (x:PA) (p:PV) (s:LkV):Prop :=
  ∃ K nk ck O no co,Blk w g 231 (lkC x p K nk ck O no co s.past s.bad)∧base≤g∧Ow iv w base 3 K nk ck s.kinds∧Ow bo w base 4 O no co s.outs
theorem qq8 {α:Type} {enc:α→Value} {w:World} {base n c g:Nat} {t:TypeId} {A:Option Addr} {l:List α} (h:Ow enc w base t A n c l) (hg:A.map (·.block)=some g):∃ cs,Blk w g t cs:=by
  rcases h.2.2 with ⟨hv,_⟩ | ⟨g',cap,cur,hv,_,hh,_⟩
  · injection hv with hv;subst hv;cases hg
  · injection hv with hv;subst hv;simp only [Option.map_some,Option.some.injEq] at hg;subst hg;exact ⟨cur.toList,by unfold Blk;rw [hh]⟩
section
variable {w w':World} {base g:Nat} {x:PA} {p:PV} {s:LkV}
def lkMut:List TypeId:=[231,3,4]
def Stay (w w':World):Prop:=∀ g t cs,t ∉ lkMut→Blk w g t cs→Blk w' g t cs
theorem Stay.refl (w:World):Stay w w:=fun _ _ _ _ h => h
theorem Stay.trans {w1 w2 w3:World} (h:Stay w1 w2) (k:Stay w2 w3):Stay w1 w3:=fun g t cs ht hb => k g t cs ht (h g t cs ht hb)
theorem Stay.set {g:Nat} {t:TypeId} {cs:List Value} (hb:Blk w g t cs) (ht:t ∈ lkMut) (i:Nat) (u:Value):Stay w (w.setCell ⟨g,i,none⟩ u):=fun g' t' cs' ht' hb' => hb'.far (p:=⟨g,i,none⟩) (fun e => hb'.ne_ hb (fun e' => ht' (by rw [e'];exact ht)) e) _
theorem Stay.of_below (hb:Below w.heap.size w w'):Stay w w':=fun g t cs _ h => h.below hb h.lt
def qk0 (w:World) (base g:Nat) (x:PA) (p:PV) (s':LkV) (v:Option Int) (e:Ending) (w':World):Prop :=
  e=.returned (match v with | none => .tuple #[] | some n => .int .i64 n)∧LkAt w' base g x p s'∧Below base w w'∧Stay w w'
theorem qd7 (h:LkAt w base g x p s) (b:Bool):Calls Tryz.prog 274 #[.pointer (some ⟨g,0,none⟩),.bool b] w (qk0 w base g x p (qh5 s b) none):=by
  obtain ⟨K,nk,ck,O,no,co,hb,hg,hk,ho⟩:=h;have c8:w.cell? ⟨g,8,none⟩=some (.bool s.bad):=hb.cell 8;have f8:=hb.frozen 8;have hl:=hb.lt;have HB:=hdd hb;have HK:=hdd hk;have HO:=hdd ho;clear hb hk ho
  cases hs:s.bad with
  | true =>
    rw [hs] at c8;go_enter Tryz.func274,Tryz.ntmps274;go_wp2;go_end0;refine ⟨rfl,⟨K,nk,ck,O,no,co,?_,hg,HK.out.setFar HB.out dcd 8 _,HO.out.setFar HB.out dcd 8 _⟩,(Below.refl _ _).setCell hg _,Stay.set HB.out dcd _ _⟩;have:=HB.out.set_ 8 (.bool true);simpa [lkC,qh5,hs] using this
  | false =>
    rw [hs] at c8;go_enter Tryz.func274,Tryz.ntmps274;go_wp2;go_end0;refine ⟨rfl,⟨K,nk,ck,O,no,co,?_,hg,HK.out.setFar HB.out dcd 8 _,HO.out.setFar HB.out dcd 8 _⟩,(Below.refl _ _).setCell hg _,Stay.set HB.out dcd _ _⟩;have:=HB.out.set_ 8 (.bool (!b));simpa [lkC,qh5,hs] using this
theorem qd9 (h:LkAt w base g x p s) (n:Int):Calls Tryz.prog 275 #[.pointer (some ⟨g,0,none⟩),.int .i64 n] w (qk0 w base g x p (qe6 s n).1 (some (qe6 s n).2)):=by
  obtain ⟨K,nk,ck,O,no,co,hb,hg,hk,ho⟩:=h;have c5:w.cell? ⟨g,5,none⟩=some (.slice K nk ck):=hb.cell 5;have c8:w.cell? ⟨g,8,none⟩=some (.bool s.bad):=hb.cell 8;have f8:=hb.frozen 8;have hl:=hb.lt;have hkl:s.kinds.length=nk:=hk.1;have HB:=hdd hb;have HK:=hdd hk;have HO:=hdd ho;have HKL:=hdd hkl;have hbad:∀ W,W=w.setCell ⟨g,8,none⟩ (.bool true)→qk0 w base g x p { s with bad:=true } (some 0) (.returned (.int .i64 0)) W:=fun W e => by
    subst e;refine ⟨rfl,⟨K,nk,ck,O,no,co,?_,hg,HK.out.setFar HB.out dcd 8 _,HO.out.setFar HB.out dcd 8 _⟩,(Below.refl _ _).setCell hg _,Stay.set HB.out dcd _ _⟩;have:=HB.out.set_ 8 (.bool true);simpa [lkC] using this
  have HBAD:=hdd hbad;unfold qe6;rw [hkl];clear hb hk ho hbad hkl
  by_cases h1:n<0
  · rw [if_pos (.inl h1)];go_enter Tryz.func275,Tryz.ntmps275;go_wp2;go_ret;exact HBAD.out _ rfl
  by_cases h2:(nk:Int)≤n
  · rw [if_pos (.inr (.inl h2))];go_enter Tryz.func275,Tryz.ntmps275;go_wp2;go_ret;exact HBAD.out _ rfl
  obtain ⟨m,rfl⟩:∃ m:Nat,n=m:=⟨n.toNat,omg⟩;have hm:m<nk:=omg;obtain ⟨b1,o1,hK,hb1,hc⟩:=HK.out.rd.2.at_ hm;have hml:m<s.kinds.length:=by rw [HKL.out];exact hm
  rw [qs1 s.kinds m hml] at hc;have hka:kAt s.kinds (m:Int)=s.kinds[m]:=by
    unfold kAt;rw [if_neg omg,Int.toNat_natCast,List.getD_eq_getElem?_getD,List.getElem?_eq_getElem hml];rfl
  rw [hka];generalize s.kinds[m]=kk at *;have hcc:w.cell? ⟨b1,o1+m,none⟩=some (.int .i64 kk):=hc;clear hc hka hml;have SK:=hdd hK
  by_cases h3:kk=0
  · subst h3;rw [if_pos (.inr (.inr rfl))];subst hK;go_enter Tryz.func275,Tryz.ntmps275;go_wp2;go_ret;exact HBAD.out _ rfl
  · have hne:(kk == 0)=false:=by rw [beq_eq_false_iff_ne];exact h3
    rw [if_neg omg];clear h3;subst hK;go_enter Tryz.func275,Tryz.ntmps275;go_wp2;go_ret;exact ⟨rfl,⟨_,nk,ck,O,no,co,HB.out,hg,HK.out,HO.out⟩,Below.refl _ _,Stay.refl _⟩
theorem qe0 (h:LkAt w base g x p s) (n kind:Int):Calls Tryz.prog 273 #[.pointer (some ⟨g,0,none⟩),.int .i64 n,.int .i64 kind] w (qk0 w base g x p (qm6 s n kind) none):=by
  obtain ⟨K,nk,ck,O,no,co,hb,hg,hk,ho⟩:=h;have c5:w.cell? ⟨g,5,none⟩=some (.slice K nk ck):=hb.cell 5;have c8:w.cell? ⟨g,8,none⟩=some (.bool s.bad):=hb.cell 8;have f8:=hb.frozen 8;have hl:=hb.lt;have hkl:s.kinds.length=nk:=hk.1;have HB:=hdd hb;have HK:=hdd hk;have HO:=hdd ho;have HKL:=hdd hkl;have hbad:∀ W,W=w.setCell ⟨g,8,none⟩ (.bool true)→qk0 w base g x p { s with bad:=true } none (.returned (.tuple #[])) W:=fun W e => by
    subst e;refine ⟨rfl,⟨K,nk,ck,O,no,co,?_,hg,HK.out.setFar HB.out dcd 8 _,HO.out.setFar HB.out dcd 8 _⟩,(Below.refl _ _).setCell hg _,Stay.set HB.out dcd _ _⟩;have:=HB.out.set_ 8 (.bool true);simpa [lkC] using this
  have HBAD:=hdd hbad;unfold qm6;rw [hkl];clear hb hk ho hbad hkl
  by_cases h1:n<0
  · rw [if_pos (.inl h1)];go_enter Tryz.func273,Tryz.ntmps273;go_wp2;go_end0;exact HBAD.out _ rfl
  by_cases h2:(nk:Int)≤n
  · rw [if_pos (.inr (.inl h2))];go_enter Tryz.func273,Tryz.ntmps273;go_wp2;go_end0;exact HBAD.out _ rfl
  obtain ⟨m,rfl⟩:∃ m:Nat,n=m:=⟨n.toNat,omg⟩;have hm:m<nk:=omg;obtain ⟨gk,hK,hgk,hgl⟩:=HK.out.addr omg;obtain ⟨b1,o1,hK1,hb1,hc⟩:=HK.out.rd.2.at_ hm;rw [hK] at hK1;injection hK1 with hK1;injection hK1 with q1 q2 _;subst q1 q2;have hml:m<s.kinds.length:=by rw [HKL.out];exact hm
  rw [qs1 s.kinds m hml,Nat.zero_add] at hc;have hka:kAt s.kinds (m:Int)=s.kinds[m]:=by
    unfold kAt;rw [if_neg omg,Int.toNat_natCast,List.getD_eq_getElem?_getD,List.getElem?_eq_getElem hml];rfl
  rw [hka];generalize s.kinds[m]=kk at *;have hcc:w.cell? ⟨gk,m,none⟩=some (.int .i64 kk):=hc;have fm:=(show Ow iv w base 3 (some ⟨gk,0,none⟩) nk ck s.kinds from hK ▸ HK.out).free m;have hne9:gk≠g:=fun e => by
    subst e;obtain ⟨cs,hbk⟩:=qq8 (g:=gk) HK.out (by rw [hK];rfl);exact hbk.ne_ HB.out dcd rfl
  clear hc hka hml
  by_cases h3:kk=0
  · subst h3;rw [if_neg omg];subst hK;go_enter Tryz.func273,Tryz.ntmps273;go_wp2;go_end0;obtain ⟨cs,hbk⟩:=qq8 (g:=gk) HK.out rfl;exact ⟨rfl,⟨_,nk,ck,O,no,co,HB.out.far (p:=⟨gk,m,none⟩) (fun e => hne9 e.symm) _,hg,HK.out.set m kind _ rfl,HO.out.setFar hbk dcd m _⟩,(Below.refl _ _).setCell hgk _,Stay.set hbk dcd _ _⟩
  · have hne:(kk != 0)=true:=by rw [bne_iff_ne];exact h3
    rw [if_pos (.inr (.inr h3))];clear h3;subst hK;go_enter Tryz.func273,Tryz.ntmps273;go_wp2;go_end0;exact HBAD.out _ rfl
theorem lkone_any (h:LkAt w base g x p s) (L:Option Addr) (nl cl:Nat) (l:List Int) (hL:RI w L nl l) (n:Int):Calls Tryz.prog 277 #[.pointer (some ⟨g,0,none⟩),.slice L nl cl,.int .i64 n] w (qk0 w base g x p (oneV s l n).1 (some (oneV s l n).2)):=by
  have hLK:=h;obtain ⟨K,nk,ck,O,no,co,hb,hg,hk,ho⟩:=h;have c8:w.cell? ⟨g,8,none⟩=some (.bool s.bad):=hb.cell 8;have f8:=hb.frozen 8;have hl:=hb.lt;have hll:=hL.1;have HB:=hdd hb;have HK:=hdd hk;have HO:=hdd ho;have HLK:=hdd hLK;have hbad:∀ W,W=w.setCell ⟨g,8,none⟩ (.bool true)→qk0 w base g x p { s with bad:=true } (some 0) (.returned (.int .i64 0)) W:=fun W e => by
    subst e;refine ⟨rfl,⟨K,nk,ck,O,no,co,?_,hg,HK.out.setFar HB.out dcd 8 _,HO.out.setFar HB.out dcd 8 _⟩,(Below.refl _ _).setCell hg _,Stay.set HB.out dcd _ _⟩;have:=HB.out.set_ 8 (.bool true);simpa [lkC] using this
  have HBAD:=hdd hbad;unfold oneV;rw [hll];clear hb hk ho hbad hLK
  by_cases h1:n<0
  · rw [if_pos (.inl h1)];go_enter Tryz.func277,Tryz.ntmps277;go_wp2;go_ret;exact HBAD.out _ rfl
  by_cases h2:(nl:Int)≤n
  · rw [if_pos (.inr h2)];go_enter Tryz.func277,Tryz.ntmps277;go_wp2;go_ret;exact HBAD.out _ rfl
  rw [if_neg omg];obtain ⟨m,rfl⟩:∃ m:Nat,n=m:=⟨n.toNat,omg⟩;obtain ⟨b1,o1,hL1,hb1,hc⟩:=hL.at_ (k:=m) omg;have hka:kAt l (m:Int)=qa6 l m:=by
    unfold kAt qa6;rw [if_neg omg,Int.toNat_natCast]
  rw [hka];subst hL1;go_enter Tryz.func277,Tryz.ntmps277;go_wp2;go_ret;exact ⟨rfl,HLK.out,Below.refl _ _,Stay.refl _⟩
theorem vo1 (h:LkAt w base g x p s) (hp:qg2 w x p) (n:Int):Calls Tryz.prog 276 #[.pointer (some ⟨g,0,none⟩),.int .i64 n] w (qk0 w base g x p (cellV p s n).1 (some (cellV p s n).2)):=by
  have hLK:=h;obtain ⟨K,nk,ck,O,no,co,hb,hg,hk,ho⟩:=h;have c3:w.cell? ⟨g,3,none⟩=some (.slice x.A3 x.n3 x.c3):=hb.cell 3;have c8:w.cell? ⟨g,8,none⟩=some (.bool s.bad):=hb.cell 8;have f8:=hb.frozen 8;have hl:=hb.lt;have hll:=hp.r3.1;have HB:=hdd hb;have HK:=hdd hk;have HO:=hdd ho;have HLK:=hdd hLK;have HP:=hdd hp;have hbad:∀ W,W=w.setCell ⟨g,8,none⟩ (.bool true)→qk0 w base g x p { s with bad:=true } (some 0) (.returned (.int .i64 0)) W:=fun W e => by
    subst e;refine ⟨rfl,⟨K,nk,ck,O,no,co,?_,hg,HK.out.setFar HB.out dcd 8 _,HO.out.setFar HB.out dcd 8 _⟩,(Below.refl _ _).setCell hg _,Stay.set HB.out dcd _ _⟩;have:=HB.out.set_ 8 (.bool true);simpa [lkC] using this
  have HBAD:=hdd hbad;unfold cellV;rw [hll];clear hb hk ho hbad hLK hp
  by_cases h1:n<0
  · rw [if_pos (.inl h1)];go_enter Tryz.func276,Tryz.ntmps276;go_wp2;go_ret;exact HBAD.out _ rfl
  by_cases h2:(x.n3:Int)≤n
  · rw [if_pos (.inr h2)];go_enter Tryz.func276,Tryz.ntmps276;go_wp2;go_ret;exact HBAD.out _ rfl
  rw [if_neg omg];obtain ⟨m,rfl⟩:∃ m:Nat,n=m:=⟨n.toNat,omg⟩;obtain ⟨b,o,y,hA,hbl,hx,hc⟩:=HP.out.r3.at_ qt7 omg (show m<x.n3 by omega);have h0:w.cell? ⟨b,o+m * 2,none⟩=some (.int .i64 y.1):=hc 0 omg;rw [Int.toNat_natCast,qw8 hx];rw [hA] at c3;clear hc hx;go_enter Tryz.func276,Tryz.ntmps276;go_wp2;go_ret;exact ⟨rfl,HLK.out,Below.refl _ _,Stay.refl _⟩
end
structure TA where
  Ar:Option Addr
  nr:Nat
  cr:Nat
  Ac:Option Addr
  nc:Nat
  cc:Nat
  An:Option Addr
  nn:Nat
  cn:Nat
  Ai:Option Addr
  ni:Nat
  ci:Nat
  Ao:Option Addr
  no:Nat
  co:Nat
def tickC (a:TA):List Value:=[.slice a.Ar a.nr a.cr,.slice a.Ac a.nc a.cc,.slice a.An a.nn a.cn,.slice a.Ai a.ni a.ci,.slice a.Ao a.no a.co]
structure qf8 (w0 w:World) (g:Nat) (a:TA) (cells ins:List Int) (s:VS):Prop where
  bel:Below w0.heap.size w0 w
  t:Blk w g 348 (tickC a)
  gl:w0.heap.size≤g
  r:Ow iv w w0.heap.size 3 a.Ar a.nr a.cr s.regs
  n:Ow iv w w0.heap.size 3 a.An a.nn a.cn s.next
  o:Ow iv w w0.heap.size 3 a.Ao a.no a.co s.out
  c:RI w0 a.Ac a.nc cells
  i:RI w0 a.Ai a.ni ins
  rn:∀ b,a.Ar.map (·.block)=some b→a.An.map (·.block)≠some b
  ro:∀ b,a.Ar.map (·.block)=some b→a.Ao.map (·.block)≠some b
  no_:∀ b,a.An.map (·.block)=some b→a.Ao.map (·.block)≠some b
theorem Ow.kp {α:Type} {enc:α→Value} {F:Nat→Prop} {w w':World} {b n c:Nat} {t:TypeId} {B:Option Addr} {l:List α} (h:Ow enc w b t B n c l) (k:Keep F w w') (hF:∀ g,B.map (·.block)=some g→¬ F g):Ow enc w' b t B n c l :=
  ⟨h.1,qn4 h.2 k (fun g e => hF g (by cases B with | none => cases e | some a => simpa [Value.ownBlock] using e))⟩
section
variable {w0 w w':World} {g:Nat} {a:TA} {cells ins:List Int} {s:VS}
theorem qf8.below (h:qf8 w0 w g a cells ins s) (hb:Below w.heap.size w w'):qf8 w0 w' g a cells ins s :=
  ⟨h.bel.trans (hb.mono h.bel.size),h.t.below hb h.t.lt,h.gl,h.r.below hb nlr,h.n.below hb nlr,h.o.below hb nlr,h.c,h.i,h.rn,h.ro,h.no_⟩
theorem qf8.drew (h:qf8 w0 w g a cells ins s):qf8 w0 w.drew g a cells ins s:=h.below (Below.drew (Below.refl _ _))
theorem qf8.setR (h:qf8 w0 w g a cells ins s) {gr:Nat} (hA:a.Ar=some ⟨gr,0,none⟩) (j:Nat) (v:Int) (u:Value) (hu:u=.int .i64 v) (s':VS) (h1:s'.regs=putK s.regs (j:Nat) v) (h2:s'.next=s.next) (h3:s'.out=s.out):qf8 w0 (w.setCell ⟨gr,j,none⟩ u) g a cells ins s':=by
  subst hu;have hr:=h.r;rw [hA] at hr;obtain ⟨cs,hb⟩:=qq8 (g:=gr) hr rfl;have k:Keep (·=gr) w (w.setCell ⟨gr,j,none⟩ (.int .i64 v)):=Keep.one (qb5 _);have hg:=hr.lt gr rfl;refine ⟨h.bel.trans (k.below (fun b e => by rw [e];exact hg.1) h.bel.size),h.t.keep k (fun e => h.t.ne_ hb dcd e),h.gl,?_,by rw [h2];exact h.n.kp k (fun b e q => h.rn gr (by rw [hA];rfl) (by rw [e,q])),by rw [h3];exact h.o.kp k (fun b e q => h.ro gr (by rw [hA];rfl) (by rw [e,q])),h.c,h.i,h.rn,h.ro,h.no_⟩;rw [hA,h1];have:=hr.set j v (.int .i64 v) rfl;simpa [putK] using this
theorem qf8.setN (h:qf8 w0 w g a cells ins s) {gn:Nat} (hA:a.An=some ⟨gn,0,none⟩) (j:Nat) (v:Int) (u:Value) (hu:u=.int .i64 v) (s':VS) (h1:s'.next=putK s.next (j:Nat) v) (h2:s'.regs=s.regs) (h3:s'.out=s.out):qf8 w0 (w.setCell ⟨gn,j,none⟩ u) g a cells ins s':=by
  subst hu;have hr:=h.n;rw [hA] at hr;obtain ⟨cs,hb⟩:=qq8 (g:=gn) hr rfl;have k:Keep (·=gn) w (w.setCell ⟨gn,j,none⟩ (.int .i64 v)):=Keep.one (qb5 _);have hg:=hr.lt gn rfl;refine ⟨h.bel.trans (k.below (fun b e => by rw [e];exact hg.1) h.bel.size),h.t.keep k (fun e => h.t.ne_ hb dcd e),h.gl,by rw [h2];exact h.r.kp k (fun b e q => h.rn gn (by rw [← q];exact e) (by rw [hA];rfl)),?_,by rw [h3];exact h.o.kp k (fun b e q => h.no_ gn (by rw [hA];rfl) (by rw [e,q])),h.c,h.i,h.rn,h.ro,h.no_⟩;rw [hA,h1];have:=hr.set j v (.int .i64 v) rfl;simpa [putK] using this
theorem qf8.setO (h:qf8 w0 w g a cells ins s) {go:Nat} (hA:a.Ao=some ⟨go,0,none⟩) (j:Nat) (v:Int) (u:Value) (hu:u=.int .i64 v) (s':VS) (h1:s'.out=putK s.out (j:Nat) v) (h2:s'.regs=s.regs) (h3:s'.next=s.next):qf8 w0 (w.setCell ⟨go,j,none⟩ u) g a cells ins s':=by
  subst hu;have hr:=h.o;rw [hA] at hr;obtain ⟨cs,hb⟩:=qq8 (g:=go) hr rfl;have k:Keep (·=go) w (w.setCell ⟨go,j,none⟩ (.int .i64 v)):=Keep.one (qb5 _);have hg:=hr.lt go rfl;refine ⟨h.bel.trans (k.below (fun b e => by rw [e];exact hg.1) h.bel.size),h.t.keep k (fun e => h.t.ne_ hb dcd e),h.gl,by rw [h2];exact h.r.kp k (fun b e q => h.ro go (by rw [← q];exact e) (by rw [hA];rfl)),by rw [h3];exact h.n.kp k (fun b e q => h.no_ go (by rw [← q];exact e) (by rw [hA];rfl)),?_,h.c,h.i,h.rn,h.ro,h.no_⟩;rw [hA,h1];have:=hr.set j v (.int .i64 v) rfl;simpa [putK] using this
theorem vq8 {gr n c base:Nat} {l:List Int} (h:Ow iv w base 3 (some ⟨gr,0,none⟩) n c l) {j:Nat} (hj:j<n):w.cell? ⟨gr,j,none⟩=some (.int .i64 (qa6 l j)):=by
  obtain ⟨b,o,e,_,hc⟩:=h.rd.ri.at_ hj;injection e with e;injection e with e1 e2 _;subst e1 e2
  rwa [Nat.zero_add] at hc
end
end Go.Proofs.YtmeebofhlilcmaaGreat
