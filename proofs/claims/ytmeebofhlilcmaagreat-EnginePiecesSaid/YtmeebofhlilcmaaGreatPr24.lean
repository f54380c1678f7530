/- Parts. -/
import Derived.Test.YtmeebofhlilcmaaGreatPr20
import Derived.Test.YtmeebofhlilcmaaGreatPr23
import Derived.IntWalk
set_option linter.unusedVariables false
set_option linter.unusedSimpArgs false
set_option maxRecDepth 100000
set_option maxHeartbeats 0
namespace Go.Proofs.YtmeebofhlilcmaaGreat
variable {base n c gr:Nat} {t:TypeId}
open Go.RowKit
structure EgV where
 nIn:Nat
 nOut:Nat
 k:KpV
 cells:List Int
 tick:Int
 passed:Int
 replayed:Int
 put:Bool
 off:Bool
def gK (E:EgV)(t:List Int × List Int × Nat × Int)(S:aY × Nat × Bool × Int):aY × EgV × Int :=
 if S.2.2.2≠0 then (S.1,{ E with nOut:=S.2.1 },S.2.2.2)
 else (S.1,{ E with nOut:=S.2.1,put:=E.put || S.2.2.1,tick:=E.tick+1,cells:=t.1,passed:=E.passed+1 },0)
def eOneB (m:Nat)(p:PV)(E:EgV)(D:aY)(t:List Int × List Int × Nat × Int):aY × EgV × Int :=
 if t.2.2.2≠0 then (D,E,t.2.2.2) else gK E t (eY D (11+m) m 4 E.nOut p.outs E.tick t.2.1)
def iD (m:Nat)(p:PV)(E:EgV)(r:aY × List Int × Int):aY × EgV × Int :=
 if r.2.2≠0 then (r.1,E,r.2.2) else eOneB m p E r.1 (eO p E.cells r.2.1)
def bM (m:Nat)(p:PV)(D:aY)(E:EgV):aY × EgV × Int:=iD m p E (dL D 11 m 3 E.nIn p.ins E.tick)
def lu (E:EgV)(F:aY × Int):aY × EgV × Int:=(F.1,{ E with put:=decide (F.2≠0) },F.2)
def cW (D:aY)(E:EgV):aY × EgV × Int:=if E.put=false then (D,E,0) else lu E (bI D)
def iO (E:EgV)(K:aY × KpV × Int):aY × EgV × Int :=
 if K.2.2≠0 then (K.1,{ E with k:=K.2.1 },K.2.2) else (K.1,{ E with k:=K.2.1,passed:=0 },0)
def iP (p:PV)(hash:Int)(E:EgV)(F:aY × Int):aY × EgV × Int :=
 if F.2≠0 then (F.1,E,F.2) else iO { E with put:=false } (eM F.1 1 5 6 5 p hash E.k E.tick E.cells)
def dw (p:PV)(hash:Int)(D:aY)(E:EgV):aY × EgV × Int:=iP p hash E (bI D)
def eE (m:Nat)(p:PV):Nat->aY->EgV->aY × EgV × Int
 | 0,D,E=>(D,E,0)
 | n+1,D,E=>if (bM m p D E).2.2≠0 then bM m p D E else eE m p n (bM m p D E).1 { (bM m p D E).2.1 with replayed:=(bM m p D E).2.1.replayed+1 }
def iE (p:PV)(hash pace:Int)(F:aY × EgV × Int):aY × EgV × Int :=
 if F.2.2≠0 then F else if pace<=F.2.1.passed then dw p hash F.1 F.2.1 else (F.1,F.2.1,0)
def je (p:PV)(hash pace:Int)(R:aY × EgV × Int):aY × EgV × Int :=
 if R.2.2≠0 then R else iE p hash pace (cW R.1 R.2.1)
def ep (m:Nat)(p:PV)(hash pace:Int)(D:aY)(E:EgV):aY × EgV × Int :=
 je p hash pace (eE m p ((E.nIn:Int) - E.tick).toNat D E)
def runT (p:PV)(hash pace:Int)(R:aY × EgV × Int):aY × EgV × Int :=
 if pace<=R.2.1.passed then dw p hash R.1 R.2.1 else (R.1,R.2.1,0)
def runK (m:Nat)(p:PV)(hash pace most:Int):Nat->Nat->aY->EgV->aY × EgV × Nat × Int
 | 0,n,D,E=>(D,E,n,0)
 | f+1,n,D,E=>
   if most<=(n:Int) then (D,E,n,0)
   else if (bM m p D E).2.2≠0 then ((bM m p D E).1,(bM m p D E).2.1,n,(bM m p D E).2.2)
   else if (runT p hash pace (bM m p D E)).2.2≠0 then ((runT p hash pace (bM m p D E)).1,(runT p hash pace (bM m p D E)).2.1,n+1,(runT p hash pace (bM m p D E)).2.2)
   else runK m p hash pace most f (n+1) (runT p hash pace (bM m p D E)).1 (runT p hash pace (bM m p D E)).2.1
def fB (E:EgV)(z:Int):EgV:={ E with off:=E.off || decide (z=50) }
def runB (n:Nat)(z:Int)(F:aY × EgV × Int):aY × EgV × Int × Int :=
 (F.1,fB F.2.1 (if z=0 then F.2.2 else z),(n:Int),if z=0 then F.2.2 else z)
def runA (R:aY × EgV × Nat × Int):aY × EgV × Int × Int:=runB R.2.2.1 R.2.2.2 (cW R.1 R.2.1)
def runE (m:Nat)(p:PV)(hash pace most:Int)(D:aY)(E:EgV):aY × EgV × Int × Int :=
 if E.off=true then (D,E,0,50) else if most<0 then (D,E,0,2) else runA (runK m p hash pace most ((E.nIn:Int) - E.tick).toNat 0 D E)
def subB (E:EgV)(A:aY × Nat × Int × Int):aY × EgV × Int × Int:=(A.1,fB { E with nIn:=A.2.1 } A.2.2.2,A.2.2.1,A.2.2.2)
def subE (m:Nat)(p:PV)(D:aY)(E:EgV)(l:List Int):aY × EgV × Int × Int :=
 if E.off=true then (D,E,0,50) else subB E (dZ D 11 m 3 E.nIn p.ins l)
def saveB (S:aY × EgV × Int):aY × EgV × Int:=(S.1,fB S.2.1 S.2.2,S.2.2)
def fC (p:PV)(hash:Int)(D:aY)(E:EgV):aY × EgV × Int :=
 if E.off=true then (D,E,50) else saveB (dw p hash D E)
def jf (hash:Int)(T:Int × List UInt8 × Int):Int:=if T.2.2=53 then 54 else if T.2.2≠0 then T.2.2 else if T.1≠hash then 42 else 0
def noEg:EgV:=⟨0,0,gT,[],0,0,0,false,false⟩
def eP (p:PV)(nIn nOut:Nat)(K:KpV):EgV:=⟨nIn,nOut,K,if K.has then K.last.cells else es p,if K.has then K.last.tick else 0,0,0,false,false⟩
def gU (E:EgV):Prop:=(E.nIn:Int)<E.tick\/(E.nOut:Int)<E.tick\/E.nIn<E.nOut
instance (E:EgV):Decidable (gU E):=by unfold gU;infer_instance
def openK (m:Nat)(p:PV)(hash pace:Int)(nIn nOut:Nat)(K:aY × KpV × Int):aY × EgV × Int :=
 if K.2.2≠0 then (K.1,noEg,K.2.2)
 else if gU (eP p nIn nOut K.2.1) then (K.1,noEg,53)
 else if (ep m p hash pace K.1 (eP p nIn nOut K.2.1)).2.2≠0 then ((ep m p hash pace K.1 (eP p nIn nOut K.2.1)).1,noEg,(ep m p hash pace K.1 (eP p nIn nOut K.2.1)).2.2)
 else ep m p hash pace K.1 (eP p nIn nOut K.2.1)
def openS (m:Nat)(p:PV)(hash pace:Int)(nIn:Nat)(S:aY × Nat × Int):aY × EgV × Int :=
 if S.2.2≠0 then (S.1,noEg,S.2.2) else openK m p hash pace nIn S.2.1 (eg S.1 1 5 6 5 p hash)
def openF (m:Nat)(p:PV)(hash pace:Int)(F:aY × Nat × Int):aY × EgV × Int :=
 if F.2.2≠0 then (F.1,noEg,F.2.2) else openS m p hash pace F.2.1 (bR F.1 (11+m) m 4 p.outs)
def openO (m:Nat)(p:PV)(hash pace:Int)(D:aY)(z:Int):aY × EgV × Int :=
 if z≠0 then (D,noEg,z) else openF m p hash pace (bR D 11 m 3 p.ins)
def fd (m:Nat)(p:PV)(hash pace:Int)(D:aY):aY × EgV × Int :=
 openO m p hash pace (bN D 0 1 0).1 (jf hash (cX D 0 1 0 1))
def ei (now:List UInt8)(f a:Nat):Nat->List Int
 | 0=>[]
 | k+1=>if cj now ((f+(a+k):Nat):Int)=bw then ei now f a k else ei now f a k ++ [((a+k:Nat):Int)]
def wipeW (l:List Int)(W:aY × Int):aY × Int:=if W.2≠0 then W else if l=[] then (W.1,0) else bI W.1
def cU (D:aY)(f m a k:Nat):aY × Int :=
 if D.off=true/\0<k then (D,50) else wipeW (ei D.now f a k) (dS (rdK D k) f m (ei D.now f a k))
def formD (P:aY × Int):aY × Int:=if P.2≠0 then P else bI P.1
def formC (M:Nat)(hash:Int)(W:aY × Int):aY × Int:=if W.2≠0 then W else formD (cK W.1 0 M 0 1 hash [])
def formB (M:Nat)(hash:Int)(W:aY × Int):aY × Int:=if W.2≠0 then W else formC M hash (cU W.1 0 M 1 (M - 1))
def ic (M:Nat)(hash:Int)(D:aY):aY × Int:=formB M hash (cU D 0 M 0 1)
theorem jU (x:Int):IntKind.i64.wrap x=wrap64 x:=by rw[IntKind.wrap_i64];unfold wrap64;omega
theorem arneg_any (a:Int)(w:World):Ca 306 #[I a] w fun e w'=>e=.returned (I (wrap64 (-a)))/\w=w':=by
 have hw:=jU (-a);go_enter Tryz.func306,Tryz.ntmps306;go_wp2;go_ret;exact⟨rfl,rfl⟩
theorem aradd_any (a b:Int)(w:World):Ca 308 #[I a,I b] w fun e w'=>e=.returned (I (wrap64 (a+b)))/\w=w':=by
 have hw:=jU (a+b);go_enter Tryz.func308,Tryz.ntmps308;go_wp2;go_ret;exact⟨rfl,rfl⟩
theorem arsub_any (a b:Int)(w:World):Ca 309 #[I a,I b] w fun e w'=>e=.returned (I (wrap64 (a - b)))/\w=w':=by
 have hw:=jU (a - b);go_enter Tryz.func309,Tryz.ntmps309;go_wp2;go_ret;exact⟨rfl,rfl⟩
theorem armul_any (a b:Int)(w:World):Ca 310 #[I a,I b] w fun e w'=>e=.returned (I (wrap64 (a * b)))/\w=w':=by
 have hw:=jU (a * b);go_enter Tryz.func310,Tryz.ntmps310;go_wp2;go_ret;exact⟨rfl,rfl⟩
theorem pz (b:Bool)(w:World):Ca 307 #[.bool b] w fun e w'=>e=.returned (I (dm b))/\w=w':=by
 cases b <;>
 (go_enter Tryz.func307,Tryz.ntmps307
  go_wp2;go_ret;exact⟨rfl,rfl⟩)
theorem ardiv_any (a b:Int)(w:World)(ha:In64 a):Ca 311 #[I a,I b] w fun e w'=>e=.returned (I (divK a b))/\w=w':=by
 have hin:In64 (divK a b):=mi ha
 by_cases h0:b=0
 · subst h0;rw[show divK a 0=0 from by unfold divK;rw[if_pos rfl]];clear hin;go_enter Tryz.func311,Tryz.ntmps311;go_wp2;go_ret;exact⟨rfl,rfl⟩
 · by_cases h1:b=-1
   · subst h1;rw[show divK a (-1)=wrap64 (-a) from by unfold divK;rw[if_neg aS,if_pos rfl]];have hw:=jU (-a);clear hin;go_enter Tryz.func311,Tryz.ntmps311;go_wp2;go_ret;exact⟨rfl,rfl⟩
   · have hd:divK a b=a.tdiv b:=by unfold divK;rw[if_neg h0,if_neg h1]
     rw[hd] at hin ⊢;have hw:=IntWalk.i64_in _ hin;have b0:(b == 0)=false:=by rw[ae];exact h0
     have b1:(b == -1)=false:=by rw[ae];exact h1
     clear hin hd;go_enter Tryz.func311,Tryz.ntmps311;go_wp2;go_ret;exact⟨rfl,rfl⟩
theorem armod_any (a b:Int)(w:World)(ha:In64 a):Ca 312 #[I a,I b] w fun e w'=>e=.returned (I (modK a b))/\w=w':=by
 have hd:=fun w=>ardiv_any a b w ha
 have h1:=jU (divK a b * b);have h2:=jU (a - wrap64 (divK a b * b));unfold modK;generalize wrap64 (a - wrap64 (divK a b * b))=R at *;generalize wrap64 (divK a b * b)=x2 at *;generalize divK a b=x1 at *;clear ha;go_enter Tryz.func312,Tryz.ntmps312;go_wp2_with (first | (go_at_call 311;go_call (hd _) as e w1 ⟨rfl,rfl⟩) | fail);go_ret;exact⟨rfl,rfl⟩
theorem arone_any (op a:Int)(w:World)(ho:op=5\/op=6):Ca 287 #[I op,I a] w fun e w'=>e=.returned (.tuple #[I (oneK op a),.bool true])/\w=w':=by
 have hn:=arneg_any;have hf:=pz;rcases ho with rfl | rfl
 · rw[show oneK 5 a=wrap64 (-a) from rfl];go_enter Tryz.func287,Tryz.ntmps287;go_wp2_with (first | (go_at_call 306;go_call (hn _ _) as e w1 ⟨rfl,rfl⟩) | fail);go_ret2;exact⟨rfl,rfl⟩
 · rw[show oneK 6 a=dm (a == 0) from rfl];go_enter Tryz.func287,Tryz.ntmps287;go_wp2_with (first | (go_at_call 307;go_call (hf _ _) as e w1 ⟨rfl,rfl⟩) | fail);go_ret2;exact⟨rfl,rfl⟩
def cmpB (op a b:Int):Bool:=if op=12 then a == b else if op=13 then a != b else if op=14 then decide (a<b) else if op=15 then decide (a<=b) else if op=16 then decide (b<a) else decide (b<=a)
def logB (op:Int)(a b:Bool):Bool:=if op=18 then a && b else if op=19 then a || b else a != b
theorem arcmp_any (op a b:Int)(w:World)(ho:12<=op/\op<=17):Ca 313 #[I op,I a,I b] w fun e w'=>e=.returned (.bool (cmpB op a b))/\w=w':=by
 rcases (show op=12\/op=13\/op=14\/op=15\/op=16\/op=17 by omega) with rfl | rfl | rfl | rfl | rfl | rfl
 all_goals
  go_enter Tryz.func313,Tryz.ntmps313;go_wp2;go_ret;exact⟨by first | rfl | (unfold cmpB;simp),rfl⟩
theorem arlog_any (op:Int)(a b:Bool)(w:World)(ho:18<=op/\op<=20):Ca 314 #[I op,.bool a,.bool b] w fun e w'=>e=.returned (.bool (logB op a b))/\w=w':=by
 rcases (show op=18\/op=19\/op=20 by omega) with rfl | rfl | rfl
 all_goals
  cases a <;> cases b <;>
  (go_enter Tryz.func314,Tryz.ntmps314
   go_wp2;go_ret;exact⟨by first | rfl | (unfold logB;simp),rfl⟩)
theorem ardo_any (op a b:Int)(w:World)(ho:7<=op/\op<=20)(ha:In64 a):Ca 288 #[I op,I a,I b] w fun e w'=>e=.returned (.tuple #[I (doK op a b),.bool true])/\w=w':=by
 have c7:=aradd_any a b;have c8:=arsub_any a b;have c9:=armul_any a b;have c10:=fun w=>ardiv_any a b w ha
 have c11:=fun w=>armod_any a b w ha
 have hf:=pz;have hc:=fun (o:Int) (h:12<=o/\o<=17) w=>arcmp_any o a b w h
 have hl:=fun (o:Int) (h:18<=o/\o<=20) w=>arlog_any o (a != 0) (b != 0) w h
 rcases (show op=7\/op=8\/op=9\/op=10\/op=11\/op=12\/op=13\/op=14\/op=15\/op=16\/op=17\/op=18\/op=19\/op=20 by omega) with rfl | rfl | rfl | rfl | rfl | rfl | rfl | rfl | rfl | rfl | rfl | rfl | rfl | rfl
 · rw[show doK 7 a b=wrap64 (a+b) from rfl];go_enter Tryz.func288,Tryz.ntmps288;go_wp2_with (first | (go_at_call 308;go_call (c7 _) as e w1 ⟨rfl,rfl⟩) | fail);go_ret2;exact⟨rfl,rfl⟩
 · rw[show doK 8 a b=wrap64 (a - b) from rfl];go_enter Tryz.func288,Tryz.ntmps288;go_wp2_with (first | (go_at_call 309;go_call (c8 _) as e w1 ⟨rfl,rfl⟩) | fail);go_ret2;exact⟨rfl,rfl⟩
 · rw[show doK 9 a b=wrap64 (a * b) from rfl];go_enter Tryz.func288,Tryz.ntmps288;go_wp2_with (first | (go_at_call 310;go_call (c9 _) as e w1 ⟨rfl,rfl⟩) | fail);go_ret2;exact⟨rfl,rfl⟩
 · rw[show doK 10 a b=divK a b from rfl];go_enter Tryz.func288,Tryz.ntmps288;go_wp2_with (first | (go_at_call 311;go_call (c10 _) as e w1 ⟨rfl,rfl⟩) | fail);go_ret2;exact⟨rfl,rfl⟩
 · rw[show doK 11 a b=modK a b from rfl];go_enter Tryz.func288,Tryz.ntmps288;go_wp2_with (first | (go_at_call 312;go_call (c11 _) as e w1 ⟨rfl,rfl⟩) | fail);go_ret2;exact⟨rfl,rfl⟩
 · have hc1:=hc 12 aS;rw[show doK 12 a b=dm (cmpB 12 a b) from rfl];clear c7 c8 c9 c10 c11 hc hl;generalize cmpB _ a b=B at *;go_enter Tryz.func288,Tryz.ntmps288;go_wp2_with (first | (go_at_call 313;go_call (hc1 _) as e w1 ⟨rfl,rfl⟩) | (go_at_call 307;go_call (hf _ _) as e w2 ⟨rfl,rfl⟩) | fail);go_ret2;exact⟨rfl,rfl⟩
 · have hc1:=hc 13 aS;rw[show doK 13 a b=dm (cmpB 13 a b) from rfl];clear c7 c8 c9 c10 c11 hc hl;generalize cmpB _ a b=B at *;go_enter Tryz.func288,Tryz.ntmps288;go_wp2_with (first | (go_at_call 313;go_call (hc1 _) as e w1 ⟨rfl,rfl⟩) | (go_at_call 307;go_call (hf _ _) as e w2 ⟨rfl,rfl⟩) | fail);go_ret2;exact⟨rfl,rfl⟩
 · have hc1:=hc 14 aS;rw[show doK 14 a b=dm (cmpB 14 a b) from rfl];clear c7 c8 c9 c10 c11 hc hl;generalize cmpB _ a b=B at *;go_enter Tryz.func288,Tryz.ntmps288;go_wp2_with (first | (go_at_call 313;go_call (hc1 _) as e w1 ⟨rfl,rfl⟩) | (go_at_call 307;go_call (hf _ _) as e w2 ⟨rfl,rfl⟩) | fail);go_ret2;exact⟨rfl,rfl⟩
 · have hc1:=hc 15 aS;rw[show doK 15 a b=dm (cmpB 15 a b) from rfl];clear c7 c8 c9 c10 c11 hc hl;generalize cmpB _ a b=B at *;go_enter Tryz.func288,Tryz.ntmps288;go_wp2_with (first | (go_at_call 313;go_call (hc1 _) as e w1 ⟨rfl,rfl⟩) | (go_at_call 307;go_call (hf _ _) as e w2 ⟨rfl,rfl⟩) | fail);go_ret2;exact⟨rfl,rfl⟩
 · have hc1:=hc 16 aS;rw[show doK 16 a b=dm (cmpB 16 a b) from rfl];clear c7 c8 c9 c10 c11 hc hl;generalize cmpB _ a b=B at *;go_enter Tryz.func288,Tryz.ntmps288;go_wp2_with (first | (go_at_call 313;go_call (hc1 _) as e w1 ⟨rfl,rfl⟩) | (go_at_call 307;go_call (hf _ _) as e w2 ⟨rfl,rfl⟩) | fail);go_ret2;exact⟨rfl,rfl⟩
 · have hc1:=hc 17 aS;rw[show doK 17 a b=dm (cmpB 17 a b) from rfl];clear c7 c8 c9 c10 c11 hc hl;generalize cmpB _ a b=B at *;go_enter Tryz.func288,Tryz.ntmps288;go_wp2_with (first | (go_at_call 313;go_call (hc1 _) as e w1 ⟨rfl,rfl⟩) | (go_at_call 307;go_call (hf _ _) as e w2 ⟨rfl,rfl⟩) | fail);go_ret2;exact⟨rfl,rfl⟩
 · have hl1:=hl 18 aS;rw[show doK 18 a b=dm (logB 18 (a != 0) (b != 0)) from rfl];clear c7 c8 c9 c10 c11 hc hl;generalize logB _ (a != 0) (b != 0)=B at *;go_enter Tryz.func288,Tryz.ntmps288;go_wp2_with (first | (go_at_call 314;go_call (hl1 _) as e w1 ⟨rfl,rfl⟩) | (go_at_call 307;go_call (hf _ _) as e w2 ⟨rfl,rfl⟩) | fail);go_ret2;exact⟨rfl,rfl⟩
 · have hl1:=hl 19 aS;rw[show doK 19 a b=dm (logB 19 (a != 0) (b != 0)) from rfl];clear c7 c8 c9 c10 c11 hc hl;generalize logB _ (a != 0) (b != 0)=B at *;go_enter Tryz.func288,Tryz.ntmps288;go_wp2_with (first | (go_at_call 314;go_call (hl1 _) as e w1 ⟨rfl,rfl⟩) | (go_at_call 307;go_call (hf _ _) as e w2 ⟨rfl,rfl⟩) | fail);go_ret2;exact⟨rfl,rfl⟩
 · have hl1:=hl 20 aS;rw[show doK 20 a b=dm (logB 20 (a != 0) (b != 0)) from rfl];clear c7 c8 c9 c10 c11 hc hl;generalize logB _ (a != 0) (b != 0)=B at *;go_enter Tryz.func288,Tryz.ntmps288;go_wp2_with (first | (go_at_call 314;go_call (hl1 _) as e w1 ⟨rfl,rfl⟩) | (go_at_call 307;go_call (hf _ _) as e w2 ⟨rfl,rfl⟩) | fail);go_ret2;exact⟨rfl,rfl⟩
def bo (b:Bool):Value:=.bool b
def lkC (x:PA)(p:PV)(K:Option Addr)(nk ck:Nat)(O:Option Addr)(no co:Nat)(past:Int)(bad:Bool):List Value :=
 [.slice x.A1 x.n1 x.c1,.slice x.A2 x.n2 x.c2,I p.regs,.slice x.A3 x.n3 x.c3,.slice x.A4 x.n4 x.c4,.slice K nk ck,.slice O no co,I past,.bool bad]
def LkAt (w:World)(base g:Nat)(x:PA)(p:PV)(s:LkV):Prop :=
 ∃ K nk ck O no co,Blk w g 231 (lkC x p K nk ck O no co s.past s.bad)/\base<=g/\Ow iv w base 3 K nk ck s.kinds/\Ow bo w base 4 O no co s.outs
theorem eI {α:Type}{enc:α->Value}{w:World}{g:Nat}{A:Option Addr}{l:List α}(h:Ow enc w base t A n c l)(hg:A.map (·.block)=some g):∃ cs,Blk w g t cs:=by
 rcases h.2.2 with ⟨hv,_⟩ | ⟨g',cap,cur,hv,_,hh,_⟩
 · injection hv with hv;subst hv;cases hg
 · injection hv with hv;subst hv;simp only[Option.map_some,Option.some.injEq] at hg;subst hg;exact⟨cur.toList,by unfold Blk;rw[hh]⟩
section
variable {w w':World} {base g:Nat} {x:PA} {p:PV} {s:LkV}
def lkMut:List TypeId:=[231,3,4]
def Stay (w w':World):Prop:=∀ g t cs,t ∉ lkMut->Blk w g t cs->Blk w' g t cs
theorem Stay.refl (w:World):Stay w w:=fun _ _ _ _ h=>h
theorem Stay.trans {w1 w2 w3:World}(h:Stay w1 w2)(k:Stay w2 w3):Stay w1 w3:=fun g t cs ht hb=>k g t cs ht (h g t cs ht hb)
theorem Stay.set {g:Nat}{cs:List Value}(hb:Blk w g t cs)(ht:t ∈ lkMut)(i:Nat)(u:Value):Stay w (w.setCell ⟨g,i,none⟩ u):=fun g' t' cs' ht' hb'=>hb'.far (p:=⟨g,i,none⟩) (fun e=>hb'.ne_ hb (fun e'=>ht' (by rw[e'];exact ht)) e) _
theorem Stay.of_below (hb:Below w.heap.size w w'):Stay w w':=fun g t cs _ h=>h.below hb h.lt
def eq (w:World)(base g:Nat)(x:PA)(p:PV)(s':LkV)(v:Option Int)(e:Ending)(w':World):Prop :=
 e=.returned (match v with | none=>.tuple #[] | some n=>.int .i64 n)/\LkAt w' base g x p s'/\Below base w w'/\Stay w w'
theorem fe (h:LkAt w base g x p s)(b:Bool):Ca 274 #[.pointer (some ⟨g,0,none⟩),.bool b] w (eq w base g x p (cL s b) none):=by
 obtain⟨K,nk,ck,O,no,co,hb,hg,hk,ho⟩:=h;have c8:=hb.c8;have f8:=hb.frozen 8;have hl:=hb.lt;have HB:=aT hb;have HK:=aT hk;have HO:=aT ho;clear hb hk ho
 cases hs:s.bad with
 | true=>
   rw[hs] at c8;go_enter Tryz.func274,Tryz.ntmps274;go_wp2;go_end0;refine⟨rfl,⟨K,nk,ck,O,no,co,?_,hg,HK.out.setFar HB.out aU 8 _,HO.out.setFar HB.out aU 8 _⟩,(Below.refl _ _).setCell hg _,Stay.set HB.out aU _ _⟩;have:=HB.out.set_ 8 (.bool true);simpa [lkC,cL,hs] using this
 | false=>
   rw[hs] at c8;go_enter Tryz.func274,Tryz.ntmps274;go_wp2;go_end0;refine⟨rfl,⟨K,nk,ck,O,no,co,?_,hg,HK.out.setFar HB.out aU 8 _,HO.out.setFar HB.out aU 8 _⟩,(Below.refl _ _).setCell hg _,Stay.set HB.out aU _ _⟩;have:=HB.out.set_ 8 (.bool (!b));simpa [lkC,cL,hs] using this
theorem fP (h:LkAt w base g x p s)(n:Int):Ca 275 #[.pointer (some ⟨g,0,none⟩),I n] w (eq w base g x p (cZ s n).1 (some (cZ s n).2)):=by
 obtain⟨K,nk,ck,O,no,co,hb,hg,hk,ho⟩:=h;have c5:=hb.c5;have c8:=hb.c8;have f8:=hb.frozen 8;have hl:=hb.lt;have hkl:=hk.1;have HB:=aT hb;have HK:=aT hk;have HO:=aT ho;have HKL:=aT hkl;have hbad:∀ W,W=w.setCell ⟨g,8,none⟩ (.bool true)->eq w base g x p { s with bad:=true } (some 0) (.returned (I 0)) W:=fun W e=>by
  subst e;refine⟨rfl,⟨K,nk,ck,O,no,co,?_,hg,HK.out.setFar HB.out aU 8 _,HO.out.setFar HB.out aU 8 _⟩,(Below.refl _ _).setCell hg _,Stay.set HB.out aU _ _⟩;have:=HB.out.set_ 8 (.bool true);simpa [lkC] using this
 have HBAD:=aT hbad;unfold cZ;rw[hkl];clear hb hk ho hbad hkl
 by_cases h1:n<0
 · rw[if_pos (.inl h1)];go_enter Tryz.func275,Tryz.ntmps275;go_wp2;go_ret;exact HBAD.out _ rfl
 by_cases h2:(nk:Int)<=n
 · rw[if_pos (.inr (.inl h2))];go_enter Tryz.func275,Tryz.ntmps275;go_wp2;go_ret;exact HBAD.out _ rfl
 obtain⟨m,rfl⟩:∃ m:Nat,n=m:=⟨n.toNat,aS⟩;have hm:m<nk:=aS;obtain⟨b1,o1,hK,hb1,hc⟩:=HK.out.rd.2.at_ hm;have hml:m<s.kinds.length:=by rw[HKL.out];exact hm
 rw[gX s.kinds m hml] at hc;have hka:kAt s.kinds (m:Int)=s.kinds[m]:=by
  unfold kAt;rw[if_neg aS,av,ag,ap hml];rfl
 rw[hka];generalize s.kinds[m]=kk at *;have hcc:w.cell? ⟨b1,o1+m,none⟩=some (I kk):=hc;clear hc hka hml;have SK:=aT hK
 by_cases h3:kk=0
 · subst h3;rw[if_pos (.inr (.inr rfl))];subst hK;go_enter Tryz.func275,Tryz.ntmps275;go_wp2;go_ret;exact HBAD.out _ rfl
 · have hne:(kk == 0)=false:=by rw[ae];exact h3
   rw[if_neg aS];clear h3;subst hK;go_enter Tryz.func275,Tryz.ntmps275;go_wp2;go_ret;exact⟨rfl,⟨_,nk,ck,O,no,co,HB.out,hg,HK.out,HO.out⟩,Below.refl _ _,Stay.refl _⟩
theorem fQ (h:LkAt w base g x p s)(n kind:Int):Ca 273 #[.pointer (some ⟨g,0,none⟩),I n,I kind] w (eq w base g x p (fp s n kind) none):=by
 obtain⟨K,nk,ck,O,no,co,hb,hg,hk,ho⟩:=h;have c5:=hb.c5;have c8:=hb.c8;have f8:=hb.frozen 8;have hl:=hb.lt;have hkl:=hk.1;have HB:=aT hb;have HK:=aT hk;have HO:=aT ho;have HKL:=aT hkl;have hbad:∀ W,W=w.setCell ⟨g,8,none⟩ (.bool true)->eq w base g x p { s with bad:=true } none (.returned (.tuple #[])) W:=fun W e=>by
  subst e;refine⟨rfl,⟨K,nk,ck,O,no,co,?_,hg,HK.out.setFar HB.out aU 8 _,HO.out.setFar HB.out aU 8 _⟩,(Below.refl _ _).setCell hg _,Stay.set HB.out aU _ _⟩;have:=HB.out.set_ 8 (.bool true);simpa [lkC] using this
 have HBAD:=aT hbad;unfold fp;rw[hkl];clear hb hk ho hbad hkl
 by_cases h1:n<0
 · rw[if_pos (.inl h1)];go_enter Tryz.func273,Tryz.ntmps273;go_wp2;go_end0;exact HBAD.out _ rfl
 by_cases h2:(nk:Int)<=n
 · rw[if_pos (.inr (.inl h2))];go_enter Tryz.func273,Tryz.ntmps273;go_wp2;go_end0;exact HBAD.out _ rfl
 obtain⟨m,rfl⟩:∃ m:Nat,n=m:=⟨n.toNat,aS⟩;have hm:m<nk:=aS;obtain⟨gk,hK,hgk,hgl⟩:=HK.out.addr aS;obtain⟨b1,o1,hK1,hb1,hc⟩:=HK.out.rd.2.at_ hm;rw[hK] at hK1;injection hK1 with hK1;injection hK1 with q1 q2 _;subst q1 q2;have hml:m<s.kinds.length:=by rw[HKL.out];exact hm
 rw[gX s.kinds m hml,aB] at hc;have hka:kAt s.kinds (m:Int)=s.kinds[m]:=by
  unfold kAt;rw[if_neg aS,av,ag,ap hml];rfl
 rw[hka];generalize s.kinds[m]=kk at *;have hcc:w.cell? ⟨gk,m,none⟩=some (I kk):=hc;have fm:=(show Ow iv w base 3 (some ⟨gk,0,none⟩) nk ck s.kinds from hK ▸ HK.out).free m;have hne9:gk≠g:=fun e=>by
  subst e;obtain⟨cs,hbk⟩:=eI (g:=gk) HK.out (by rw[hK];rfl);exact hbk.ne_ HB.out aU rfl
 clear hc hka hml
 by_cases h3:kk=0
 · subst h3;rw[if_neg aS];subst hK;go_enter Tryz.func273,Tryz.ntmps273;go_wp2;go_end0;obtain⟨cs,hbk⟩:=eI (g:=gk) HK.out rfl;exact⟨rfl,⟨_,nk,ck,O,no,co,HB.out.far (p:=⟨gk,m,none⟩) (fun e=>hne9 e.symm) _,hg,HK.out.set m kind _ rfl,HO.out.setFar hbk aU m _⟩,(Below.refl _ _).setCell hgk _,Stay.set hbk aU _ _⟩
 · have hne:(kk != 0)=true:=by rw[af];exact h3
   rw[if_pos (.inr (.inr h3))];clear h3;subst hK;go_enter Tryz.func273,Tryz.ntmps273;go_wp2;go_end0;exact HBAD.out _ rfl
theorem lkone_any (h:LkAt w base g x p s)(L:Option Addr)(nl cl:Nat)(l:List Int)(hL:RI w L nl l)(n:Int):Ca 277 #[.pointer (some ⟨g,0,none⟩),.slice L nl cl,I n] w (eq w base g x p (oneV s l n).1 (some (oneV s l n).2)):=by
 have hLK:=h;obtain⟨K,nk,ck,O,no,co,hb,hg,hk,ho⟩:=h;have c8:=hb.c8;have f8:=hb.frozen 8;have hl:=hb.lt;have hll:=hL.1;have HB:=aT hb;have HK:=aT hk;have HO:=aT ho;have HLK:=aT hLK;have hbad:∀ W,W=w.setCell ⟨g,8,none⟩ (.bool true)->eq w base g x p { s with bad:=true } (some 0) (.returned (I 0)) W:=fun W e=>by
  subst e;refine⟨rfl,⟨K,nk,ck,O,no,co,?_,hg,HK.out.setFar HB.out aU 8 _,HO.out.setFar HB.out aU 8 _⟩,(Below.refl _ _).setCell hg _,Stay.set HB.out aU _ _⟩;have:=HB.out.set_ 8 (.bool true);simpa [lkC] using this
 have HBAD:=aT hbad;unfold oneV;rw[hll];clear hb hk ho hbad hLK
 by_cases h1:n<0
 · rw[if_pos (.inl h1)];go_enter Tryz.func277,Tryz.ntmps277;go_wp2;go_ret;exact HBAD.out _ rfl
 by_cases h2:(nl:Int)<=n
 · rw[if_pos (.inr h2)];go_enter Tryz.func277,Tryz.ntmps277;go_wp2;go_ret;exact HBAD.out _ rfl
 rw[if_neg aS];obtain⟨m,rfl⟩:∃ m:Nat,n=m:=⟨n.toNat,aS⟩;obtain⟨b1,o1,hL1,hb1,hc⟩:=hL.at_ (k:=m) aS;have hka:kAt l (m:Int)=ba l m:=by
  unfold kAt ba;rw[if_neg aS,av]
 rw[hka];subst hL1;go_enter Tryz.func277,Tryz.ntmps277;go_wp2;go_ret;exact⟨rfl,HLK.out,Below.refl _ _,Stay.refl _⟩
theorem pA (h:LkAt w base g x p s)(hp:bZ w x p)(n:Int):Ca 276 #[.pointer (some ⟨g,0,none⟩),I n] w (eq w base g x p (cellV p s n).1 (some (cellV p s n).2)):=by
 have hLK:=h;obtain⟨K,nk,ck,O,no,co,hb,hg,hk,ho⟩:=h;have c3:=hb.c3;have c8:=hb.c8;have f8:=hb.frozen 8;have hl:=hb.lt;have hll:=hp.r3.1;have HB:=aT hb;have HK:=aT hk;have HO:=aT ho;have HLK:=aT hLK;have HP:=aT hp;have hbad:∀ W,W=w.setCell ⟨g,8,none⟩ (.bool true)->eq w base g x p { s with bad:=true } (some 0) (.returned (I 0)) W:=fun W e=>by
  subst e;refine⟨rfl,⟨K,nk,ck,O,no,co,?_,hg,HK.out.setFar HB.out aU 8 _,HO.out.setFar HB.out aU 8 _⟩,(Below.refl _ _).setCell hg _,Stay.set HB.out aU _ _⟩;have:=HB.out.set_ 8 (.bool true);simpa [lkC] using this
 have HBAD:=aT hbad;unfold cellV;rw[hll];clear hb hk ho hbad hLK hp
 by_cases h1:n<0
 · rw[if_pos (.inl h1)];go_enter Tryz.func276,Tryz.ntmps276;go_wp2;go_ret;exact HBAD.out _ rfl
 by_cases h2:(x.n3:Int)<=n
 · rw[if_pos (.inr h2)];go_enter Tryz.func276,Tryz.ntmps276;go_wp2;go_ret;exact HBAD.out _ rfl
 rw[if_neg aS];obtain⟨m,rfl⟩:∃ m:Nat,n=m:=⟨n.toNat,aS⟩;obtain⟨b,o,y,hA,hbl,hx,hc⟩:=HP.out.r3.at_ gR aS (show m<x.n3 by omega);have h0:w.cell? ⟨b,o+m * 2,none⟩=some (I y.1):=hc 0 aS;rw[av,iT hx];rw[hA] at c3;clear hc hx;go_enter Tryz.func276,Tryz.ntmps276;go_wp2;go_ret;exact⟨rfl,HLK.out,Below.refl _ _,Stay.refl _⟩
end
structure TA where
 Ar:Option Addr
 nr:Nat
 cr:Nat
 Ac:Option Addr
 nc:Nat
 cc:Nat
 An:Option Addr
 nn:Nat
 cn:Nat
 Ai:Option Addr
 ni:Nat
 ci:Nat
 Ao:Option Addr
 no:Nat
 co:Nat
def tickC (a:TA):List Value:=[.slice a.Ar a.nr a.cr,.slice a.Ac a.nc a.cc,.slice a.An a.nn a.cn,.slice a.Ai a.ni a.ci,.slice a.Ao a.no a.co]
structure du (w0 w:World)(g:Nat)(a:TA)(cells ins:List Int)(s:VS):Prop where
 bel:Below w0.heap.size w0 w
 t:Blk w g 348 (tickC a)
 gl:w0.heap.size<=g
 r:Ow iv w w0.heap.size 3 a.Ar a.nr a.cr s.regs
 n:Ow iv w w0.heap.size 3 a.An a.nn a.cn s.next
 o:Ow iv w w0.heap.size 3 a.Ao a.no a.co s.out
 c:RI w0 a.Ac a.nc cells
 i:RI w0 a.Ai a.ni ins
 rn:∀ b,a.Ar.map (·.block)=some b->a.An.map (·.block)≠some b
 ro:∀ b,a.Ar.map (·.block)=some b->a.Ao.map (·.block)≠some b
 no_:∀ b,a.An.map (·.block)=some b->a.Ao.map (·.block)≠some b
theorem Ow.kp {α:Type}{enc:α->Value}{F:Nat->Prop}{w w':World}{b:Nat}{B:Option Addr}{l:List α}(h:Ow enc w b t B n c l)(k:Keep F w w')(hF:∀ g,B.map (·.block)=some g->¬ F g):Ow enc w' b t B n c l :=
 ⟨h.1,gY h.2 k (fun g e=>hF g (by cases B with | none=>cases e | some a=>simpa [Value.ownBlock] using e))⟩
section
variable {w0 w w':World} {g:Nat} {a:TA} {cells ins:List Int} {s:VS}
theorem du.below (h:du w0 w g a cells ins s)(hb:Below w.heap.size w w'):du w0 w' g a cells ins s :=
 ⟨h.bel.trans (hb.mono h.bel.size),h.t.below hb h.t.lt,h.gl,h.r.below hb aV,h.n.below hb aV,h.o.below hb aV,h.c,h.i,h.rn,h.ro,h.no_⟩
theorem du.drew (h:du w0 w g a cells ins s):du w0 w.drew g a cells ins s:=h.below (Below.drew (Below.refl _ _))
theorem du.setR (h:du w0 w g a cells ins s)(hA:a.Ar=some ⟨gr,0,none⟩)(j:Nat)(v:Int)(u:Value)(hu:u=I v)(s':VS)(h1:s'.regs=putK s.regs (j:Nat) v)(h2:s'.next=s.next)(h3:s'.out=s.out):du w0 (w.setCell ⟨gr,j,none⟩ u) g a cells ins s':=by
 subst hu;have hr:=h.r;rw[hA] at hr;obtain⟨cs,hb⟩:=eI (g:=gr) hr rfl;have k:Keep (·=gr) w (w.setCell ⟨gr,j,none⟩ (I v)):=Keep.one (ec _);have hg:=hr.lt gr rfl;refine⟨h.bel.trans (k.below (fun b e=>by rw[e];exact hg.1) h.bel.size),h.t.keep k (fun e=>h.t.ne_ hb aU e),h.gl,?_,by rw[h2];exact h.n.kp k (fun b e q=>h.rn gr (by rw[hA];rfl) (by rw[e,q])),by rw[h3];exact h.o.kp k (fun b e q=>h.ro gr (by rw[hA];rfl) (by rw[e,q])),h.c,h.i,h.rn,h.ro,h.no_⟩;rw[hA,h1];have:=hr.set j v (I v) rfl;simpa [putK] using this
theorem du.setN (h:du w0 w g a cells ins s){gn:Nat}(hA:a.An=some ⟨gn,0,none⟩)(j:Nat)(v:Int)(u:Value)(hu:u=I v)(s':VS)(h1:s'.next=putK s.next (j:Nat) v)(h2:s'.regs=s.regs)(h3:s'.out=s.out):du w0 (w.setCell ⟨gn,j,none⟩ u) g a cells ins s':=by
 subst hu;have hr:=h.n;rw[hA] at hr;obtain⟨cs,hb⟩:=eI (g:=gn) hr rfl;have k:Keep (·=gn) w (w.setCell ⟨gn,j,none⟩ (I v)):=Keep.one (ec _);have hg:=hr.lt gn rfl;refine⟨h.bel.trans (k.below (fun b e=>by rw[e];exact hg.1) h.bel.size),h.t.keep k (fun e=>h.t.ne_ hb aU e),h.gl,by rw[h2];exact h.r.kp k (fun b e q=>h.rn gn (by rw[<- q];exact e) (by rw[hA];rfl)),?_,by rw[h3];exact h.o.kp k (fun b e q=>h.no_ gn (by rw[hA];rfl) (by rw[e,q])),h.c,h.i,h.rn,h.ro,h.no_⟩;rw[hA,h1];have:=hr.set j v (I v) rfl;simpa [putK] using this
theorem du.setO (h:du w0 w g a cells ins s){go:Nat}(hA:a.Ao=some ⟨go,0,none⟩)(j:Nat)(v:Int)(u:Value)(hu:u=I v)(s':VS)(h1:s'.out=putK s.out (j:Nat) v)(h2:s'.regs=s.regs)(h3:s'.next=s.next):du w0 (w.setCell ⟨go,j,none⟩ u) g a cells ins s':=by
 subst hu;have hr:=h.o;rw[hA] at hr;obtain⟨cs,hb⟩:=eI (g:=go) hr rfl;have k:Keep (·=go) w (w.setCell ⟨go,j,none⟩ (I v)):=Keep.one (ec _);have hg:=hr.lt go rfl;refine⟨h.bel.trans (k.below (fun b e=>by rw[e];exact hg.1) h.bel.size),h.t.keep k (fun e=>h.t.ne_ hb aU e),h.gl,by rw[h2];exact h.r.kp k (fun b e q=>h.ro go (by rw[<- q];exact e) (by rw[hA];rfl)),by rw[h3];exact h.n.kp k (fun b e q=>h.no_ go (by rw[<- q];exact e) (by rw[hA];rfl)),?_,h.c,h.i,h.rn,h.ro,h.no_⟩;rw[hA,h1];have:=hr.set j v (I v) rfl;simpa [putK] using this
theorem ky {l:List Int}(h:Ow iv w base 3 (some ⟨gr,0,none⟩) n c l){j:Nat}(hj:j<n):w.cell? ⟨gr,j,none⟩=some (I (ba l j)):=by
 obtain⟨b,o,e,_,hc⟩:=h.rd.ri.at_ hj;injection e with e;injection e with e1 e2 _;subst e1 e2
 rwa [aB] at hc
end
