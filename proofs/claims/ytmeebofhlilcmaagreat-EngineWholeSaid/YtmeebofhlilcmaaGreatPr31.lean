/- Parts. -/
import Derived.Test.YtmeebofhlilcmaaGreatPr30
set_option linter.unusedVariables false
set_option linter.unusedSimpArgs false
set_option maxRecDepth 100000
set_option maxHeartbeats 0
namespace Go.Proofs.YtmeebofhlilcmaaGreat
variable {c':Nat}
open Go.RowKit
section
variable {p:PV} {H m c:Nat} {pace ran:Int} {D D':aX} {E:EgV} {rows:List (List Int)} {N N':Secs} {kS:Nat} {s:SlV3} {n:Nat} {last:Int} {is:List Int}
theorem Good.mono {k:Nat}{all:List (List Int)}(h:Good p H m c pace k all ran N)(hc:c<=c'):Good p H m c' pace k all ran N:=by
 obtain⟨kS,s,n,last,is,r1,r2,r3,r4,r5⟩:=h.rest;exact⟨h.root,h.rok,h.le,h.fit,h.feed,kS,s,n,last,is,r1,r2,r3,aS,r5⟩
theorem Mid.more (h:Mid p H m c D E rows N kS s n last is)(hc:c<=c'):Mid p H m c' D E rows N kS s n last is :=
 ⟨h.pow,h.big,h.wl,h.root,h.feed,h.rok,h.sink,h.kp,h.kc,ag h.nc hc,h.ek,h.nin,h.no,h.t0,h.t1,h.ce,h.p0,h.p1,h.ts,h.sl,h.off,h.put⟩
theorem Mid.repTo (h:Mid p H m c D E rows N kS s n last is)(r:Int):Mid p H m c D { E with replayed:=r } rows N kS s n last is :=
 ⟨h.pow,h.big,h.wl,h.root,h.feed,h.rok,h.sink,h.kp,h.kc,h.nc,h.ek,h.nin,h.no,h.t0,h.t1,h.ce,h.p0,h.p1,h.ts,h.sl,h.off,h.put⟩
theorem Mid.ofRest (hr:Rest D N)(big:11+2 * m<=D.many)(root:N 0=bT 1 H [])(feed:Jrn N 11 m 3 (cI p.ins rows))(rok:eN p.ins rows)(sink:Jrn N (11+m) m 4 (cI p.outs (cN p rows E.nOut)))(kp:KpN p (H:Int) N s n last is)
 (kc:0<n->is=de p rows last.toNat/\0<=last/\last<=(E.nOut:Int)) (nc:n<=c) (ek:E.k=kOf (H:Int) s n last is) (nin:E.nIn=rows.length) (no:E.nOut<=rows.length) (t0:0<=E.tick) (t1:E.tick<=(E.nOut:Int)) (ce:E.cells=de p rows E.tick.toNat)
 (p0:0<=E.passed) (p1:E.passed<=E.tick) (ts:E.tick<=dG n last+E.passed) (sl:dG n last<=E.tick) (off:E.off=false):Mid p H m c D E rows N E.nOut s n last is:=by
 refine⟨hr.pow (fun j hj=>?_),big,by rw[hr.waits];simp,root,feed,rok,sink,kp,kc,nc,ek,nin,no,t0,t1,ce,p0,p1,ts,sl,off,fun _=>hr.waits⟩;unfold gP
 split
 · rename_i q;have:=sink.secA (more:=cI p.outs ((cN p rows rows.length).drop E.nOut)) (n:=j - (11+m)) aS;rw[<- ny p rows no,fN,jn,show 11+m+(j - (11+m))=j by omega] at this;exact this
 · rfl
theorem eone_off (m:Nat)(p:PV)(D:aX)(E:EgV):(bL m p D E).2.1.off=E.off/\(bL m p D E).2.1.nIn=E.nIn:=by
 unfold bL iX
 split
 · exact⟨rfl,rfl⟩
 unfold eOneB
 split
 · exact⟨rfl,rfl⟩
 unfold ia
 split <;> exact⟨rfl,rfl⟩
theorem esave_off (p:PV)(hash:Int)(D:aX)(E:EgV):(dv p hash D E).2.1.off=E.off/\(dv p hash D E).2.1.nIn=E.nIn:=by
 unfold dv jj
 split
 · exact⟨rfl,rfl⟩
 unfold ji
 split <;> exact⟨rfl,rfl⟩
theorem jAddV_next (D:aX)(f m:Nat)(kind:Int)(next:Nat)(l:List UInt8):(cP D f m kind next l).2.2.2=0->(cP D f m kind next l).2.1=next+1:=by
 unfold cP
 split
 · intro e;simp at e
 split
 · intro e;simp at e
 split
 · rename_i q;intro e;exact absurd e q
 · intro _;rfl
theorem eone_at {m:Nat}{p:PV}{D:aX}{E:EgV}(h:(bL m p D E).2.2=0)(ht:E.tick<=(E.nOut:Int))(hat:E.tick=(E.nOut:Int)):(bL m p D E).2.1.tick=((bL m p D E).2.1.nOut:Int):=by
 unfold bL at h ⊢;unfold iX at h ⊢
 split at h
 · rename_i q;exact absurd h q
 rename_i q1;rw[if_neg q1];unfold eOneB at h ⊢
 split at h
 · rename_i q;exact absurd h q
 rename_i q2;rw[if_neg q2];generalize eO p E.cells (dD D 11 m 3 E.nIn p.ins E.tick).2.1=T at *;generalize (dD D 11 m 3 E.nIn p.ins E.tick).1=D1 at *;have hp:(fe D1 (11+m) m 4 E.nOut p.outs E.tick T.2.1).2.2.2=0->(fe D1 (11+m) m 4 E.nOut p.outs E.tick T.2.1).2.1=E.nOut+1:=by
  have J:=jAddV_next D1 (11+m) m 4 E.nOut (rowB p.outs T.2.1 p.outs.length);unfold fe;rw[if_neg aS]
  split
  · intro e;simp at e
  rw[if_neg aS];generalize cP D1 (11+m) m 4 E.nOut (rowB p.outs T.2.1 p.outs.length)=R at *
  split
  · rename_i q;intro e;exact absurd e q
  · rename_i q;intro _;exact J (by simpa using q)
 generalize fe D1 (11+m) m 4 E.nOut p.outs E.tick T.2.1=S at *;unfold ia at h ⊢
 split at h
 · rename_i q;exact absurd h q
 rename_i q3;rw[if_neg q3]
 show E.tick+1=((S.2.1:Nat):Int)
 rw[hp (by simpa using q3)];omega
structure On3 (p:PV)(H m c:Nat)(pace:Int)(D:aX)(E:EgV)(rows:List (List Int))(N:Secs)(kS:Nat)(s:SlV3)(n:Nat)(last:Int)(is:List Int):Prop where
 mid:Mid p H m c D E rows N kS s n last is
 waits:D.waits=[]
 put:E.put=false
 at_:E.tick=(E.nOut:Int)
 lt:E.passed<pace
def EgOn (p:PV)(H m c:Nat)(pace:Int)(D:aX)(E:EgV)(rows:List (List Int)):Prop:=∃ N kS s n last is,On3 p H m c pace D E rows N kS s n last is
theorem Mid.replGo (G:Prg p H m pace)(hr:ran<=dG n last+pace):∀ (f:Nat) {D:aX} {E:EgV} {N:Secs},Mid p H m c D E rows N kS s n last is->E.tick+(f:Int)=(rows.length:Int) ->
 ((eE m p f D E).2.2=0/\(∃ N',Mid p H m c (eE m p f D E).1 (eE m p f D E).2.1 rows N' kS s n last is)/\(eE m p f D E).2.1.tick=(rows.length:Int)/\(eE m p f D E).2.1.passed=E.passed+(f:Int)/\(eE m p f D E).2.1.replayed=E.replayed+(f:Int)/\(eE m p f D E).1.many=D.many/\(D.cut=-1->(eE m p f D E).1.cut=-1)) \/
 ((eE m p f D E).2.2=50/\Went D (eE m p f D E).1 (Good p H m c pace rows.length rows ran)):=by
 intro f
 induction f with
 | zero=>intro D E N h ht;exact .inl ⟨rfl,⟨N,h⟩,by show E.tick=_;omega,by show E.passed=_;omega,by show E.replayed=_;omega,rfl,fun q=>q⟩
 | succ f ih=>
   intro D E N h ht;have hun:eE m p (f+1) D E=if (bL m p D E).2.2≠0 then bL m p D E else eE m p f (bL m p D E).1 { (bL m p D E).2.1 with replayed:=(bL m p D E).2.1.replayed+1 }:=rfl;rw[hun];rcases h.one G aS hr with ⟨a1,⟨N1,a2⟩,a3,a4,a5,a6,a7⟩ | ⟨a1,a2,a3⟩
   · rw[if_neg (by rw[a1];simp)];rcases ih (a2.repTo ((bL m p D E).2.1.replayed+1)) (by show (bL m p D E).2.1.tick+_=_;rw[a3];omega) with ⟨b1,b2,b3,b4,b5,b6,b7⟩ | ⟨b1,b2⟩
     · refine .inl ⟨b1,b2,b3,?_,?_,b6.trans a6,fun q=>b7 (a7 q)⟩
       · rw[b4];show (bL m p D E).2.1.passed+_=_;rw[a4];omega
       · rw[b5];show (bL m p D E).2.1.replayed+1+_=_;rw[a5];omega
     · exact .inr ⟨b1,b2.trans a7 a6⟩
   · rw[if_pos (by rw[a1];simp)];exact .inr ⟨a1,a3⟩
theorem Mid.replay (G:Prg p H m pace)(h:Mid p H m c D E rows N kS s n last is)(hc:c<9000000000000000000)(hp:E.passed=0)(hr:ran<=dG n last+pace) :
 ((ep m p (H:Int) pace D E).2.2=0/\EgOn p H m (c+1) pace (ep m p (H:Int) pace D E).1 (ep m p (H:Int) pace D E).2.1 rows/\(ep m p (H:Int) pace D E).2.1.tick=(rows.length:Int)/\(ep m p (H:Int) pace D E).2.1.replayed=E.replayed+((rows.length:Int) - E.tick)/\(ep m p (H:Int) pace D E).1.many=D.many/\(D.cut=-1->(ep m p (H:Int) pace D E).1.cut=-1)) \/
 ((ep m p (H:Int) pace D E).2.2=50/\Went D (ep m p (H:Int) pace D E).1 (Good p H m (c+1) pace rows.length rows ran)):=by
 have gm:∀ N,Good p H m c pace rows.length rows ran N->Good p H m (c+1) pace rows.length rows ran N:=fun N g=>g.mono aS
 have hun:ep m p (H:Int) pace D E=jz p (H:Int) pace (eE m p ((E.nIn:Int) - E.tick).toNat D E):=rfl;rw[hun];have ht:=h.t1;have hno:=h.no;have hts:=h.ts;have hsl:=h.sl;have hpc:=G.pc;rcases Mid.replGo G hr ((E.nIn:Int) - E.tick).toNat h (by rw[h.nin];omega) with ⟨a1,⟨N1,a2⟩,a3,a4,a5,a6,a7⟩ | ⟨a1,a2⟩;rotate_left 1
 · unfold jz;rw[if_pos (by rw[a1];simp)];exact .inr ⟨a1,a2.mono gm⟩
 have hni:=h.nin;generalize eE m p ((E.nIn:Int) - E.tick).toNat D E=R at *;unfold jz;rw[if_neg (by rw[a1];simp)];rcases a2.flush (ran:=ran) hr with ⟨b1,b2,b3,b4,b5,b6⟩ | ⟨b1,b2,b3⟩;rotate_left 1
 · unfold iY;rw[if_pos jd];exact .inr ⟨b1,(b3.trans a7 a6).mono gm⟩
 have hn2:=a2.no;have ht2:=a2.t1;generalize cV R.1 R.2.1=F at *;unfold iY;rw[if_neg jd];have e1:F.2.1.tick=R.2.1.tick:=by rw[b3]
 have e2:F.2.1.passed=R.2.1.passed:=by rw[b3]
 have e3:F.2.1.replayed=R.2.1.replayed:=by rw[b3]
 have e4:F.2.1.nOut=R.2.1.nOut:=by rw[b3]
 have e5:F.2.1.put=false:=by rw[b3]
 by_cases hpp:pace<=F.2.1.passed
 · rw[if_pos hpp];rcases b2.save G hc (ran:=ran) hr (by rw[e1,a3];omega) with ⟨d1,⟨N2,s2,d2⟩,⟨k',d3⟩,d4,d5,d6⟩ | ⟨d1,d2,d3⟩
   · refine .inl ⟨d1,⟨N2,_,s2,_,_,_,d2,d4,by rw[d3],?_,by rw[d3];show (0:Int)<pace;omega⟩,?_,?_,d5.trans (b5.trans a6),fun q=>d6 (b6 (a7 q))⟩
     · rw[d3];show F.2.1.tick=(F.2.1.nOut:Int);rw[e1,e4];omega
     · rw[d3];show F.2.1.tick=_;rw[e1,a3]
     · rw[d3];show F.2.1.replayed=_;rw[e3,a5];omega
   · exact .inr ⟨d1,d3.trans (fun q=>b6 (a7 q)) (b5.trans a6)⟩
 · rw[if_neg hpp];refine .inl ⟨rfl,⟨N1,_,s,n,last,is,b2.more aS,b4,e5,?_,by show F.2.1.passed<pace;omega⟩,?_,?_,b5.trans a6,fun q=>b6 (a7 q)⟩
   · show F.2.1.tick=(F.2.1.nOut:Int);rw[e1,e4];omega
   · show F.2.1.tick=_;rw[e1,a3]
   · show F.2.1.replayed=_;rw[e3,a5];omega
theorem Mid.runGo (G:Prg p H m pace)(most:Int):∀ (f:Nat) {D:aX} {E:EgV} {N:Secs} {c kS:Nat} {s:SlV3} {n:Nat} {last:Int} {is:List Int} (k:Nat),Mid p H m c D E rows N kS s n last is->E.tick=(E.nOut:Int)->E.passed<pace->E.tick+(f:Int)=(rows.length:Int)->c+f<9000000000000000000->(k:Int)<=most ->
 ((runK m p (H:Int) pace most f k D E).2.2.2=0/\(∃ N' kS' s' n' last' is',Mid p H m (c+f) (runK m p (H:Int) pace most f k D E).1 (runK m p (H:Int) pace most f k D E).2.1 rows N' kS' s' n' last' is')/\(runK m p (H:Int) pace most f k D E).2.1.tick=((runK m p (H:Int) pace most f k D E).2.1.nOut:Int)/\(runK m p (H:Int) pace most f k D E).2.1.passed<pace /\
   (runK m p (H:Int) pace most f k D E).2.1.tick=E.tick+(((runK m p (H:Int) pace most f k D E).2.2.1:Nat) - (k:Int))/\(((runK m p (H:Int) pace most f k D E).2.2.1:Nat):Int)=min most ((k:Int)+f)/\(runK m p (H:Int) pace most f k D E).1.many=D.many/\(D.cut=-1->(runK m p (H:Int) pace most f k D E).1.cut=-1)) \/
 ((runK m p (H:Int) pace most f k D E).2.2.2=50/\k<=(runK m p (H:Int) pace most f k D E).2.2.1/\(((runK m p (H:Int) pace most f k D E).2.2.1:Nat):Int)<=min most ((k:Int)+f)/\(runK m p (H:Int) pace most f k D E).2.1.off=false/\(runK m p (H:Int) pace most f k D E).2.1.nIn=rows.length/\Went D (runK m p (H:Int) pace most f k D E).1 (Good p H m (c+f) pace rows.length rows (E.tick+(((runK m p (H:Int) pace most f k D E).2.2.1:Nat) - (k:Int))))):=by
 intro f
 induction f with
 | zero=>
   intro D E N c kS s n last is k h hat hlt ht hc hk;refine .inl ⟨rfl,⟨N,kS,s,n,last,is,h⟩,hat,hlt,?_,?_,rfl,fun q=>q⟩
   · show E.tick=E.tick+((k:Nat) - (k:Int));omega
   · show ((k:Nat):Int)=_;omega
 | succ f ih=>
   intro D E N c kS s n last is k h hat hlt ht hc hk;have hun:runK m p (H:Int) pace most (f+1) k D E=if most<=(k:Int) then (D,E,k,0)
    else if (bL m p D E).2.2≠0 then ((bL m p D E).1,(bL m p D E).2.1,k,(bL m p D E).2.2)
    else if (runT p (H:Int) pace (bL m p D E)).2.2≠0 then ((runT p (H:Int) pace (bL m p D E)).1,(runT p (H:Int) pace (bL m p D E)).2.1,k+1,(runT p (H:Int) pace (bL m p D E)).2.2)
    else runK m p (H:Int) pace most f (k+1) (runT p (H:Int) pace (bL m p D E)).1 (runT p (H:Int) pace (bL m p D E)).2.1:=rfl
   rw[hun]
   by_cases hm:most<=(k:Int)
   · rw[if_pos hm];refine .inl ⟨rfl,⟨N,kS,s,n,last,is,h.more aS⟩,hat,hlt,?_,?_,rfl,fun q=>q⟩
     · show E.tick=E.tick+((k:Nat) - (k:Int));omega
     · show ((k:Nat):Int)=_;omega
   rw[if_neg hm];have hts:=h.ts;have hpc:=G.pc;have hoff:=h.off;have hni:=h.nin;have hof:=eone_off m p D E;rcases h.one G (ran:=E.tick) aS aS with ⟨a1,⟨N1,a2⟩,a3,a4,a5,a6,a7⟩ | ⟨a1,a2,a3⟩;rotate_left 1
   · rw[if_pos (by rw[a1];simp)];refine .inr ⟨a1,Nat.le_refl _,by show ((k:Nat):Int)<=_;omega,hof.1.trans hoff,hof.2.trans hni,?_⟩
     show Went D (bL m p D E).1 (Good p H m (c+(f+1)) pace rows.length rows (E.tick+((k:Nat) - (k:Int))))
     rw[show E.tick+((k:Nat) - (k:Int))=E.tick by omega];exact a3.mono (fun N g=>g.mono aS)
   rw[if_neg (by rw[a1];simp)];have hat1:=eone_at (m:=m) (p:=p) (D:=D) (E:=E) a1 h.t1 hat
   have hoff1:=a2.off;have hni1:=a2.nin;generalize bL m p D E=R at *;have hts1:=a2.ts
   by_cases hpp:pace<=R.2.1.passed
   · have hT:runT p (H:Int) pace R=dv p (H:Int) R.1 R.2.1:=by unfold runT;rw[if_pos hpp]
     rw[hT];have hso:=esave_off p (H:Int) R.1 R.2.1;rcases a2.save G aS (ran:=E.tick+1) aS aS with ⟨d1,⟨N2,s2,d2⟩,⟨k',d3⟩,d4,d5,d6⟩ | ⟨d1,d2,d3⟩
     · rw[if_neg jL];have ht2:(dv p (H:Int) R.1 R.2.1).2.1.tick=E.tick+1:=by rw[d3];exact a3
       have hn2:(dv p (H:Int) R.1 R.2.1).2.1.nOut=R.2.1.nOut:=by rw[d3]
       have hp2:(dv p (H:Int) R.1 R.2.1).2.1.passed=0:=by rw[d3]
       generalize dv p (H:Int) R.1 R.2.1=S at *;rcases ih (k+1) d2 (by rw[ht2,hn2,<- hat1,a3]) (by rw[hp2];omega) (by rw[ht2];omega) aS aS with ⟨b1,b2,b3,b4,b5,b6,b7,b8⟩ | ⟨b1,b2,b3,b4,b4b,b5⟩
       · refine .inl ⟨b1,?_,b3,b4,by rw[b5,ht2];omega,by rw[b6];omega,b7.trans (d5.trans a6),fun q=>b8 (d6 (a7 q))⟩;obtain⟨N',kS',s',n',last',is',b2⟩:=b2;exact⟨N',kS',s',n',last',is',b2.more aS⟩
       · refine .inr ⟨b1,aS,by omega,b4,b4b,?_⟩;have:=b5.trans (fun q=>d6 (a7 q)) (d5.trans a6);rw[show E.tick+(((runK m p (H:Int) pace most f (k+1) S.1 S.2.1).2.2.1:Nat) - (k:Int))=S.2.1.tick+(((runK m p (H:Int) pace most f (k+1) S.1 S.2.1).2.2.1:Nat) - ((k+1:Nat):Int)) by rw[ht2];omega];exact this.mono (fun N g=>g.mono aS)
     · rw[if_pos jL];refine .inr ⟨d1,Nat.le_succ _,by show ((k+1:Nat):Int)<=_;omega,hso.1.trans hoff1,hso.2.trans hni1,?_⟩
       show Went D (dv p (H:Int) R.1 R.2.1).1 (Good p H m (c+(f+1)) pace rows.length rows (E.tick+((k+1:Nat) - (k:Int))))
       rw[show E.tick+((k+1:Nat) - (k:Int))=E.tick+1 by omega];exact (d3.trans a7 a6).mono (fun N g=>g.mono aS)
   · have hT:runT p (H:Int) pace R=(R.1,R.2.1,0):=by unfold runT;rw[if_neg hpp]
     rw[hT,if_neg ba];dsimp only;rcases ih (k+1) a2 (by rw[hat1]) aS (by rw[a3];omega) aS aS with ⟨b1,b2,b3,b4,b5,b6,b7,b8⟩ | ⟨b1,b2,b3,b4,b4b,b5⟩
     · refine .inl ⟨b1,?_,b3,b4,by rw[b5,a3];omega,by rw[b6];omega,b7.trans a6,fun q=>b8 (a7 q)⟩;obtain⟨N',kS',s',n',last',is',b2⟩:=b2;exact⟨N',kS',s',n',last',is',b2.more aS⟩
     · refine .inr ⟨b1,aS,by omega,b4,b4b,?_⟩;have:=b5.trans a7 a6
       show Went D (runK m p (H:Int) pace most f (k+1) R.1 R.2.1).1 (Good p H m (c+(f+1)) pace rows.length rows (E.tick+(((runK m p (H:Int) pace most f (k+1) R.1 R.2.1).2.2.1:Nat) - (k:Int))))
       rw[show E.tick+(((runK m p (H:Int) pace most f (k+1) R.1 R.2.1).2.2.1:Nat) - (k:Int))=R.2.1.tick+(((runK m p (H:Int) pace most f (k+1) R.1 R.2.1).2.2.1:Nat) - ((k+1:Nat):Int)) by rw[a3];omega];exact this.mono (fun N g=>g.mono aS)
end
theorem pd (E:EgV):fB E 0=E:=by
 unfold fB;rw[show decide ((0:Int)=50)=false from rfl,Bool.or_false]
theorem eFlush_off {D:aX}(E:EgV)(h:D.off=true):(cV D E).1=D:=by
 have e:bG D=(D,50):=by
  have:mayV D 0=50:=by unfold mayV;rw[h];rfl
  unfold bG;rw[this];rfl
 unfold cV
 split
 · rfl
 · unfold mb;rw[e]
section
variable {p:PV} {H m c:Nat} {pace:Int} {D D':aX} {E:EgV} {rows:List (List Int)} {N N':Secs} {kS:Nat} {s:SlV3} {n:Nat} {last:Int} {is:List Int}
theorem EgOn.more (h:EgOn p H m c pace D E rows)(hc:c<=c'):EgOn p H m c' pace D E rows:=by
 obtain⟨N,kS,s,n,last,is,h⟩:=h;exact⟨N,kS,s,n,last,is,h.mid.more hc,h.waits,h.put,h.at_,h.lt⟩
theorem EgOn.facts (h:EgOn p H m c pace D E rows):E.off=false/\E.nIn=rows.length/\E.tick=(E.nOut:Int)/\E.nOut<=rows.length/\rows.length<=m/\D.off=false/\D.waits=[]/\11+2 * m<=D.many/\eN p.ins rows/\E.passed<pace/\0<=E.passed:=by
 obtain⟨N,kS,s,n,last,is,h⟩:=h;exact⟨h.mid.off,h.mid.nin,h.at_,h.mid.no,h.mid.rows_le,h.mid.pow.fit.off,h.waits,h.mid.big,h.mid.rok,h.lt,h.mid.p0⟩
theorem EgOn.may (h:EgOn p H m c pace D E rows):May D (Good p H m c pace rows.length rows E.tick):=by
 obtain⟨N,kS,s,n,last,is,h⟩:=h;have:=h.lt;have:=h.mid.ts;exact h.mid.good h.mid.pow.safe rfl aS
theorem EgOn.ops (h:EgOn p H m c pace D E rows)(o:List Int):EgOn p H m c pace { D with ops:=o } E rows:=by
 obtain⟨N,kS,s,n,last,is,h⟩:=h;have q:=h.mid;exact⟨N,kS,s,n,last,is,⟨q.pow.ops o,q.big,q.wl,q.root,q.feed,q.rok,q.sink,q.kp,q.kc,q.nc,q.ek,q.nin,q.no,q.t0,q.t1,q.ce,q.p0,q.p1,q.ts,q.sl,q.off,q.put⟩,h.waits,h.put,h.at_,h.lt⟩
theorem EgOn.cutTo (h:EgOn p H m c pace D E rows)(k:Int)(h0:-1<=k)(h1:k<=9223372036854775807):EgOn p H m c pace { D with cut:=k } E rows:=by
 obtain⟨N,kS,s,n,last,is,h⟩:=h;have q:=h.mid;exact⟨N,kS,s,n,last,is,⟨q.pow.cutTo k h0 h1,q.big,q.wl,q.root,q.feed,q.rok,q.sink,q.kp,q.kc,q.nc,q.ek,q.nin,q.no,q.t0,q.t1,q.ce,q.p0,q.p1,q.ts,q.sl,q.off,q.put⟩,h.waits,h.put,h.at_,h.lt⟩
theorem EgOn.input (G:Prg p H m pace)(h:EgOn p H m c pace D E rows){t:Nat}{l:List Int}(ht:rows[t]?=some l):dD D 11 m 3 E.nIn p.ins (t:Int)=(eb D,l,0):=by
 obtain⟨N,kS,s,n,last,is,h⟩:=h;have q:=h.mid;have:=q.big;have:=G.m2;rw[q.nin];exact mS (D:=D) (N:=N) (f:=11) (m:=m) (kind:=3) q.pow.fit.off q.pow.now q.rok q.feed aS aS aS aS ht
theorem EgOn.output (G:Prg p H m pace)(h:EgOn p H m c pace D E rows){t:Nat}(ht:t<E.nOut):dD D (11+m) m 4 E.nOut p.outs (t:Int)=(eb D,dL p rows t,0):=by
 obtain⟨N,kS,s,n,last,is,h⟩:=h;have q:=h.mid;have:=q.big;have:=G.m2;have:=mS (D:=D) (N:=N) (f:=11+m) (m:=m) (kind:=4) q.pow.fit.off q.pow.now (outs_ok G q.rok q.no) q.sink aS aS aS aS (outsV_get p rows ht);rw[jn] at this;exact this
theorem EgOn.run (G:Prg p H m pace)(h:EgOn p H m c pace D E rows)(most:Int)(hmo:0<=most)(hc:c<8000000000000000000) :
 ((runE m p (H:Int) pace most D E).2.2.2=0/\EgOn p H m (c+m) pace (runE m p (H:Int) pace most D E).1 (runE m p (H:Int) pace most D E).2.1 rows/\(runE m p (H:Int) pace most D E).2.1.tick=E.tick+(runE m p (H:Int) pace most D E).2.2.1/\(runE m p (H:Int) pace most D E).2.2.1=min most ((rows.length:Int) - E.tick)/\(runE m p (H:Int) pace most D E).1.many=D.many/\(D.cut=-1->(runE m p (H:Int) pace most D E).1.cut=-1)) \/
 ((runE m p (H:Int) pace most D E).2.2.2=50/\0<=(runE m p (H:Int) pace most D E).2.2.1/\(runE m p (H:Int) pace most D E).2.2.1<=min most ((rows.length:Int) - E.tick)/\Went D (runE m p (H:Int) pace most D E).1 (Good p H m (c+m) pace rows.length rows (E.tick+(runE m p (H:Int) pace most D E).2.2.1))/\(runE m p (H:Int) pace most D E).2.1.off=true):=by
 obtain⟨f1,f2,f3,f4,f5,f6,f7,f8,f9,f10,f11⟩:=h.facts;obtain⟨N,kS,s,n,last,is,h⟩:=h;have hm2:=G.m2;have hun:runE m p (H:Int) pace most D E=runB (runK m p (H:Int) pace most ((E.nIn:Int) - E.tick).toNat 0 D E).2.2.1 (runK m p (H:Int) pace most ((E.nIn:Int) - E.tick).toNat 0 D E).2.2.2 (cV (runK m p (H:Int) pace most ((E.nIn:Int) - E.tick).toNat 0 D E).1 (runK m p (H:Int) pace most ((E.nIn:Int) - E.tick).toNat 0 D E).2.1):=by
  unfold runE;rw[if_neg (by rw[f1];simp),if_neg aS]
  rfl
 rw[hun];have hgo:=Mid.runGo G most ((E.nIn:Int) - E.tick).toNat 0 h.mid h.at_ h.lt aS aS aS;have hfl:((((E.nIn:Int) - E.tick).toNat:Nat):Int)=(rows.length:Int) - E.tick:=aS;have hfm:c+((E.nIn:Int) - E.tick).toNat<=c+m:=aS;generalize runK m p (H:Int) pace most ((E.nIn:Int) - E.tick).toNat 0 D E=R at *;generalize ((E.nIn:Int) - E.tick).toNat=f at *;rcases hgo with ⟨b1,⟨N1,kS1,s1,n1,last1,is1,b2⟩,b3,b4,b5,b6,b7,b8⟩ | ⟨b1,b2,b3,b4,b4b,b5⟩
 · have ht:=b2.ts;rcases b2.flush (ran:=R.2.1.tick) (pace:=pace) aS with ⟨d1,d2,d3,d4,d5,d6⟩ | ⟨d1,d2,d3⟩
   · left
     generalize cV R.1 R.2.1=F at *;unfold runB;rw[b1,if_pos rfl,d1,pd];refine⟨rfl,⟨N1,_,s1,n1,last1,is1,d2.more hfm,d4,by rw[d3],?_,?_⟩,?_,by simp only;omega,d5.trans b7,fun q=>d6 (b8 q)⟩
     · show F.2.1.tick=(F.2.1.nOut:Int);rw[d3];exact b3
     · show F.2.1.passed<pace;rw[d3];exact b4
     · show F.2.1.tick=E.tick+((R.2.2.1:Nat):Int);rw[d3];show R.2.1.tick=_;omega
   · right
     generalize cV R.1 R.2.1=F at *;unfold runB;rw[b1,if_pos rfl,d1];refine⟨rfl,by simp only;omega,by simp only;omega,?_,by unfold fB;simp⟩
     show Went D F.1 (Good p H m (c+m) pace rows.length rows (E.tick+((R.2.2.1:Nat):Int)))
     rw[show E.tick+((R.2.2.1:Nat):Int)=R.2.1.tick by omega];exact (d3.trans b8 b7).mono (fun N g=>g.mono hfm)
 · right
   have hoff:=eFlush_off R.2.1 b5.1;generalize cV R.1 R.2.1=F at *;unfold runB;rw[b1,if_neg ba];refine⟨rfl,by simp only;omega,by simp only;omega,?_,by unfold fB;simp⟩
   show Went D F.1 (Good p H m (c+m) pace rows.length rows (E.tick+((R.2.2.1:Nat):Int)))
   rw[hoff];rw[show E.tick+((R.2.2.1:Nat):Int)=E.tick+(((R.2.2.1:Nat):Int) - ((0:Nat):Int)) by omega];exact b5.mono (fun N g=>g.mono hfm)
theorem EgOn.save (G:Prg p H m pace)(h:EgOn p H m c pace D E rows)(hc:c<8000000000000000000) :
 ((fC p (H:Int) D E).2.2=0/\EgOn p H m (c+1) pace (fC p (H:Int) D E).1 (fC p (H:Int) D E).2.1 rows/\(fC p (H:Int) D E).2.1.tick=E.tick/\(fC p (H:Int) D E).1.many=D.many/\(D.cut=-1->(fC p (H:Int) D E).1.cut=-1)) \/
 ((fC p (H:Int) D E).2.2=50/\Went D (fC p (H:Int) D E).1 (Good p H m (c+1) pace rows.length rows E.tick)/\(fC p (H:Int) D E).2.1.off=true):=by
 obtain⟨f1,f2,f3,f4,f5,f6,f7,f8,f9,f10,f11⟩:=h.facts;obtain⟨N,kS,s,n,last,is,h⟩:=h;have hpc:=G.pc;have ht:=h.mid.ts;have hun:fC p (H:Int) D E=saveB (dv p (H:Int) D E):=by
  unfold fC;rw[if_neg (by rw[f1];simp)]
 rw[hun];rcases h.mid.save G aS (ran:=E.tick) aS aS with ⟨d1,⟨N2,s2,d2⟩,⟨k',d3⟩,d4,d5,d6⟩ | ⟨d1,d2,d3⟩
 · left
   generalize dv p (H:Int) D E=S at *;unfold saveB;rw[d1,pd];exact⟨rfl,⟨N2,_,s2,_,_,_,d2,d4,by rw[d3],by rw[d3];exact f3,by rw[d3];show (0:Int)<pace;omega⟩,by rw[d3],d5,d6⟩
 · right
   generalize dv p (H:Int) D E=S at *;unfold saveB;rw[d1];exact⟨rfl,d3,by unfold fB;simp⟩
theorem EgOn.sub (G:Prg p H m pace)(h:EgOn p H m c pace D E rows){l:List Int}(hi:eV l) :
 (subE m p D E l=(D,E,0,41)/\cB p.ins l=false)\/(subE m p D E l=(D,E,0,52)/\rows.length=m) \/
 ((subE m p D E l).2.2=((rows.length:Int),0)/\cB p.ins l=true/\EgOn p H m c pace (subE m p D E l).1 (subE m p D E l).2.1 (rows ++ [l])/\(subE m p D E l).2.1.tick=E.tick/\(subE m p D E l).1.many=D.many/\(D.cut=-1->(subE m p D E l).1.cut=-1)) \/
 ((subE m p D E l).2.2=(0,50)/\cB p.ins l=true/\rows.length<m/\Went D (subE m p D E l).1 (Good p H m c pace rows.length (rows ++ [l]) E.tick)/\(subE m p D E l).2.1.off=true):=by
 obtain⟨f1,f2,f3,f4,f5,f6,f7,f8,f9,f10,f11⟩:=h.facts;obtain⟨N,kS,s,n,last,is,h⟩:=h;have q:=h.mid;have hm2:=G.m2;have hR:=q.isRest f7;have hun:subE m p D E l=subB E (dY D 11 m 3 rows.length p.ins l):=by
  unfold subE;rw[if_neg (by rw[f1];simp),f2]
 have hE:({ E with nIn:=rows.length }:EgV)=E:=by cases E;simp only at f2;subst f2;rfl
 let P:Says:=fun s S=>if 11<=s/\s<11+m then SecA 3 rows.length (cI p.ins (rows ++ [l])) (s - 11) S else S=N s
 have hP:∀ j:Nat,j<D.many->P j (N j):=fun j hj=>by
  show if 11<=j/\j<11+m then SecA 3 rows.length (cI p.ins (rows ++ [l])) (j - 11) (N j) else N j=N j
  split
  · rename_i e;have:=q.feed.secA (more:=[rowB p.ins l p.ins.length]) (n:=j - 11) aS;rw[<- oH,fN,show 11+(j - 11)=j by omega] at this;exact this
  · rfl
 have hshut:cB p.ins l=true->rows.length<m->fG (P (11+rows.length)) (bT 3 rows.length (rowB p.ins l p.ins.length)):=fun hf hlt=>by
  have hl113:(rowB p.ins l p.ins.length).length<=113:=by have:=mR G.ins l;omega
  have hg:(cI p.ins (rows ++ [l]))[rows.length]?=some (rowB p.ins l p.ins.length):=oG ba;have:=SecA.sealed (kind:=3) (k:=rows.length) (n:=rows.length) aW hg hl113;intro S cc hcc hS hh;have hh':if 11<=11+rows.length/\11+rows.length<11+m then SecA 3 rows.length (cI p.ins (rows ++ [l])) (11+rows.length - 11) S else S=N (11+rows.length):=hh;rw[if_pos aS,show 11+rows.length - 11=rows.length by omega] at hh'
  show if 11<=11+rows.length/\11+rows.length<11+m then SecA 3 rows.length (cI p.ins (rows ++ [l])) (11+rows.length - 11) _ else _
  rw[if_pos aS,show 11+rows.length - 11=rows.length by omega];exact this S cc hcc hS hh'
 obtain⟨a1,a2⟩:=hR.fadd (f:=11) (m:=m) (kind:=3) (ts:=p.ins) (P:=P) aS aS aS q.feed q.rok hi hP hshut;have hcast:((3:Nat):Int)=3:=rfl;rw[hcast] at a1 a2;rw[hun];rcases a2 with ⟨e,hf⟩ | ⟨e,hf⟩ | ⟨e,r1,r2,r3,r4⟩ | ⟨e,r1,r2,r3,r4,r5⟩
 · left
   rw[e];unfold subB;simp only;rw[hE];exact⟨by unfold fB;simp,hf⟩
 · right;left
   rw[e];unfold subB;simp only;rw[hE];exact⟨by unfold fB;simp,hf⟩
 · right;right;left
   generalize dY D 11 m 3 rows.length p.ins l=R at *;obtain⟨D1,nx,v,z⟩:=R;simp only at e r1 r2 r4 a1;injection e with e1 e;injection e with e2 e3;subst e1 e2 e3;unfold subB;simp only;rw[pd];have hfit:=r3.fits l ba;have hN:∀ j:Nat,j<11\/11+m<=j->putN N (11+rows.length) (bT 3 rows.length (rowB p.ins l p.ins.length)) j=N j:=fun j hj=>by
    have:=r2.le;rw[fN,az,aJ] at this;unfold putN;rw[if_neg aS]
   have hkc:=q.kc;have hts:=q.ts;have hsl:=q.sl;have ht0:=q.t0;have hks:=q.ksle;refine⟨by first | rfl | trivial,hfit,⟨putN N (11+rows.length) (bT 3 rows.length (rowB p.ins l p.ins.length)),E.nOut,s,n,last,is,?_,r1.waits,h.put,f3,h.lt⟩,rfl,a1,r4⟩;exact Mid.ofRest (E:={ E with nIn:=rows.length+1 }) r1 (by rw[a1];exact f8) (by rw[hN 0 aS];exact q.root) r2 r3
    (by rw[nu [l] f4];exact q.sink.congr (fun j hj=>hN _ aS)) (q.kp.congr (fun j j1 j2=>hN j aS))
    (fun e=>⟨by rw[kI [l] _ (by have:=(hkc e).2.2;omega)];exact (hkc e).1,(hkc e).2.1,by show last<=(E.nOut:Int);have:=(hkc e).2.2;omega⟩) q.nc q.ek ba cU q.t0 q.t1
    (by show E.cells=_;rw[kI [l] _ (by show E.tick.toNat<=_;omega)];exact q.ce) q.p0 q.p1 q.ts q.sl q.off
 · right;right;right
   generalize dY D 11 m 3 rows.length p.ins l=R at *;obtain⟨D1,nx,v,z⟩:=R;simp only at e r1 r2 r5 a1;injection e with e2 e3;subst e2 e3;unfold subB;simp only;have hrk:=q.rok.app r3 hi;refine⟨by first | rfl | trivial,r3,r4,⟨r1,r2,a1,P,r5,fun N' hN=>?_⟩,by unfold fB;simp⟩;have hbig:11+2 * m<=D1.many:=by rw[a1];exact f8
   have ho:∀ j:Nat,j<11+2 * m->¬ (11<=j/\j<11+m)->N' j=N j:=fun j hj e=>by
    have:if 11<=j/\j<11+m then SecA 3 rows.length (cI p.ins (rows ++ [l])) (j - 11) (N' j) else N' j=N j:=hN j (by show j<D1.many;omega)
    rwa [if_neg e] at this
   have hlt2:=h.lt;have hts:=q.ts;have hks:=q.ksle;refine⟨by rw[ho 0 aS aS];exact q.root,hrk,by simp,by simp;omega,fun j hj=>?_,E.nOut,s,n,last,is,f4,fun j hj=>?_,q.kp.congr (fun j j1 j2=>ho j aS aS),q.nc,fun e=>⟨by rw[kI [l] _ (by have:=(q.kc e).2.2;omega)];exact (q.kc e).1,(q.kc e).2.1,by have:=(q.kc e).2.2;omega⟩,aS⟩
   · have:if 11<=11+j/\11+j<11+m then SecA 3 rows.length (cI p.ins (rows ++ [l])) (11+j - 11) (N' (11+j)) else N' (11+j)=N (11+j):=hN (11+j) (by show 11+j<D1.many;omega);rw[if_pos aS,show 11+j - 11=j by omega] at this;exact this.j
   · rw[ho (11+m+j) aS aS,nu [l] aW,ny p rows f4];have:=(q.sink.secA (more:=cI p.outs ((cN p rows rows.length).drop E.nOut)) hj).j
     rwa [fN,jn] at this
end
