/- Parts. -/
import Derived.Test.YtmeebofhlilcmaaGreatPr30
import Derived.ArgAppend
set_option linter.unusedVariables false
set_option linter.unusedSimpArgs false
set_option maxRecDepth 100000
set_option maxHeartbeats 0
namespace Go.Proofs.YtmeebofhlilcmaaGreat
variable {W:World} {α:Type} {e:TypeId} {n c lim r r' c1 c1':Nat} {C R:Option Addr} {bs:List UInt8} {k:Int} {l:List Int}
open Go.RowKit
def ky:PV:=⟨[1],[1],2,[(1,0)],[⟨28,0,0,0,0⟩,⟨21,1,0,0,0⟩,⟨32,0,0,0,0⟩,⟨29,1,0,0,0⟩]⟩
theorem delay_right:dF ky=true:=by decide +kernel
theorem delay_wf:eO ky:=⟨by decide +kernel,by decide +kernel⟩
def ProgNew (w:World)(P:PV)(e:Ending)(w':World):Prop:=∃ x:PA,e=.returned (.agg #[.slice x.A1 x.n1 x.c1,.slice x.A2 x.n2 x.c2,I P.regs,.slice x.A3 x.n3 x.c3,.slice x.A4 x.n4 x.c4])/\(∀ base,ej w' base x P)/\Below w.heap.size w w'
theorem delay_at {g1 g2 g3 g4:Nat}(b1:Blk W g1 3 [I 1])(b2:Blk W g2 3 [I 1])(b3:Blk W g3 187 [I 1,I 0])
 (b4:Blk W g4 144 [I 28,I 0,I 0,I 0,I 0,I 21,I 1,I 0,I 0,I 0,I 32,I 0,I 0,I 0,I 0,I 29,I 1,I 0,I 0,I 0]) (base:Nat) :
 ej W base ⟨some ⟨g1,0,none⟩,1,1,some ⟨g2,0,none⟩,1,1,some ⟨g3,0,none⟩,1,1,some ⟨g4,0,none⟩,4,4⟩ ky:=by
 have mx:∀ n:Nat,n<=4->n<=n/\n<=maxLen:=fun n hn=>⟨Nat.le_refl _,by unfold maxLen;omega⟩
 refine⟨⟨(Rd.of_block (enc:=iv) (l:=[1]) b1 rfl).ri,(Rd.of_block (enc:=iv) (l:=[1]) b2 rfl).ri,RdS.of_block b3 iy (l:=[(1,0)]) rfl,RdS.of_block b4 gX (l:=[⟨28,0,0,0,0⟩,⟨21,1,0,0,0⟩,⟨32,0,0,0,0⟩,⟨29,1,0,0,0⟩]) rfl,mx 1 aS,mx 1 aS,mx 1 aS,mx 4 aS⟩,fun _ g hg=>?_,fun _ g hg=>?_,fun _ g hg=>?_,fun _ g hg=>?_⟩
 · simp only[Option.map_some,Option.some.injEq] at hg;subst hg;exact .inr ⟨_,b1⟩
 · simp only[Option.map_some,Option.some.injEq] at hg;subst hg;exact .inr ⟨_,b2⟩
 · simp only[Option.map_some,Option.some.injEq] at hg;subst hg;exact .inr ⟨_,b3⟩
 · simp only[Option.map_some,Option.some.injEq] at hg;subst hg;exact .inr ⟨_,b4⟩
theorem delay_any (w:World):Ca 26 #[] w (ProgNew w ky):=by
 go_enter Tryz.func26,Tryz.ntmps26;go_wp2;refine bodyPost_ret (v:=.agg #[.slice (some ⟨w.heap.size+1,0,none⟩) 1 1,.slice (some ⟨w.heap.size+1+1,0,none⟩) 1 1,I 2,.slice (some ⟨w.heap.size+1+1+1,0,none⟩) 1 1,.slice (some ⟨w.heap.size+1+1+1+1,0,none⟩) 4 4]) (by simp[results,Tryz.results26,go_sem]) rfl ?_;refine⟨_,rfl,fun base=>delay_at (g1:=w.heap.size+1) (g2:=w.heap.size+1+1) (g3:=w.heap.size+1+1+1) (g4:=w.heap.size+1+1+1+1) ?_ ?_ ?_ ?_ base,bc⟩
 · exact (((Blk.top _ aZ rfl).alloc _).alloc _).alloc _
 · exact ((Blk.top _ aZ rfl).alloc _).alloc _
 · exact (Blk.top _ aZ rfl).alloc _
 · exact Blk.top _ aZ rfl
section
variable {w w':World} {base g m c many k tick:Nat} {q:bE} {p:PV} {pace rep ran:Int} {rows all:List (List Int)} {x:PA}
theorem c_open (V:Env p m pace many)(h:gg w base q p m c pace many true k all ran)(hx:ej w base x p)(hcb:c<7000000000000000000)(hk:k=all.length) :
 Ca 25 #[.pointer (some ⟨q.d,0,none⟩),.agg #[.slice x.A1 x.n1 x.c1,.slice x.A2 x.n2 x.c2,I p.regs,.slice x.A3 x.n3 x.c3,.slice x.A4 x.n4 x.c4],I pace] w fun e' w'=>
  ∃ g rep,e'=.returned (.tuple #[.pointer (some ⟨g,0,none⟩),I 0])/\StOn w' base q g p m (c+2000) pace many true all all.length rep/\Step mutE base q w w' :=
 (t_open V h hx hcb).mono fun e' w' ⟨s,g,z,h1,h2⟩=>by
  rcases h2 with ⟨rfl,nx,rep,x1,x2,x3,x4,x5⟩ | ⟨_,x,_⟩
  · have e:nx=all.length:=aS;subst e;rw[List.take_length] at x5;exact⟨g,rep,h1,x5,s⟩
  · cases x
theorem c_format (V:Env p m pace many){D:aX}{N:Secs}(hd:be w base q D)(hr:Rest D N)(hm:D.many=many)(hc:D.cut=-1)(hs:base<=w.heap.size)(hx:cC w x p) :
 Ca 27 #[.pointer (some ⟨q.d,0,none⟩),.agg #[.slice x.A1 x.n1 x.c1,.slice x.A2 x.n2 x.c2,I p.regs,.slice x.A3 x.n3 x.c3,.slice x.A4 x.n4 x.c4]] w fun e' w'=>e'=.returned (I 0)/\gg w' base q p m 0 pace many true 0 [] 0/\Step mutE base q w w' :=
 (t_format V hd hr hm hs hx).mono fun e' w' ⟨s,z,h1,h2⟩=>by
  rcases h2 with ⟨rfl,x⟩ | ⟨_,x,_⟩
  · rw[am hc] at x;exact⟨h1,x,s⟩
  · exact absurd hc x
end
theorem statf0 (a b c d e f:Int)(w:World):(Instr.field 54 (.agg #[I a,I b,I c,I d,I e,I f]) 0).run Tryz.prog w=.ok (I a) w:=by kernel_rfl
theorem statf1 (a b c d e f:Int)(w:World):(Instr.field 54 (.agg #[I a,I b,I c,I d,I e,I f]) 1).run Tryz.prog w=.ok (I b) w:=by kernel_rfl
theorem jx:dQ Tryz.prog 57 22 (.slice none 0 0) 1 24:=dQ.mk' Tryz.underlying57 bM rfl aU
def eT (w:World)(B:Option Addr)(N:Nat)(Ls:List (List Int)):Prop:=Ls.length=N/\∃ hs:List SlV,Rd slV w B N hs/\∀ (k:Nat) (h:SlV) (L:List Int),hs[k]?=some h->Ls[k]?=some L->RI w h.a h.n L/\h.n<=maxLen
section
variable {M:List TypeId} {w w':World} {base lim N c:Nat} {B:Option Addr} {p:bE} {D:aX} {Ls:List (List Int)}
theorem eT.below {B0:Nat}(h:eT w B N Ls)(hb:Below B0 w w')(hB:w.heap.size<=B0):eT w' B N Ls:=by
 obtain⟨hl,hs,ho,hk⟩:=h;exact⟨hl,hs,ho.below hb hB,fun k x L h1 h2=>⟨(hk k x L h1 h2).1.below hb hB,(hk k x L h1 h2).2⟩⟩
theorem eT.take_ {m:Nat}(h:eT w B N Ls)(hm:m<=N):eT w B m (Ls.take m):=by
 obtain⟨hl,hs,ho,hk⟩:=h;refine⟨by rw[aA];omega,hs.take m,ho.take_ hm,fun k x L h1 h2=>?_⟩;rw[aL] at h1 h2
 split at h1
 · rename_i q;rw[if_pos q] at h2;exact hk k x L h1 h2
 · cases h1
theorem Step.of_app {enc:α->Value}{l:List α}(ho:Ow enc w base e B n c l)(hg:w.grownBy w' (B.map (·.block)))(hs:base<=w.heap.size):Step [e] base p w w':=by
 cases B with
 | none=>
   have hb:=(Below.refl _ _).grown hg aW (fun k hk=>by cases hk);exact Step.of_below hb hs
 | some a=>
   obtain⟨cs,hb⟩:=ho.blk (g:=a.block) rfl;have:=ho.lt a.block rfl;exact Step.one hg hb aZ this.1 hs
end
def cL (w:World)(base:Nat)(A:Option Addr)(N c:Nat)(Ls:List (List Int)):Prop :=
 Ls.length=N/\∃ hs:List SlV,Ow slV w base 22 A N c hs/\∀ (k:Nat) (h:SlV) (L:List Int),hs[k]?=some h->Ls[k]?=some L->Ow iv w base 3 h.a h.n h.c L
section
variable {M:List TypeId} {w w':World} {base N c:Nat} {A:Option Addr} {q:bE} {D:aX} {Ls:List (List Int)}
theorem cL.nil (w:World)(base:Nat):cL w base none 0 0 []:=⟨rfl,[],Ow.nil _ _ _ _,fun k h L h1=>by simp at h1⟩
theorem cL.below (H:cL w base A N c Ls)(hb:Below w.heap.size w w'):cL w' base A N c Ls:=by
 obtain⟨a,hs,ho,hk⟩:=H;exact⟨a,hs,ho.below hb aW,fun k h L q1 q2=>(hk k h L q1 q2).below hb aW⟩
theorem cL.rd (H:cL w base A N c Ls):eT w A N Ls:=by
 obtain⟨a,hs,ho,hk⟩:=H;exact⟨a,hs,ho.rd,fun k h L q1 q2=>⟨(hk k h L q1 q2).rd.ri,by have:=(hk k h L q1 q2).cap;omega⟩⟩
theorem cL.lower {b:Nat}(H:cL w base A N c Ls)(hb:b<=base):cL w b A N c Ls:=by
 obtain⟨a,hs,ho,hk⟩:=H;exact⟨a,hs,ho.rebase hb,fun k h L q1 q2=>(hk k h L q1 q2).rebase hb⟩
theorem cL.cap (H:cL w base A N c Ls):N<=c/\c<=maxLen:=by
 obtain⟨a,hs,ho,hk⟩:=H;exact ho.cap
theorem cL.step {b0:Nat}(H:cL w b0 A N c Ls)(hd:be w base q D)(k:Step M base q w w')(h1:22 ∉ 4 :: M)(h2:3 ∉ 4 :: M):cL w' b0 A N c Ls:=by
 obtain⟨a,hs,ho,hk⟩:=H;exact⟨a,hs,hd.ow ho k.tch h1,fun k' h L q1 q2=>hd.ow (hk k' h L q1 q2) k.tch h2⟩
theorem Ow.other {enc:α->Value}{B:Option Addr}{b1 b2 m d:Nat}{l:List α}{L:List Int}(H:Ow iv w b1 3 C n c L)(ho:Ow enc w b2 e B m d l)(he:e≠3)(hg:w.grownBy w' (B.map (·.block))):Ow iv w' b1 3 C n c L:=by
 cases B with
 | none=>exact H.below ((Below.refl _ _).grown hg aW (fun k hk=>by cases hk)) aW
 | some a=>
   refine H.kp (Keep.one hg) (fun g hg' e9=>?_);obtain⟨cs,q⟩:=H.blk hg';exact ho.ne_ q he (by rw[e9];rfl)
theorem cL.app (H:cL w base A N c Ls){h:SlV}{L:List Int}(hL:Ow iv w base 3 h.a h.n h.c L):∃ hs:List SlV,Ow slV w base 22 A N c hs /\
 ∀ A' c' w',Ow slV w' base 22 A' (N+1) c' (hs ++ [h])->w.grownBy w' (A.map (·.block))->cL w' base A' (N+1) c' (Ls ++ [L]):=by
 obtain⟨a1,hs,ho,hi⟩:=H;refine⟨hs,ho,fun A' c' w' ho' hg=>?_⟩;have hhs:=ho.1;refine⟨by simp[a1],hs ++ [h],ho',fun k y Y q1 q2=>?_⟩;rcases ay k N with hk | hk
 · rw[aR aS] at q1 q2;exact (hi k y Y q1 q2).other ho aU hg
 · have hk9:k=N:=by
    have:=(List.getElem?_eq_some_iff.1 q1).1;rw[aw,hhs,aJ] at this;omega
   subst hk9;rw[aM aS,hhs,Nat.sub_self] at q1;rw[aM aS,a1,Nat.sub_self] at q2;simp only[List.getElem?_cons_zero,Option.some.injEq] at q1 q2;subst q1 q2;exact hL.other ho aU hg
theorem lP (w:World)(h:SlV):Rd slV (w.alloc (.cells #[.slice h.a h.n h.c] 22)) (some ⟨w.heap.size,0,none⟩) 1 [h]:=Rd.of_block (l:=[h]) (Blk.top _ rfl rfl) rfl
theorem eT.at_ (h:eT w A N Ls){k:Nat}(hk:k<N):∃ b o B n d L,A=some ⟨b,o,none⟩/\b<w.heap.size/\w.cell? ⟨b,o+k,none⟩=some (.slice B n d)/\Ls[k]?=some L/\RI w B n L/\n<=maxLen:=by
 obtain⟨hl,hs,hr,hq⟩:=h;obtain⟨b,o,hB,hb,hc⟩:=hr.2.at_ hk;have h1:k<hs.length:=by rw[hr.1];exact hk
 have h2:k<Ls.length:=aS;obtain⟨e1,e2⟩:=hq k hs[k] Ls[k] (ap h1) (ap h2);refine⟨b,o,hs[k].a,hs[k].n,hs[k].c,Ls[k],hB,hb,?_,ap h2,e1,e2⟩;rw[hc,ik hs k h1]
 rfl
end
section
variable {M:List TypeId} {w w':World} {base g m cc many k tick:Nat} {q:bE} {p:PV} {pace rep ran:Int} {calm:Bool} {rows all:List (List Int)} {x:PA}
theorem eE (w:World)(h:SlV):Below w.heap.size w (w.alloc (.cells #[.slice h.a h.n h.c] 22)):=(Below.refl _ _).alloc aW _
theorem StOn.disk (h:StOn w base q g p m cc pace many calm rows tick rep):∃ D,be w base q D:=by
 obtain⟨D,E,e,hd,_⟩:=h.ex;exact⟨D,hd⟩
theorem StOn.stepM {D':aX}(h:StOn w base q g p m cc pace many calm rows tick rep)(t:Step M base q w w')(hD:∀ D,be w base q D->be w' base q D)(hM:∀ x ∈ engT,x ∉ 4 :: M)(hE:180 ∉ 4 :: M):StOn w' base q g p m cc pace many calm rows tick rep:=by
 obtain⟨D,E,e,hd,hi,h2⟩:=h.ex;exact⟨ae h.hs t.size,D,E,e,hD D hd,⟨hd.blk hi.b t.tch hE,hi.gb,hi.r.step hd t hM⟩,h2⟩
theorem StOn.app {A:Option Addr}{hs:List SlV}(h:StOn w base q g p m cc pace many calm rows tick rep)(ho:Ow slV w lim 22 A n c hs)(hg:w.grownBy w' (A.map (·.block)))(hl:base<=lim):StOn w' base q g p m cc pace many calm rows tick rep/\Step [22] base q w w':=by
 have s:=Step.of_app (p:=q) (ho.rebase hl) hg h.hs;exact⟨h.stepM (D':=newV 1 1) s (fun D hd=>hd.grown ho hg aU) aU aU,s⟩
theorem Step.new_app {enc:α->Value}{A:Option Addr}{l:List α}{w5 w6:World}(h:Step M base q w w5)(ho:Ow enc w5 lim e A n c l)(hl:w.heap.size<=lim)(hb:base<=w.heap.size)(hg:w5.grownBy w6 (A.map (·.block))):Step M base q w w6:=by
 have s:=Step.of_app (base:=base) (p:=q) (ho.rebase (ae hb hl)) hg (ae hb h.size);obtain⟨F,hF,tF⟩:=h.tch;refine⟨h.bel.trans s.bel,fun g=>F g\/A.map (·.block)=some g,(hF.mono (fun g _ e=>.inl e)).trans (Keep.of_grown (F:=fun g=>A.map (·.block)=some g) hg (fun g e=>e)) (fun g _ e=>.inr e),fun g t cs e hbk=>?_⟩;rcases e with e | e
 · exact tF g t cs e hbk
 · have h1:=(ho.lt g e).1;have h2:=hbk.lt;omega
theorem s_crashR {D:aX}(h:be w base q D)(hs:base<=w.heap.size)(B:Option Addr)(n d:Nat)(cs:List UInt8)(hl:RB w B n cs)(hB:0<n->fJ w base 5 B)(hn:n<=maxLen) :
 Ca 43 #[.pointer (some ⟨q.d,0,none⟩),.slice B n d] w fun e w'=>e=.returned (.tuple #[])/\be w' base q (fP D cs)/\Step mutD base q w w':=by
 obtain⟨A,c,h⟩:=h;refine (crash_any h B n d cs hl (fun h0 g hg e=>?_) hn).mono fun e w' ⟨h1,h2⟩=>⟨h1,h2.s,Step.of_next h hs h2⟩
 rcases hB h0 g e with r | ⟨xs,r⟩
 · have:=h.bs g hg;omega
 · rcases h.foot_ty r hg with z | z | z | z | z <;> exact absurd z aU
end
def mutP:List TypeId:=209 :: mutE
structure PlIn (w:World)(base gy:Nat)(q:bE)(x:PA)(p:PV)(pace:Int)(gp:Option Addr):Prop where
 blk:Blk w gy 209 (plC q.d x p pace gp)
 pr:∀ W,Below base w W->ej W base x p
 gy0:base<=gy
inductive PGh where
 | on (armed:Bool) (rows:List (List Int)) (tick:Nat) (rep:Int)
 | off (k:Nat) (all:List (List Int)) (ran:Int)
 | down (k:Nat) (all:List (List Int)) (ran:Int)
def PlSt (w:World)(base gy:Nat)(q:bE)(x:PA)(p:PV)(m c:Nat)(pace:Int)(many:Nat):PGh->Prop
 | .on armed rows tick rep=>∃ g,PlIn w base gy q x p pace (some ⟨g,0,none⟩)/\StOn w base q g p m c pace many (!armed) rows tick rep
 | .off k all ran=>∃ g,PlIn w base gy q x p pace (some ⟨g,0,none⟩)/\dx w base q g p m c pace many k all ran
 | .down k all ran=>PlIn w base gy q x p pace none/\ft w base q p m c pace many k all ran
def kB (pace n:Int)(k0:Nat)(all:List (List Int))(ran:Int)(st':PGh)(v z:Int):Prop :=
 (∃ nx:Nat,z=0/\k0<=nx/\nx<=all.length/\0<=v/\v<=pace+(nx:Int) - ran/\st'=.on false (all.take nx) nx v)\/(z=50/\v=0/\0<=n/\∃ k' nx:Nat,k0<=k'/\k'<=nx/\nx<=all.length/\st'=.down k' (all.take nx) ran)
def kC (m:Nat)(p:PV)(pace:Int)(k n:Int)(l:List Int):PGh->PGh->Int->Int->Prop
 | .on armed rows tick rep,st',v,z=>
   (k=1/\((z=41/\v=0/\cx p.ins l=false/\st'=.on armed rows tick rep)\/(z=52/\v=0/\cx p.ins l=true/\rows.length=m/\st'=.on armed rows tick rep) \/
    (z=0/\v=(rows.length:Int)/\cx p.ins l=true/\rows.length<m/\st'=.on armed (rows ++ [l]) tick rep)\/(z=50/\v=0/\cx p.ins l=true/\rows.length<m/\armed=true/\st'=.off rows.length (rows ++ [l]) tick))) \/
   (k=2/\((z=0/\v=min n ((rows.length:Int) - tick)/\st'=.on armed rows (tick+v.toNat) rep)\/(z=50/\0<=v/\v<=min n ((rows.length:Int) - tick)/\armed=true/\st'=.off rows.length rows (tick+v)))) \/
   (k=3/\v=0/\((z=0/\st'=.on armed rows tick rep)\/(z=50/\armed=true/\st'=.off rows.length rows tick))) \/
   (k=4/\v=0/\z=0/\st'=.on true rows tick rep) \/
   (k=5/\kB pace n rows.length rows tick st' v z)
 | .off k0 all ran,st',v,z=>
   ((k=1\/k=2\/k=3)/\z=50/\v=0/\st'=.off k0 all ran)\/(k=4/\v=0/\z=0/\st'=.off k0 all ran) \/
   (k=5/\kB pace n k0 all ran st' v z)
 | .down k0 all ran,st',v,z=>
   ((k=1\/k=2\/k=3)/\z=1/\v=0/\st'=.down k0 all ran)\/(k=4/\v=0/\z=0/\st'=.down k0 all ran) \/
   (k=5/\kB pace n k0 all ran st' v z)
section
variable {M:List TypeId} {w w' w0:World} {base gy g m c c' many:Nat} {q:bE} {x:PA} {p:PV} {pace ran rep n:Int} {k0 tick:Nat} {all rows:List (List Int)} {calm:Bool} {gp:Option Addr} {D:aX} {st st':PGh} {cs:List Value}
theorem dx.stepM (h:dx w base q g p m c pace many k0 all ran)(t:Step M base q w w')(hD:∀ D,be w base q D->be w' base q D)(hM:∀ x ∈ engT,x ∉ 4 :: M)(hE:180 ∉ 4 :: M):dx w' base q g p m c pace many k0 all ran:=by
 obtain⟨D,E,e,hd,hi,h2⟩:=h.ex;exact⟨ae h.hs t.size,D,E,e,hD D hd,⟨hd.blk hi.b t.tch hE,hi.gb,hi.r.step hd t hM⟩,h2⟩
theorem ft.stepM (h:ft w base q p m c pace many k0 all ran)(t:Step M base q w w')(hD:∀ D,be w base q D->be w' base q D):ft w' base q p m c pace many k0 all ran:=by
 obtain⟨D,hd,h2⟩:=h.ex;exact⟨ae h.hs t.size,D,hD D hd,h2⟩
theorem dx.disk (h:dx w base q g p m c pace many k0 all ran):∃ D,be w base q D:=by
 obtain⟨D,E,e,hd,_⟩:=h.ex;exact⟨D,hd⟩
theorem ft.disk' (h:ft w base q p m c pace many k0 all ran):∃ D,be w base q D:=by
 obtain⟨D,hd,_⟩:=h.ex;exact⟨D,hd⟩
theorem gg.disk' (h:gg w base q p m c pace many calm k0 all ran):∃ D,be w base q D:=by
 obtain⟨D,N,hd,_⟩:=h.ex;exact⟨D,hd⟩
theorem dW.of (hd:be w base q D)(s:Step mutE base q w w'):dW w w':=fun g t cs h hb=>hd.blk hb s.tch (by rcases h with rfl | rfl | rfl | rfl | rfl <;> decide)
theorem dW.of_below (hb:Below w.heap.size w w'):dW w w':=fun g t cs _ h=>h.below hb h.lt
theorem PlIn.step (h:PlIn w base gy q x p pace gp)(hd:be w base q D)(s:Step mutE base q w w'):PlIn w' base gy q x p pace gp :=
 ⟨hd.blk h.blk s.tch aU,fun W hb=>h.pr W (s.bel.trans hb),h.gy0⟩
theorem PlIn.below (h:PlIn w base gy q x p pace gp)(hb:Below w.heap.size w w')(hs:base<=w.heap.size):PlIn w' base gy q x p pace gp :=
 ⟨h.blk.below hb h.blk.lt,fun W hW=>h.pr W ((hb.mono hs).trans hW),h.gy0⟩
theorem PlSt.hs (h:PlSt w base gy q x p m c pace many st):base<=w.heap.size:=by
 cases st with
 | on a r t e=>obtain⟨g,_,h2⟩:=h;exact h2.hs
 | off k a r=>obtain⟨g,_,h2⟩:=h;exact h2.hs
 | down k a r=>exact h.2.hs
theorem PlSt.disk (h:PlSt w base gy q x p m c pace many st):∃ D,be w base q D:=by
 cases st with
 | on a r t e=>obtain⟨g,_,h2⟩:=h;exact h2.disk
 | off k a r=>obtain⟨g,_,h2⟩:=h;exact h2.disk
 | down k a r=>exact h.2.disk'
theorem PlSt.pin (h:PlSt w base gy q x p m c pace many st):∃ gp,PlIn w base gy q x p pace gp:=by
 cases st with
 | on a r t e=>obtain⟨g,h1,h2⟩:=h;exact⟨_,h1⟩
 | off k a r=>obtain⟨g,h1,h2⟩:=h;exact⟨_,h1⟩
 | down k a r=>exact⟨_,h.1⟩
theorem PlSt.below (h:PlSt w base gy q x p m c pace many st)(hb:Below w.heap.size w w'):PlSt w' base gy q x p m c pace many st:=by
 cases st with
 | on a r t e=>obtain⟨g,h1,h2⟩:=h;exact⟨g,h1.below hb h2.hs,h2.below hb⟩
 | off k a r=>obtain⟨g,h1,h2⟩:=h;exact⟨g,h1.below hb h2.hs,h2.below hb⟩
 | down k a r=>exact⟨h.1.below hb h.2.hs,h.2.below hb⟩
theorem PlSt.more (h:PlSt w base gy q x p m c pace many st)(hc:c<=c'):PlSt w base gy q x p m c' pace many st:=by
 cases st with
 | on a r t e=>obtain⟨g,h1,h2⟩:=h;exact⟨g,h1,h2.more hc⟩
 | off k a r=>obtain⟨g,h1,h2⟩:=h;exact⟨g,h1,h2.more hc⟩
 | down k a r=>exact⟨h.1,h.2.more hc⟩
theorem PlSt.other {t:TypeId}{i:Nat}{u:Value}(h:PlSt w base gy q x p m c pace many st)(Y:Blk w g t cs)(hg:base<=g)(h1:t ∉ 4 :: mutD)(h2:∀ x ∈ engT,x ∉ 4 :: [t])(h3:180 ∉ 4 :: [t])(h4:t≠209):PlSt (w.setCell ⟨g,i,none⟩ u) base gy q x p m c pace many st:=by
 have hs:=h.hs;have s:Step [t] base q w (w.setCell ⟨g,i,none⟩ u):=Step.one (dw _) Y (aC ..) hg hs;have hP:∀ gp,PlIn w base gy q x p pace gp->PlIn (w.setCell ⟨g,i,none⟩ u) base gy q x p pace gp:=fun gp hp=>⟨hp.blk.far (p:=⟨g,i,none⟩) (hp.blk.ne_ Y (fun e=>h4 e.symm)) u,fun W hW=>hp.pr W (s.bel.trans hW),hp.gy0⟩
 cases st with
 | on a r t e=>obtain⟨g,k1,k2⟩:=h;exact⟨g,hP _ k1,k2.stepM (D':=newV 1 1) s (fun D hd=>hd.other Y h1 u) h2 h3⟩
 | off k a r=>obtain⟨g,k1,k2⟩:=h;exact⟨g,hP _ k1,k2.stepM s (fun D hd=>hd.other Y h1 u) h2 h3⟩
 | down k a r=>exact⟨hP _ h.1,h.2.stepM s (fun D hd=>hd.other Y h1 u)⟩
theorem Step.newSet {i:Nat}{u:Value}(h:Step M base q w w')(hg:w.heap.size<=g)(hb:base<=w.heap.size):Step M base q w (w'.setCell ⟨g,i,none⟩ u):=by
 obtain⟨F,hF,tF⟩:=h.tch;refine⟨h.bel.setCell (p:=⟨g,i,none⟩) (ae hb hg) u,fun g'=>F g'\/g'=g,(hF.mono (fun g _ e=>.inl e)).trans (Keep.one (dw _)) (fun g _ e=>.inr e),fun g' t cs e hbk=>?_⟩;rcases e with e | rfl
 · exact tF _ t cs e hbk
 · have:=hbk.lt;omega
theorem run_off {e:EP}{E:EgV}{hash:Int}(h:cF w base q g e m p hash pace E)(ho:E.off=true)(most:Int):Ca 33 #[.pointer (some ⟨g,0,none⟩),I most] w fun e' w'=>e'=.returned (.tuple #[I 0,I 50])/\w=w':=by
 have hr:=mT h;rw[ho,if_pos rfl] at hr;clear h ho;go_enter Tryz.func33,Tryz.ntmps33;go_wp2_with (first | (go_at_call 122;(with_reducible refine (hr).mono ?_);rintro e1 w1 ⟨rfl,rfl⟩) | fail);go_ret2;exact⟨rfl,rfl⟩
theorem egrun_nil (w:World)(most:Int):Ca 33 #[.pointer none,I most] w fun e' w'=>e'=.returned (.tuple #[I 0,I 1])/\w=w':=by
 have hr:=oO w;go_enter Tryz.func33,Tryz.ntmps33;go_wp2_with (first | (go_at_call 122;(with_reducible refine (hr).mono ?_);rintro e1 w1 ⟨rfl,rfl⟩) | fail);go_ret2;exact⟨rfl,rfl⟩
theorem t_submitO (V:Env p m pace many)(h:dx w base q g p m c pace many k0 all ran)(B:Option Addr)(n d:Nat)(l:List Int)(hl:RI w B n l)(hn:n<=maxLen)(hi:eN l) :
 Ca 31 #[.pointer (some ⟨g,0,none⟩),.slice B n d] w fun e' w'=>Step mutE base q w w'/\e'=.returned (.tuple #[I 0,I 50])/\dx w' base q g p m c pace many k0 all ran:=by
 have hs:=h.hs;obtain⟨D,E,e,hd,hin,ok,ho,hdo,hm,hw,hmay,i1,i2⟩:=h.ex;have hb:=V.big;refine (qf hin ok V.w hd hs aS aS B n d l hl hn hi).mono fun e' w' ⟨h1,h2⟩=>⟨h2.s,?_,ae hs h2.s.size,?_⟩
 · rw[h1,subE_off ho]
 · rw[subE_off ho] at h2;exact⟨D,E,e,h2.d,h2.i,ok,ho,hdo,hm,hw,hmay,i1,i2⟩
theorem t_saveO (V:Env p m pace many)(h:dx w base q g p m c pace many k0 all ran) :
 Ca 32 #[.pointer (some ⟨g,0,none⟩)] w fun e' w'=>Step mutE base q w w'/\e'=.returned (I 50)/\dx w' base q g p m c pace many k0 all ran:=by
 have hs:=h.hs;obtain⟨D,E,e,hd,hin,ok,ho,hdo,hm,hw,hmay,i1,i2⟩:=h.ex;have hb:=V.big;refine (saveE_any hin ok V.w hd hs aS aS).mono fun e' w' ⟨h1,h2⟩=>⟨h2.s,?_,ae hs h2.s.size,?_⟩
 · rw[h1,saveE_off ho]
 · rw[saveE_off ho] at h2;exact⟨D,E,e,h2.d,h2.i,ok,ho,hdo,hm,hw,hmay,i1,i2⟩
theorem Step.eToP (h:Step mutE base q w w'):Step mutP base q w w':=h.mono fun t ht=>aB _ ht
theorem t_openP (V:Env p m pace many)(h:gg w base q p m c pace many calm k0 all ran)(hx:ej w base x p)(hcb:c<7000000000000000000) :
 Ca 25 #[.pointer (some ⟨q.d,0,none⟩),.agg #[.slice x.A1 x.n1 x.c1,.slice x.A2 x.n2 x.c2,I p.regs,.slice x.A3 x.n3 x.c3,.slice x.A4 x.n4 x.c4],I pace] w fun e' w'=>
  Step mutE base q w w'/\∃ P z,e'=.returned (.tuple #[.pointer P,I z]) /\
   ((z=0/\∃ (g nx:Nat) (rep:Int),P=some ⟨g,0,none⟩/\k0<=nx/\nx<=all.length/\0<=rep/\rep<=pace+(nx:Int) - ran/\StOn w' base q g p m (c+2000) pace many calm (all.take nx) nx rep) \/
    (z=50/\P=none/\calm=false/\∃ k' nx:Nat,k0<=k'/\k'<=nx/\nx<=all.length/\ft w' base q p m (c+2000) pace many k' (all.take nx) ran)):=by
 refine (t_open V h hx hcb).mono fun e' w' ⟨s,g,z,he,ho⟩=>⟨s,_,z,he,?_⟩
 rcases ho with ⟨rfl,nx,rep,h1,h2,h3,h4,h5⟩ | ⟨rfl,h1,k',nx,h2,h3,h4,h5⟩
 · exact .inl ⟨rfl,g,nx,rep,rfl,h1,h2,h3,h4,h5⟩
 · exact .inr ⟨rfl,rfl,h1,k',nx,h2,h3,h4,h5⟩
theorem t_crashR (h:ft w base q p m c pace many k0 all ran)(B:Option Addr)(n d:Nat)(cs:List UInt8)(hl:eq w base ⟨B,n,d⟩ cs) :
 Ca 43 #[.pointer (some ⟨q.d,0,none⟩),.slice B n d] w fun e' w'=>e'=.returned (.tuple #[])/\gg w' base q p m c pace many true k0 all ran/\Step mutE base q w w':=by
 have hs:=h.hs;obtain⟨D,hd,hm,hmay⟩:=h.ex;obtain⟨N,r1,r2,r3,r4⟩:=hmay.crash cs;exact (s_crashR hd hs B n d cs hl.1 hl.2.2 hl.2.1).mono fun e' w' ⟨h1,h2,h3⟩=>⟨h1,⟨ae hs h3.size,_,N,h2,r1,r4.trans hm,fun _=>r3,r2⟩,h3.dToE⟩
theorem oP (V:Env p m pace many)(h:PlIn w base gy q x p pace gp)(hm:ft w base q p m c pace many k0 all ran)
 (hRB:eq w base ⟨C,c1,c1'⟩ bs) (hn:n<=9223372036854775807) (hcb:c<7000000000000000000) :
 Ca 134 #[.pointer (some ⟨gy,0,none⟩),.agg #[I 5,I n,.slice R r r',.slice C c1 c1']] w fun e w'=>∃ v z,e=.returned (.agg #[I z,I v])/\Step mutP base q w w'/\∃ st',kB pace n k0 all ran st' v z/\PlSt w' base gy q x p m (c+2000) pace many st':=by
 have hs:=hm.hs;have hgy:=h.blk.lt;refine (plcrash_any (K1:=fun w1=>gg w1 base q p m c pace many true k0 all ran/\Step mutE base q w w1) (K2:=fun w1=>gg w1 base q p m c pace many (decide (n<=-1)) k0 all ran/\Step mutE base q w w1)
  (K3:=fun P z w1=>Step mutP base q w w1/\((z=0/\∃ (g nx:Nat) (rep:Int),P=some ⟨g,0,none⟩/\k0<=nx/\nx<=all.length/\0<=rep/\rep<=pace+(nx:Int) - ran/\StOn w1 base q g p m (c+2000) pace many (decide (n<=-1)) (all.take nx) nx rep) \/
   (z=50/\P=none/\decide (n<=-1)=false/\∃ k' nx:Nat,k0<=k'/\k'<=nx/\nx<=all.length/\ft w1 base q p m (c+2000) pace many k' (all.take nx) ran)))
  (K4:=fun P w1=>Step mutP base q w w1/\∃ (g nx:Nat) (rep:Int),P=some ⟨g,0,none⟩/\k0<=nx/\nx<=all.length/\0<=rep/\rep<=pace+(nx:Int) - ran/\StOn w1 base q g p m (c+2000) pace many true (all.take nx) nx rep)
  (K5:=fun P v w1=>Step mutP base q w w1/\∃ (g nx:Nat),P=some ⟨g,0,none⟩/\k0<=nx/\nx<=all.length/\0<=v/\v<=pace+(nx:Int) - ran/\StOn w1 base q g p m (c+2000) pace many true (all.take nx) nx v)
  h.blk ?_ ?_ ?_ ?_ ?_ ?_ ?_).mono ?_
 · intro W hb;obtain⟨D,hd⟩:=(hm.below hb).disk';exact (t_crashR (hm.below hb) C c1 c1' bs (hRB.below hb)).mono fun e w1 ⟨h1,h2,h3⟩=>⟨h1,dW.of hd h3,h2,(Step.of_below hb hs).trans h3⟩
 · intro W0 W ⟨r,s⟩ hb;obtain⟨D,hd⟩:=(r.below hb).disk';exact (t_cutR (r.below hb) n hn).mono fun e w1 ⟨h1,h2,h3⟩=>⟨h1,dW.of hd h3,h2,(s.trans (Step.of_below hb r.hs)).trans h3⟩
 · intro W0 W ⟨r,s⟩ hb;obtain⟨D,hd⟩:=(r.below hb).disk';have s2:=s.trans (Step.of_below hb r.hs);exact (t_openP V (r.below hb) (h.pr W s2.bel) hcb).mono fun e w1 ⟨h1,P,z,h2,h3⟩=>⟨dW.of hd h1,P,z,h2,(s2.trans h1).eToP,h3⟩
 · rintro P W ⟨s,⟨_,g,nx,rep,rfl,k1,k2,k3,k4,k5⟩ | ⟨hz,_⟩⟩
   · obtain⟨D,hd⟩:=k5.disk;exact (t_cut k5 (-1) aS).mono fun e w1 ⟨h1,h2,h3⟩=>⟨h1,dW.of hd h3,s.trans h3.eToP,g,nx,rep,rfl,k1,k2,k3,k4,h2⟩
   · exact absurd hz aU
 · rintro P W ⟨s,g,nx,rep,rfl,k1,k2,k3,k4,k5⟩;exact (t_stat k5).mono fun e w1 ⟨pa,sv,h1,_,_,_,_,_,hb⟩=>⟨dW.of_below hb,_,_,_,_,rep,_,h1,s.trans (Step.of_below hb k5.hs),g,nx,rfl,k1,k2,k3,k4,k5.below hb⟩
 · rintro P z w1 g1 t cs i u ⟨s,hk⟩ hb ht hg;have ht2:t ∉ 4 :: mutD:=by rcases ht with rfl | ⟨rfl,_⟩ <;> decide
   have ht3:∀ x ∈ engT,x ∉ 4 :: [t]:=by rcases ht with rfl | ⟨rfl,_⟩ <;> decide
   have ht4:180 ∉ 4 :: [t]:=by rcases ht with rfl | ⟨rfl,_⟩ <;> decide
   have hbg:base<=g1:=by rcases hg with rfl | hg;exact h.gy0;omega
   have s1:Step [t] base q w1 (w1.setCell ⟨g1,i,none⟩ u):=Step.one (dw _) hb (aC ..) hbg (ae hs s.size);have s2:Step mutP base q w (w1.setCell ⟨g1,i,none⟩ u):=by
    rcases ht with rfl | ⟨rfl,hg2⟩
    · exact s.trans (s1.mono aU)
    · exact s.newSet hg2 hs
   refine⟨s2,?_⟩;rcases hk with ⟨hz,g,nx,rep,hP,k1,k2,k3,k4,k5⟩ | ⟨hz,hP,k1,k',nx,k2,k3,k4,k5⟩
   · exact .inl ⟨hz,g,nx,rep,hP,k1,k2,k3,k4,k5.stepM (D':=newV 1 1) s1 (fun D hd=>hd.other hb ht2 u) ht3 ht4⟩
   · exact .inr ⟨hz,hP,k1,k',nx,k2,k3,k4,k5.stepM s1 (fun D hd=>hd.other hb ht2 u)⟩
 · rintro P v w1 g1 cs i u ⟨s,g,nx,hP,k1,k2,k3,k4,k5⟩ hb hg;have s1:Step [100] base q w1 (w1.setCell ⟨g1,i,none⟩ u):=Step.one (dw _) hb (aC ..) aS (ae hs s.size);exact⟨s.newSet hg hs,g,nx,hP,k1,k2,k3,k4,k5.stepM (D':=newV 1 1) s1 (fun D hd=>hd.other hb aU u) aU aU⟩
 · rintro e w' ⟨P,hb,⟨z,hz,rfl,s,hk⟩ | ⟨v,rfl,s,g,nx,rfl,k1,k2,k3,k4,k5⟩⟩
   · rcases hk with ⟨hz0,_⟩ | ⟨rfl,rfl,k1,k',nx,k2,k3,k4,k5⟩
     · exact absurd hz0 hz
     · exact⟨0,50,rfl,s,.down k' (all.take nx) ran,.inr ⟨rfl,rfl,by have:=of_decide_eq_false k1;omega,k',nx,k2,k3,k4,rfl⟩,⟨hb,fun W hW=>h.pr W (s.bel.trans hW),h.gy0⟩,k5⟩
   · exact⟨v,0,rfl,s,.on false (all.take nx) nx v,.inl ⟨nx,rfl,k1,k2,k3,k4,rfl⟩,g,⟨hb,fun W hW=>h.pr W (s.bel.trans hW),h.gy0⟩,k5⟩
theorem says_on {armed:Bool}(V:Env p m pace many)(hg:PlIn w base gy q x p pace (some ⟨g,0,none⟩))(h:StOn w base q g p m c pace many (!armed) rows tick rep)(hR:eZ k n r c1=true)
 (hl:RI w R r l) (hr:r<=maxLen) (hi:eN l) (hRB:eq w base ⟨C,c1,c1'⟩ bs) (hn:n<=9223372036854775807) (hcb:c<7000000000000000000) (hb:Below w.heap.size w W) :
 DoSays k n gy q.d (some ⟨g,0,none⟩) R r r' C c1 c1' (fun v z w1=>Step mutP base q w w1/\∃ st',kC m p pace k n l (.on armed rows tick rep) st' v z/\PlSt w1 base gy q x p m (c+2000) pace many st') W:=by
 have hs:=h.hs;have hW:=h.below hb;have gW:=hg.below hb hs;have sW:Step mutP base q w W:=Step.of_below hb hs;obtain⟨D,hd⟩:=hW.disk;have hn0:k=2\/k=4->0<=n:=by have:=jP.1 hR;omega
 refine⟨fun e=>?_,fun e=>?_,fun e=>?_,fun e=>?_,fun e=>?_⟩
 · refine (t_submit V hW R r r' l (hl.below (B:=w.heap.size) hb aW) hr hi).mono fun e1 w1 ⟨s,v,z,he,hsr⟩=>⟨dW.of hd s,v,z,he,sW.trans s.eToP,?_⟩
   rcases hsr with ⟨z1,v1,f1,o1⟩ | ⟨z1,v1,f1,f2,o1⟩ | ⟨z1,v1,f1,f2,o1⟩ | ⟨z1,v1,f1,f2,f3,o1⟩
   · exact⟨_,.inl ⟨e,.inl ⟨z1,v1,f1,rfl⟩⟩,g,gW.step hd s,o1.more aS⟩
   · exact⟨_,.inl ⟨e,.inr (.inl ⟨z1,v1,f1,f2,rfl⟩)⟩,g,gW.step hd s,o1.more aS⟩
   · exact⟨_,.inl ⟨e,.inr (.inr (.inl ⟨z1,v1,f1,f2,rfl⟩))⟩,g,gW.step hd s,o1.more aS⟩
   · exact⟨_,.inl ⟨e,.inr (.inr (.inr ⟨z1,v1,f1,f2,by simpa using f3,rfl⟩))⟩,g,gW.step hd s,o1.more aS⟩
 · refine (t_run V hW n (hn0 (.inl e)) hcb).mono fun e1 w1 ⟨s,v,z,he,hsr⟩=>⟨dW.of hd s,v,z,he,sW.trans s.eToP,?_⟩
   rcases hsr with ⟨z1,v1,o1⟩ | ⟨z1,v0,v1,f3,o1⟩
   · exact⟨_,.inr (.inl ⟨e,.inl ⟨z1,v1,rfl⟩⟩),g,gW.step hd s,o1⟩
   · exact⟨_,.inr (.inl ⟨e,.inr ⟨z1,v0,v1,by simpa using f3,rfl⟩⟩),g,gW.step hd s,o1⟩
 · refine (t_save V hW hcb).mono fun e1 w1 ⟨s,z,he,hsr⟩=>⟨dW.of hd s,z,he,sW.trans s.eToP,?_⟩
   rcases hsr with ⟨z1,o1⟩ | ⟨z1,f3,o1⟩
   · exact⟨_,.inr (.inr (.inl ⟨e,rfl,.inl ⟨z1,rfl⟩⟩)),g,gW.step hd s,o1⟩
   · exact⟨_,.inr (.inr (.inl ⟨e,rfl,.inr ⟨z1,by simpa using f3,rfl⟩⟩)),g,gW.step hd s,o1⟩
 · refine (t_cut hW n hn).mono fun e1 w1 ⟨he,o1,s⟩=>⟨dW.of hd s,he,sW.trans s.eToP,_,.inr (.inr (.inr (.inl ⟨e,rfl,rfl,rfl⟩))),g,gW.step hd s,?_⟩
   have:=hn0 (.inr e);rw[aj aS] at o1;exact o1.more aS
 · subst e;refine (oP V gW hW.may (hRB.below hb) hn hcb).mono fun e1 w1 ⟨v,z,he,s,st',h1,h2⟩=>⟨fun g9 cs9 h9=>hd.blk h9 s.tch aU,v,z,he,sW.trans s,st',.inr (.inr (.inr (.inr ⟨rfl,h1⟩))),h2⟩
theorem says_off (V:Env p m pace many)(hg:PlIn w base gy q x p pace (some ⟨g,0,none⟩))(h:dx w base q g p m c pace many k0 all ran)(hR:eZ k n r c1=true)
 (hl:RI w R r l) (hr:r<=maxLen) (hi:eN l) (hRB:eq w base ⟨C,c1,c1'⟩ bs) (hn:n<=9223372036854775807) (hcb:c<7000000000000000000) (hb:Below w.heap.size w W) :
 DoSays k n gy q.d (some ⟨g,0,none⟩) R r r' C c1 c1' (fun v z w1=>Step mutP base q w w1/\∃ st',kC m p pace k n l (.off k0 all ran) st' v z/\PlSt w1 base gy q x p m (c+2000) pace many st') W:=by
 have hs:=h.hs;have hW:=h.below hb;have gW:=hg.below hb hs;have sW:Step mutP base q w W:=Step.of_below hb hs;obtain⟨D,hd⟩:=hW.disk;refine⟨fun e=>?_,fun e=>?_,fun e=>?_,fun e=>?_,fun e=>?_⟩
 · exact (t_submitO V hW R r r' l (hl.below (B:=w.heap.size) hb aW) hr hi).mono fun e1 w1 ⟨s,he,o1⟩=>⟨dW.of hd s,0,50,he,sW.trans s.eToP,_,.inl ⟨.inl e,rfl,rfl,rfl⟩,g,gW.step hd s,o1.more aS⟩
 · obtain⟨D2,E,ep,hd2,hin,ok,ho,h2⟩:=hW.ex;refine (run_off hin ho n).mono fun e1 w1 ⟨he,hw⟩=>?_
   subst hw;exact⟨fun _ _ _ _ h9=>h9,0,50,he,sW,_,.inl ⟨.inr (.inl e),rfl,rfl,rfl⟩,g,gW,hW.more aS⟩
 · exact (t_saveO V hW).mono fun e1 w1 ⟨s,he,o1⟩=>⟨dW.of hd s,50,he,sW.trans s.eToP,_,.inl ⟨.inr (.inr e),rfl,rfl,rfl⟩,g,gW.step hd s,o1.more aS⟩
 · exact (t_cutO hW n hn).mono fun e1 w1 ⟨he,o1,s⟩=>⟨dW.of hd s,he,sW.trans s.eToP,_,.inr (.inl ⟨e,rfl,rfl,rfl⟩),g,gW.step hd s,o1.more aS⟩
 · subst e;refine (oP V gW hW.may (hRB.below hb) hn hcb).mono fun e1 w1 ⟨v,z,he,s,st',h1,h2⟩=>⟨fun g9 cs9 h9=>hd.blk h9 s.tch aU,v,z,he,sW.trans s,st',.inr (.inr ⟨rfl,h1⟩),h2⟩
theorem says_down (V:Env p m pace many)(hg:PlIn w base gy q x p pace none)(h:ft w base q p m c pace many k0 all ran)(hR:eZ k n r c1=true)
 (hRB:eq w base ⟨C,c1,c1'⟩ bs) (hn:n<=9223372036854775807) (hcb:c<7000000000000000000) (hb:Below w.heap.size w W) :
 DoSays k n gy q.d none R r r' C c1 c1' (fun v z w1=>Step mutP base q w w1/\∃ st',kC m p pace k n l (.down k0 all ran) st' v z/\PlSt w1 base gy q x p m (c+2000) pace many st') W:=by
 have hs:=h.hs;have hW:=h.below hb;have gW:=hg.below hb hs;have sW:Step mutP base q w W:=Step.of_below hb hs;obtain⟨D,hd⟩:=hW.disk';refine⟨fun e=>?_,fun e=>?_,fun e=>?_,fun e=>?_,fun e=>?_⟩
 · refine (egsubmit_nil W R r r').mono fun e1 w1 ⟨he,hw⟩=>?_
   subst hw;exact⟨fun _ _ _ _ h9=>h9,0,1,he,sW,_,.inl ⟨.inl e,rfl,rfl,rfl⟩,gW,hW.more aS⟩
 · refine (egrun_nil W n).mono fun e1 w1 ⟨he,hw⟩=>?_
   subst hw;exact⟨fun _ _ _ _ h9=>h9,0,1,he,sW,_,.inl ⟨.inr (.inl e),rfl,rfl,rfl⟩,gW,hW.more aS⟩
 · refine (egsave_nil W).mono fun e1 w1 ⟨he,hw⟩=>?_
   subst hw;exact⟨fun _ _ _ _ h9=>h9,1,he,sW,_,.inl ⟨.inr (.inr e),rfl,rfl,rfl⟩,gW,hW.more aS⟩
 · exact (t_cutM hW n hn).mono fun e1 w1 ⟨he,o1,s⟩=>⟨dW.of hd s,he,sW.trans s.eToP,_,.inr (.inl ⟨e,rfl,rfl,rfl⟩),gW.step hd s,o1.more aS⟩
 · subst e;refine (oP V gW hW (hRB.below hb) hn hcb).mono fun e1 w1 ⟨v,z,he,s,st',h1,h2⟩=>⟨fun g9 cs9 h9=>hd.blk h9 s.tch aU,v,z,he,sW.trans s,st',.inr (.inr ⟨rfl,h1⟩),h2⟩
theorem do_st (V:Env p m pace many)(h:PlSt w base gy q x p m c pace many st)(hR:eZ k n r c1=true)
 (hl:RI w R r l) (hr:r<=maxLen) (hi:eN l) (hRB:eq w base ⟨C,c1,c1'⟩ bs) (hn:n<=9223372036854775807) (hcb:c<7000000000000000000) :
 Ca 51 #[.pointer (some ⟨gy,0,none⟩),.agg #[I k,I n,.slice R r r',.slice C c1 c1']] w fun e w'=>∃ v z,e=.returned (.agg #[I z,I v])/\Step mutP base q w w'/\∃ st',kC m p pace k n l st st' v z/\PlSt w' base gy q x p m (c+2000) pace many st':=by
 have hs:=h.hs;have hst:∀ (v z:Int) w1 gr cs (i:Nat) (u:Value),(Step mutP base q w w1/\∃ st',kC m p pace k n l st st' v z/\PlSt w1 base gy q x p m (c+2000) pace many st')->Blk w1 gr 100 cs->w.heap.size<=gr->Step mutP base q w (w1.setCell ⟨gr,i,none⟩ u)/\∃ st',kC m p pace k n l st st' v z/\PlSt (w1.setCell ⟨gr,i,none⟩ u) base gy q x p m (c+2000) pace many st' :=
  fun v z w1 gr cs i u ⟨s,st',h1,h2⟩ hb hg=>⟨s.newSet hg hs,st',h1,h2.other hb (ae hs hg) aU aU aU aU⟩
 cases st with
 | on a rw t e=>
   obtain⟨g,h1,h2⟩:=h;exact do_any h1.blk hR (fun W hb _=>says_on V h1 h2 hR hl hr hi hRB hn hcb hb) hst
 | off k1 al ra=>
   obtain⟨g,h1,h2⟩:=h;exact do_any h1.blk hR (fun W hb _=>says_off V h1 h2 hR hl hr hi hRB hn hcb hb) hst
 | down k1 al ra=>
   obtain⟨h1,h2⟩:=h;exact do_any h1.blk hR (fun W hb _=>says_down V h1 h2 hR hRB hn hcb hb) hst
end
