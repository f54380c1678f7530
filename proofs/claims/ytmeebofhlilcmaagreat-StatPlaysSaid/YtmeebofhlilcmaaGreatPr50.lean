/- Parts: DoW, PlayC, PlayR, PlayN, EngS. -/
import Derived.Test.YtmeebofhlilcmaaGreatPr49
set_option linter.unusedVariables false
set_option linter.unusedSimpArgs false
set_option maxRecDepth 100000
set_option maxHeartbeats 0
namespace Go.Proofs.YtmeebofhlilcmaaGreat
open Go.RowKit Go.WideShapes Go.ChangeShapes Go.Deep Go.Joins
structure DoW where
 kind:Int
 n:Int
 l:List Int
 b:List UInt8
def DosW (w:World)(A:Option Addr)(n:Nat)(l:List DoW):Prop :=
 l.length=n/\∀ k x,l[k]?=some x->∃ b o C q e B m c,A=some ⟨b,o,none⟩/\b<w.heap.size/\w.cell? ⟨b,o+k * 4+0,none⟩=some (I x.kind)/\w.cell? ⟨b,o+k * 4+1,none⟩=some (I x.n)/\w.cell? ⟨b,o+k * 4+2,none⟩=some (.slice C q e)/\w.cell? ⟨b,o+k * 4+3,none⟩=some (.slice B m c) /\
  RI w C q x.l/\q<=e/\e<=maxLen/\RB w B m x.b/\m<=c/\c<=maxLen/\(-9223372036854775808<=x.kind/\x.kind<=9223372036854775807)/\(-9223372036854775808<=x.n/\x.n<=9223372036854775807)/\eE x.l
theorem DosW.below {w w':World}{A:Option Addr}{n B0:Nat}{l:List DoW}(h:DosW w A n l)(hb:Below B0 w w')(hB:w.heap.size<=B0):DosW w' A n l:=by
 refine⟨h.1,fun k x hx=>?_⟩;obtain⟨b,o,C,q,e,B,m,c,hA,hlt,c0,c1,c2,c3,hi,h1,h2,hr,rest⟩:=h.2 k x hx;have hs:=hb.size;have hc:∀ j,w'.cell? ⟨b,j,none⟩=w.cell? ⟨b,j,none⟩:=fun j=>hb.cell (p:=⟨b,j,none⟩) (by show b<B0;omega)
 exact⟨b,o,C,q,e,B,m,c,hA,aS,by rw[hc];exact c0,by rw[hc];exact c1,by rw[hc];exact c2,by rw[hc];exact c3,hi.below hb hB,h1,h2,hr.below hb hB,rest⟩
theorem intOk_of {l:List Int}(h:∀ z ∈ l,-9223372036854775808<=z/\z<=9223372036854775807):eE l:=fun i hi=>by
 unfold bj;rw[ag,ap hi];exact h _ (List.getElem_mem hi)
open Go.RowKit
def rpE (x:Int × Int):List Value:=[I x.1,I x.2]
theorem mA (x:Int × Int):(rpE x).length=2:=rfl
theorem elemRp:dI Tryz.prog 96 100 (.agg #[I 0,I 0]) 2 16:=dI.mk' Tryz.underlying96 bE rfl aU
theorem rpE_one (x:Int × Int):∀ u ∈ rpE x,u.oneCell'=true:=by
 intro u hu;simp only[rpE,List.mem_cons,List.not_mem_nil,or_false] at hu;rcases hu with rfl | rfl <;> rfl
section
variable {α:Type} {size:Nat} {enc:α→List Value} {M:List TypeId} {w w' w5 w6:World} {base b n c g lim:Nat} {e:TypeId} {A:Option Addr} {l:List α} {q:bB} {D:aW}
theorem OwS.blkP (h:OwS size enc w base e A n c l)(hg:A.map (·.block)=some g):base<=g/\g<w.heap.size/\∃ cs,Blk w g e cs:=by
 rcases h.2.2 with ⟨hv,_⟩ | ⟨g',cap,cur,hv,hb,hh,_⟩
 · injection hv with hv;subst hv
   cases hg
 · injection hv with hv;subst hv;simp only[Option.map_some,Option.some.injEq] at hg;subst hg;have hk:Blk w g' e cur.toList:=by unfold Blk;rw[hh]
   exact⟨hb,hk.lt,_,hk⟩
theorem bc.owS (h:bc w base q D)(ho:OwS size enc w b e A n c l)(k:es M q w w')(ht:e ∉ 4 :: M):OwS size enc w' b e A n c l:=by
 obtain⟨F,hF,tF⟩:=k;refine⟨ho.1,gG ho.2 hF (fun g hg hf=>?_)⟩;have hg':A.map (·.block)=some g:=by
  cases A with
  | none=>cases hg
  | some a=>simpa [Value.ownBlock] using hg
 obtain⟨_,_,cs,hb⟩:=ho.blkP hg';obtain⟨h1,h2⟩:=h.notBool hb (fun e=>ht mO);rcases tF _ _ _ hf hb with q | q | q
 · exact ht (aA _ q)
 · exact h1 q
 · exact h2 q
theorem Step.of_appS (ho:OwS size enc w base e A n c l)(hg:w.grownBy w' (A.map (·.block)))(hs:base<=w.heap.size):Step [e] base q w w':=by
 cases A with
 | none=>
   have hb:Below w.heap.size w w':=(Below.refl _ _).grown hg aX (fun k hk=>by cases hk);exact Step.of_below hb hs
 | some a=>
   obtain⟨h1,h2,cs,hb⟩:=ho.blkP (g:=a.block) rfl;exact Step.one hg hb aZ h1 hs
theorem Step.new_appS (h:Step M base q w w5)(ho:OwS size enc w5 lim e A n c l)(hl:w.heap.size<=lim)(hb:base<=w.heap.size)(hg:w5.grownBy w6 (A.map (·.block))):Step M base q w w6:=by
 have s:=Step.of_appS (base:=base) (q:=q) (ho.rebase (ae hb hl)) hg (ae hb h.size);obtain⟨F,hF,tF⟩:=h.tch;refine⟨h.bel.trans s.bel,fun g=>F g\/A.map (·.block)=some g,(hF.mono (fun g _ e=>.inl e)).trans (Keep.of_grown (F:=fun g=>A.map (·.block)=some g) hg (fun g e=>e)) (fun g _ e=>.inr e),fun g t cs e hbk=>?_⟩;rcases e with e | e
 · exact tF g t cs e hbk
 · have h1:=(ho.blkP e).1;have h2:=hbk.lt;omega
theorem bc.grownS (h:bc w base q D)(ho:OwS size enc w lim e A n c l)(hg:w.grownBy w' (A.map (·.block)))(ht:e ∉ 4 :: mutD):bc w' base q D:=by
 obtain⟨A9,c9,h9⟩:=h;exact⟨A9,c9,h9.keep (F:=fun g=>A.map (·.block)=some g) (Keep.of_grown hg (fun g e=>e)) (fun g9 hf e=>by
  obtain⟨_,_,cs,hb⟩:=ho.blkP e;rcases h9.foot_ty hb hf with r | r | r | r | r <;> exact absurd (by rw[r];decide) ht)⟩
end
section
variable {w:World} {base gy n c:Nat} {q:bB} {A:Option Addr} {evs:List DoW} {J:Nat→List (Int × Int)→World→Prop}
theorem plall_any (hn:n<=1000)(hlen:evs.length=n)(h0:J 0 [] w)
 (hdk:∀ k rs W,J k rs W->base<=W.heap.size/\∃ D,bc W base q D)
 (hJ:∀ k rs W W',J k rs W->Step [100] base q W W'->(∀ D,bc W base q D->bc W' base q D)->J k rs W')
 (hev:∀ k x,evs[k]?=some x->∃ b o C r r' B m m',A=some ⟨b,o,none⟩/\(∀ W,Step mutP base q w W->b<W.heap.size/\W.cell? ⟨b,o+k * 4,none⟩=some (I x.kind)/\W.cell? ⟨b,o+k * 4+1,none⟩=some (I x.n)/\W.cell? ⟨b,o+k * 4+2,none⟩=some (.slice C r r')/\W.cell? ⟨b,o+k * 4+3,none⟩=some (.slice B m m')) /\
  (∀ W rs,J k rs W->Step mutP base q w W->Ca 51 #[.pointer (some ⟨gy,0,none⟩),.agg #[I x.kind,I x.n,.slice C r r',.slice B m m']] W fun e w1=>∃ v z,e=.returned (.agg #[I z,I v])/\Step mutP base q W w1/\J (k+1) (rs ++ [(z,v)]) w1)) :
 Ca 52 #[.pointer (some ⟨gy,0,none⟩),.slice A n c] w fun e w'=>∃ A' c' rs,e=.returned (.slice A' n c')/\OwS 2 rpE w' w.heap.size 100 A' n c' rs/\J n rs w'/\Step mutP base q w w':=by
 have hs:=(hdk _ _ _ h0).1;have H0:=aT h0;have HD:=aT hdk;have HJ:=aT hJ;have HE:=aT hev;have HL:=aT hlen;clear h0 hdk hJ hev hlen;go_enter Tryz.func52,Tryz.ntmps52;go_wp2_with fail;go_loopw [5,10] (fun v i wr=>∃ (k:Nat) (A':Option Addr) (c':Nat) (rs:List (Int × Int)),k<=n/\i=I (k:Nat)/\v=.slice A' k c'/\Hid (OwS 2 rpE wr w.heap.size 100 A' k c' rs)/\Hid (J k rs wr)/\Hid (Step mutP base q w wr)) (fun _ i _=>n - (intOf i).toNat)
 case atStart=>exact⟨0,none,0,[],aS,rfl,rfl,OwS.nil _ _ _ _ _,H0.out,Step.refl _ _ _ _⟩
 case round=>
  clear H0;obtain⟨k,A',c',rs,hk,rfl,rfl,hO,hJJ,hT⟩:=hrel;have hws:=hT.out.size
  by_cases hlt:k<n
  · obtain⟨x,hx⟩:∃ x,evs[k]?=some x:=⟨_,ap (by rw[HL.out];exact hlt)⟩;obtain⟨b,o,C,r,r',B,m,m',rfl,hcell,hdo⟩:=HE.out k x hx;obtain⟨hbl,x0,x1,x2,x3⟩:=hcell wr hT.out;clear hcell HE;go_upto_region 5 with fail;refine dv (fun W=>Below wr.heap.size wr W/\Blk W wr.heap.size 98 [I x.kind,I x.n,.slice C r r',.slice B m m']) ⟨ba,bH⟩ ?_;rintro w4 ⟨hb4,he4⟩;have hbs:=(HD.out _ _ _ hJJ.out).1;have J4:=aT (HJ.out k rs wr w4 hJJ.out (Step.of_below hb4 hbs) (fun D hd=>hd.below hb4));have T4:=aT (hT.out.trans (Step.of_below hb4 hbs));have O4:=aT (hO.out.below hb4 aX);have z0:=he4.c0;have z1:=he4.c1;have z2:=he4.c2;have z3:=he4.c3;have c5:=hdo w4 rs J4.out T4.out;clear hdo he4 hb4 hO hJJ hT x0 x1 x2 x3;go_wp2_with (first | ((go_at_call 51;(with_reducible refine (c5).mono ?_);rintro e w5 ⟨v,z,rfl,s5,j5⟩);obtain⟨D9,hd9⟩:=(HD.out _ _ _ J4.out).2;have O5:=aT (hd9.owS O4.out s5.tch aU);have T5:=aT (T4.out.trans s5);have J5:=aT j5;have sz5:=T5.out.size;clear s5 j5 c5 hd9) | (at_builtin;refine mG rfl rfl elemRp rpE_one (s:=.tmp 14) (N:=k+1) (L:=rs ++ [(z,v)]) rfl (O5.out.below (b:=w5.heap.size) ba aX) rfl (k:=[(z,v)]) (RdS.of_block (l:=[(z,v)]) (dQ _ _ aZ) mA rfl) rfl rfl bU aS bq ?_;intro A6 c6 w6 hown6 hg6 hat6 hb6) | fail);have hb5:Below w5.heap.size w5 (w5.alloc (.cells #[I z,I v] 100)):=ba;have hO5:=O5.out.below hb5 aX;have hb5s:=(HD.out _ _ _ J5.out).1;have J5':=HJ.out _ _ _ _ J5.out (Step.of_below hb5 hb5s) (fun D hd=>hd.below hb5);have J6:=HJ.out _ _ _ _ J5' (Step.of_appS (hO5.rebase hs) hg6 (ae hb5s hb5.size)) (fun D hd=>hd.grownS hO5 hg6 aU);have T6:=(T5.out.trans (Step.of_below (M:=mutP) (p:=q) hb5 hb5s)).new_appS hO5 aX hs hg6;have J6:=aT J6;have T6:=aT T6;have O6:=aT hown6;go_roundw
    case rel=>first
     | exact⟨k+1,A6,c6,rs ++ [(z,v)],aS,by go_num,rfl,O6.out,J6.out,T6.out⟩
     | ((repeat apply Exists.intro);exact⟨⟨k+1,A6,c6,rs ++ [(z,v)],aS,by go_num,rfl,O6.out,J6.out,T6.out⟩,rfl⟩)
    case measure=>simp[intOf];omega
  · have hk9:k=n:=aS;subst hk9;go_wp2_with fail;go_ret;exact⟨A',c',rs,rfl,hO.out,hJJ.out,hT.out⟩
end
section
variable {w w':World} {base gy g m cc many tick:Nat} {q:bB} {x:PA} {p:PV} {pace ran rep:Int} {rows:List (List Int)} {calm:Bool} {gp:Option Addr}
theorem plrowsO_any (V:Env p m pace many)(h:StOn w base q g p m cc pace many calm rows tick rep) :
 Ca 140 #[I (tick:Nat),.func (.func 98) #[.pointer (some ⟨g,0,none⟩)] #[]] w fun e w'=>∃ A c,e=.returned (.tuple #[.slice A tick c,I 0])/\eT w' w.heap.size A tick c (cQ p rows tick)/\StOn w' base q g p m cc pace many calm rows tick rep/\Step mutE base q w w':=by
 have HS:=aT (fun t=>pA p rows t);have ho0:cQ p rows 0=[]:=rfl;have cT:=aT (show ∀ (t:Nat),t<tick->∀ W,StOn W base q g p m cc pace many calm rows tick rep->Ca 98 #[.pointer (some ⟨g,0,none⟩),I (t:Nat)] W fun e' w'=>∃ B k d,e'=.returned (.tuple #[.slice B k d,I 0])/\Ow iv w' W.heap.size 3 B k d (ed p rows t)/\StOn w' base q g p m cc pace many calm rows tick rep/\Step mutE base q W w' from fun t ht W h=>t_output V h t ht);generalize cQ p rows=OV at *;generalize ed p rows=GV at *;obtain⟨hle,hlm,_,_,_⟩:=h.le;have hm2:=V.g.m2;have H:=aT h;have hs:=h.hs;clear h;go_enter Tryz.func140,Tryz.ntmps140;go_wp2_with fail;go_loopw [6,11] (fun v i wr=>∃ (k:Nat) (A:Option Addr) (c:Nat),k<=tick/\i=I (k:Nat)/\v=.slice A k c/\Hid (eT wr w.heap.size A k c (OV k))/\Hid (StOn wr base q g p m cc pace many calm rows tick rep)/\Hid (Step mutE base q w wr)) (fun _ i _=>tick - (intOf i).toNat)
 case atStart=>exact⟨0,none,0,aS,rfl,rfl,(by first | exact eT.nil _ _ | (rw[ho0];exact eT.nil _ _)),H.out,Step.refl _ _ _ _⟩
 case round=>
  clear H;obtain⟨k,A,c,hk,rfl,rfl,hR,hO,hT⟩:=hrel;have hws:=hT.out.size;have hbs:=hO.out.hs
  by_cases hlt:k<tick
  · skip
    have ct:=cT.out k hlt wr hO.out;obtain⟨D9,hd9⟩:=hO.out.disk;have HS9:=aT (HS.out k);clear cT HS;go_upto_region 8 with (first | ((go_at_call 98;(with_reducible refine (ct).mono ?_);rintro e w5 ⟨B5,k5,d5,rfl,o5,O5',s5⟩);have O5:=aT O5';have R5:=aT (hR.out.step hd9 s5 aU aU);have T5:=aT (hT.out.trans s5);have N5:=aT (o5.rebase (base':=w.heap.size) hws);clear o5 O5' s5) | fail);have sz5:=T5.out.size;obtain⟨hhs,how,happ⟩:=(R5.out.below (kB w5 ⟨B5,k5,d5⟩)).app (h:=⟨B5,k5,d5⟩) (N5.out.below (kB w5 ⟨B5,k5,d5⟩) aX);have HOW:=aT how;have HAP:=aT happ;clear how happ;go_wp2_with (first | (at_builtin;refine ef rfl rfl elemRows slV_one (s:=.tmp 23) (N:=k+1) (L:=hhs ++ [⟨B5,k5,d5⟩]) rfl HOW.out rfl (k:=[⟨B5,k5,d5⟩]) (hdrRows_rd w5 ⟨B5,k5,d5⟩) rfl rfl bU aS (ae sz5 (kB w5 ⟨B5,k5,d5⟩).size) ?_;intro A6 c6 w6 hown6 hg6 hat6 hb6) | fail);have R6:=aT (HAP.out A6 c6 w6 hown6 hg6);have hz6:=(kB w5 ⟨B5,k5,d5⟩).size;obtain⟨O6',s6⟩:=(O5.out.below (kB w5 ⟨B5,k5,d5⟩)).app HOW.out hg6 (by have:=hO.out.hs;omega);have O6:=aT O6';have T6:=aT ((T5.out.trans (Step.of_below (M:=mutE) (p:=q) (kB w5 ⟨B5,k5,d5⟩) O5.out.hs)).new_app HOW.out aX hs hg6);clear O6' s6;go_roundw
    case rel=>first
     | exact⟨k+1,A6,c6,aS,by go_num,rfl,(by have:=R6.out;rw[HS9.out] at this;exact this),O6.out,T6.out⟩
     | ((repeat apply Exists.intro);exact⟨⟨k+1,A6,c6,aS,by go_num,rfl,(by have:=R6.out;rw[HS9.out] at this;exact this),O6.out,T6.out⟩,rfl⟩)
    case measure=>simp[intOf];omega
  · have hk9:k=tick:=aS;subst hk9;go_wp2_with fail;go_ret2;exact⟨A,c,rfl,hR.out,hO.out,hT.out⟩
theorem ploutputs_any (V:Env p m pace many)(hp:PlIn w base gy q x p pace (some ⟨g,0,none⟩))(h:StOn w base q g p m cc pace many calm rows tick rep) :
 Ca 61 #[.pointer (some ⟨gy,0,none⟩)] w fun e w'=>∃ A c,e=.returned (.tuple #[.slice A tick c,I 0])/\eT w' w.heap.size A tick c (cQ p rows tick)/\StOn w' base q g p m cc pace many calm rows tick rep/\Step mutE base q w w':=by
 have hs:=h.hs;have ce:=lI hp.blk;have cA:=(t_stat h).mono (fun e' w' (hq:∃ pa sv,e'=.returned (.agg #[I (rows.length:Nat),I (tick:Nat),I (tick:Nat),I pa,I rep,I sv])/\0<=pa/\pa<pace/\pa<=tick/\0<=sv/\sv<=tick/\Below w.heap.size w w')=>(show ∃ pa sv,e'=.returned (.agg #[I (rows.length:Nat),I (tick:Nat),I (tick:Nat),I pa,I rep,I sv])/\Below w.heap.size w w' from by obtain⟨pa,sv,a,_,_,_,_,_,b⟩:=hq;exact⟨pa,sv,a,b⟩));have hfd:=fun pa sv W=>statf1 (rows.length:Nat) (tick:Nat) (tick:Nat) pa rep sv W
 have cr:=aT (show ∀ W,StOn W base q g p m cc pace many calm rows tick rep->Ca 140 #[I (tick:Nat),.func (.func 98) #[.pointer (some ⟨g,0,none⟩)] #[]] W fun e w'=>∃ A c,e=.returned (.tuple #[.slice A tick c,I 0])/\eT w' W.heap.size A tick c (cQ p rows tick)/\StOn w' base q g p m cc pace many calm rows tick rep/\Step mutE base q W w' from fun W h=>plrowsO_any V h);have H:=aT h;clear h hp V;go_enter Tryz.func61,Tryz.ntmps61;go_wp2_with (first | (go_at_call 46;(with_reducible refine (ce).mono ?_);rintro e1 w1 ⟨rfl,rfl⟩) | ((go_at_call 29;(with_reducible refine (cA).mono ?_);rintro e2 w2 ⟨pa,sv,rfl,b2⟩);have H2:=aT (H.out.below b2);have B2:=aT b2;clear b2) | ((go_at_call 140;(with_reducible refine (cr.out _ H2.out).mono ?_);rintro e3 w3 ⟨A,c,rfl,r3,o3,s3⟩);have R3:=aT r3;have O3:=aT o3;have S3:=aT s3;clear r3 o3 s3) | fail);go_ret2;exact⟨A,c,rfl,eT.lower R3.out B2.out.size,O3.out,(Step.of_below B2.out hs).trans S3.out⟩
end
section
variable {M:List TypeId} {w w':World} {base gy g m c many:Nat} {q:bB} {x:PA} {p:PV} {pace:Int} {st:PGh} {gp:Option Addr} {D:aW}
theorem PlIn.stepM (h:PlIn w base gy q x p pace gp)(hd:bc w base q D)(t:Step M base q w w')(hP:209 ∉ 4 :: M):PlIn w' base gy q x p pace gp :=
 ⟨hd.blk h.blk t.tch hP,fun W hb=>h.pr W (t.bel.trans hb),h.gy0⟩
theorem PlSt.stepM (h:PlSt w base gy q x p m c pace many st)(t:Step M base q w w')(hD:∀ D,bc w base q D->bc w' base q D)(hM:∀ x ∈ engT,x ∉ 4 :: M)(hE:180 ∉ 4 :: M)(hP:209 ∉ 4 :: M):PlSt w' base gy q x p m c pace many st:=by
 obtain⟨D,hd⟩:=h.disk
 cases st with
 | on a r t9 e=>obtain⟨g,k1,k2⟩:=h;exact⟨g,k1.stepM hd t hP,k2.stepM (D':=newV 1 1) t hD hM hE⟩
 | off k a r=>obtain⟨g,k1,k2⟩:=h;exact⟨g,k1.stepM hd t hP,k2.stepM t hD hM hE⟩
 | down k a r=>exact⟨h.1.stepM hd t hP,h.2.stepM t hD⟩
theorem t_plnew (V:Env p m pace many)(h13:13<=many)(hm:many<=4096)(hx:∀ W,Below w.heap.size w W->dG W w.heap.size x p) :
 Ca 45 #[.agg #[.slice x.A1 x.n1 x.c1,.slice x.A2 x.n2 x.c2,I p.regs,.slice x.A3 x.n3 x.c3,.slice x.A4 x.n4 x.c4],.agg #[I (many:Nat),I (many:Nat),I pace]] w fun e w'=>
  ∃ q gy rep,e=.returned (.tuple #[.pointer (some ⟨gy,0,none⟩),I 0])/\PlSt w' w.heap.size gy q x p m 2000 pace many (.on false [] 0 rep)/\Below w.heap.size w w':=by
 have hrn:=rest_new (many:=many) aS hm;refine (jy (N1:=fun P z w1=>∃ q:bB,P=some ⟨q.d,0,none⟩/\z=0/\bc w1 w.heap.size q (newV many many)/\Below w.heap.size w w1)
  (N2:=fun d z w1=>∃ q:bB,q.d=d/\z=0/\fY w1 w.heap.size q p m 0 pace many true 0 [] 0/\Below w.heap.size w w1)
  (N3:=fun d P z w1=>∃ (q:bB) (g:Nat) (rep:Int),q.d=d/\P=some ⟨g,0,none⟩/\z=0/\StOn w1 w.heap.size q g p m 2000 pace many true [] 0 rep/\Below w.heap.size w w1) ?_ ?_ ?_ ?_).mono ?_
 · intro W hb;exact (t_new W aS hm).mono fun e w1 ⟨q,he,hd,hb2⟩=>⟨db.of_below hb2,_,_,he,q,rfl,rfl,hd.rebase hb.size,hb.trans (hb2.mono hb.size)⟩
 · rintro P w1 ⟨q,rfl,_⟩;exact⟨q.d,rfl⟩
 · rintro d W ⟨q,hP,_,hd,hb⟩;obtain rfl:d=q.d:=by simpa using hP
   exact (c_format V hd hrn rfl rfl hb.size (hx W hb).rd).mono fun e w1 ⟨he,hr,hs⟩=>⟨db.of hd hs,_,he,q,rfl,rfl,hr,hb.trans hs.bel⟩
 · rintro d W ⟨q,rfl,_,hr,hb⟩;obtain⟨D,hd⟩:=hr.disk';exact (c_open V hr (hx W hb) aS rfl).mono fun e w1 ⟨g,rep,he,ho,hs⟩=>⟨db.of hd hs,_,_,he,q,g,rep,rfl,rfl,rfl,ho,hb.trans hs.bel⟩
 · rintro e w' (⟨z,hz,_,⟨P,q,_,h0,_⟩ | ⟨d,q,_,h0,_⟩ | ⟨d,P,q,g,rep,_,_,h0,_⟩⟩ | ⟨d,P,W,⟨q,g,rep,rfl,rfl,_,ho,hb⟩,rfl,rfl⟩)
   · exact absurd h0 hz
   · exact absurd h0 hz
   · exact absurd h0 hz
   · have hb2:Below W.heap.size W (W.alloc (.cells (plC q.d x p pace (some ⟨g,0,none⟩)).toArray 209)):=(Below.refl _ _).alloc aX _;have hb3:=hb.trans (hb2.mono hb.size);exact⟨q,W.heap.size,rep,rfl,⟨g,⟨Blk.top _ rfl rfl,fun W' hW=>hx W' (hb3.trans hW),hb.size⟩,ho.below hb2⟩,hb3⟩
end
section
variable {w w':World} {base m:Nat} {q:bB} {D:aW} {p:PV} {x:PA} {pace z:Int} {d:Option Addr}
theorem pX (hz:z≠0)(hmay:∀ W,Below w.heap.size w W->Ca 99 #[.pointer d,.agg #[.slice x.A1 x.n1 x.c1,.slice x.A2 x.n2 x.c2,I p.regs,.slice x.A3 x.n3 x.c3,.slice x.A4 x.n4 x.c4]] W fun e' w'=>e'=.returned (.tuple #[.agg #[I 0,I 0,I 0,I 0,I 0,I 0,I 0,I 0,I 0,I 0],I 0,I z])/\Below W.heap.size W w') :
 Ca 27 #[.pointer d,.agg #[.slice x.A1 x.n1 x.c1,.slice x.A2 x.n2 x.c2,I p.regs,.slice x.A3 x.n3 x.c3,.slice x.A4 x.n4 x.c4]] w fun e' w'=>e'=.returned (I z)/\Below w.heap.size w w':=by
 have hb0:Below w.heap.size w (w.alloc (.cells #[.slice x.A1 x.n1 x.c1,.slice x.A2 x.n2 x.c2,I p.regs,.slice x.A3 x.n3 x.c3,.slice x.A4 x.n4 x.c4] 26)):=(Below.refl _ _).alloc aX _;have hm:=hmay _ hb0;have dz:=am hz;have dz2:(z != 0)=true:=by rw[ah];exact hz
 clear hmay hz;go_enter Tryz.func27,Tryz.ntmps27;go_wp2_with (first | ((go_at_call 99;(with_reducible refine (hm).mono ?_);rintro e w2 ⟨rfl,hb2⟩);have B2:=hb0.trans (hb2.mono aZ);have s2:=B2.size) | fail);go_ret;exact⟨rfl,(B2.alloc s2 _).alloc cH _⟩
theorem open_pace (hd:bc w base q D)(hp:dd w x p)(hw:el p)(hv:dw p=true)(h13:13<=D.many)(hm:logN (D.many:Nat)=(m:Nat))(hpc:pace<1\/1024<pace) :
 Ca 25 #[.pointer (some ⟨q.d,0,none⟩),.agg #[.slice x.A1 x.n1 x.c1,.slice x.A2 x.n2 x.c2,I p.regs,.slice x.A3 x.n3 x.c3,.slice x.A4 x.n4 x.c4],I pace] w fun e' w'=>e'=.returned (.tuple #[.pointer none,I 2])/\Below w.heap.size w w':=by
 have hb00:Below w.heap.size w (w.alloc (.cells #[.pointer (some ⟨q.d,0,none⟩)] 50)):=(Below.refl _ _).alloc aX _;have hb0:Below w.heap.size w ((w.alloc (.cells #[.pointer (some ⟨q.d,0,none⟩)] 50)).alloc (.cells #[.slice x.A1 x.n1 x.c1,.slice x.A2 x.n2 x.c2,I p.regs,.slice x.A3 x.n3 x.c3,.slice x.A4 x.n4 x.c4] 26)):=hb00.alloc aZ _;have hm':=may_yes (hd.below hb0) (hp.below (b:=w.heap.size) hb0 aX) hw hv h13 hm;generalize ca p=hh at *;clear hm h13 hd hp;rcases hpc with q1 | q1
 · have d1:=am q1;have d2:decide (1024<pace)=false:=aj aS;clear q1;go_enter Tryz.func25,Tryz.ntmps25;go_wp2_with (first | ((go_at_call 99;(with_reducible refine (hm').mono ?_);rintro e w2 ⟨rfl,hb2⟩);have B2:=hb0.trans (hb2.mono cH);have s2:=B2.size) | fail);go_ret2;exact⟨rfl,(B2.alloc s2 _).alloc cH _⟩
 · have d1:decide (pace<1)=false:=aj aS;have d2:=am q1;clear q1;go_enter Tryz.func25,Tryz.ntmps25;go_wp2_with (first | ((go_at_call 99;(with_reducible refine (hm').mono ?_);rintro e w2 ⟨rfl,hb2⟩);have B2:=hb0.trans (hb2.mono cH);have s2:=B2.size) | fail);go_ret2;exact⟨rfl,(B2.alloc s2 _).alloc cH _⟩
theorem format_plan (hd:bc w base q D)(hp:dd w x p)(hw:el p)(hv:dw p=true)(h13:D.many<13):Ca 27 #[.pointer (some ⟨q.d,0,none⟩),.agg #[.slice x.A1 x.n1 x.c1,.slice x.A2 x.n2 x.c2,I p.regs,.slice x.A3 x.n3 x.c3,.slice x.A4 x.n4 x.c4]] w fun e' w'=>e'=.returned (I 2)/\Below w.heap.size w w' :=
 pX aS fun W hb=>may_plan (hd.below hb) (hp.below (b:=w.heap.size) hb aX) hw hv h13
theorem format_code (hd:bc w base q D)(hp:dd w x p)(hw:el p)(hv:dw p=false):Ca 27 #[.pointer (some ⟨q.d,0,none⟩),.agg #[.slice x.A1 x.n1 x.c1,.slice x.A2 x.n2 x.c2,I p.regs,.slice x.A3 x.n3 x.c3,.slice x.A4 x.n4 x.c4]] w fun e' w'=>e'=.returned (I 40)/\Below w.heap.size w w' :=
 pX aS fun W hb=>may_code (hd.below hb) (hp.below (b:=w.heap.size) hb aX) hw hv
end
end Go.Proofs.YtmeebofhlilcmaaGreat
