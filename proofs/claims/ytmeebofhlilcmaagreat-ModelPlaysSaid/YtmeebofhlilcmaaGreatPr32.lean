/- Parts. -/
import Derived.Test.YtmeebofhlilcmaaGreatPr31
set_option linter.unusedVariables false
set_option linter.unusedSimpArgs false
set_option maxRecDepth 100000
set_option maxHeartbeats 0
namespace Go.Proofs.YtmeebofhlilcmaaGreat
variable {l:List Int} {r' c1 c1' nb tick:Nat} {armed:Bool} {rows:List (List Int)} {rep:Int} {P:Program} {it jt:TypeId}
open Go.RowKit Go.WideShapes Go.ChangeShapes Go.Deep Go.Joins
structure DoW where
 kind:Int
 n:Int
 l:List Int
 b:List UInt8
def DosW (w:World)(A:Option Addr)(n:Nat)(l:List DoW):Prop :=
 l.length=n/\∀ k x,l[k]?=some x->∃ b o C q e B m c,A=some ⟨b,o,none⟩/\b<w.heap.size/\w.cell? ⟨b,o+k * 4+0,none⟩=some (I x.kind)/\w.cell? ⟨b,o+k * 4+1,none⟩=some (I x.n)/\w.cell? ⟨b,o+k * 4+2,none⟩=some (.slice C q e)/\w.cell? ⟨b,o+k * 4+3,none⟩=some (.slice B m c) /\
  RI w C q x.l/\q<=e/\e<=maxLen/\RB w B m x.b/\m<=c/\c<=maxLen/\(-9223372036854775808<=x.kind/\x.kind<=9223372036854775807)/\(-9223372036854775808<=x.n/\x.n<=9223372036854775807)/\eN x.l
theorem DosW.below {w w':World}{A:Option Addr}{n B0:Nat}{l:List DoW}(h:DosW w A n l)(hb:Below B0 w w')(hB:w.heap.size<=B0):DosW w' A n l:=by
 refine⟨h.1,fun k x hx=>?_⟩;obtain⟨b,o,C,q,e,B,m,c,hA,hlt,c0,c1,c2,c3,hi,h1,h2,hr,rest⟩:=h.2 k x hx;have hs:=hb.size;have hc:∀ j,w'.cell? ⟨b,j,none⟩=w.cell? ⟨b,j,none⟩:=fun j=>hb.cell (p:=⟨b,j,none⟩) (by show b<B0;omega)
 exact⟨b,o,C,q,e,B,m,c,hA,aS,by rw[hc];exact c0,by rw[hc];exact c1,by rw[hc];exact c2,by rw[hc];exact c3,hi.below hb hB,h1,h2,hr.below hb hB,rest⟩
theorem intOk_of (h:∀ z ∈ l,-9223372036854775808<=z/\z<=9223372036854775807):eN l:=fun i hi=>by
 unfold bj;rw[ah,ap hi];exact h _ (List.getElem_mem hi)
open Go.RowKit
section
variable {w w':World} {base gy g m cc many tick:Nat} {q:bE} {x:PA} {p:PV} {pace ran rep:Int} {rows:List (List Int)} {calm:Bool} {gp:Option Addr}
theorem plrowsO_any (V:Env p m pace many)(h:StOn w base q g p m cc pace many calm rows tick rep) :
 Ca 140 #[I (tick:Nat),.func (.func 98) #[.pointer (some ⟨g,0,none⟩)] #[]] w fun e w'=>∃ A c,e=.returned (.tuple #[.slice A tick c,I 0])/\cL w' w.heap.size A tick c (cq p rows tick)/\StOn w' base q g p m cc pace many calm rows tick rep/\Step mutE base q w w':=by
 have HS:=aT (fun t=>og p rows t);have ho0:cq p rows 0=[]:=rfl;have cT:=aT (show ∀ (t:Nat),t<tick->∀ W,StOn W base q g p m cc pace many calm rows tick rep->Ca 98 #[.pointer (some ⟨g,0,none⟩),I (t:Nat)] W fun e' w'=>∃ B k d,e'=.returned (.tuple #[.slice B k d,I 0])/\Ow iv w' W.heap.size 3 B k d (dH p rows t)/\StOn w' base q g p m cc pace many calm rows tick rep/\Step mutE base q W w' from fun t ht W h=>t_output V h t ht);generalize cq p rows=OV at *;generalize dH p rows=GV at *;obtain⟨hle,hlm,_,_,_⟩:=h.le;have hm2:=V.g.m2;have H:=aT h;have hs:=h.hs;clear h;go_enter Tryz.func140,Tryz.ntmps140;go_wp2_with fail;go_loopw [6,11] (fun v i wr=>∃ (k:Nat) (A:Option Addr) (c:Nat),k<=tick/\i=I (k:Nat)/\v=.slice A k c/\Hid (cL wr w.heap.size A k c (OV k))/\Hid (StOn wr base q g p m cc pace many calm rows tick rep)/\Hid (Step mutE base q w wr)) (fun _ i _=>tick - (intOf i).toNat)
 case atStart=>exact⟨0,none,0,aS,rfl,rfl,(by first | exact cL.nil _ _ | (rw[ho0];exact cL.nil _ _)),H.out,Step.refl _ _ _ _⟩
 case round=>
  clear H;obtain⟨k,A,c,hk,rfl,rfl,hR,hO,hT⟩:=hrel;have hws:=hT.out.size;have hbs:=hO.out.hs
  by_cases hlt:k<tick
  · skip
    have ct:=cT.out k hlt wr hO.out;obtain⟨D9,hd9⟩:=hO.out.disk;have HS9:=aT (HS.out k);clear cT HS;go_upto_region 8 with (first | ((go_at_call 98;(with_reducible refine (ct).mono ?_);rintro e w5 ⟨B5,k5,d5,rfl,o5,O5',s5⟩);have O5:=aT O5';have R5:=aT (hR.out.step hd9 s5 aU aU);have T5:=aT (hT.out.trans s5);have N5:=aT (o5.rebase (base':=w.heap.size) hws);clear o5 O5' s5) | fail);have sz5:=T5.out.size;obtain⟨hhs,how,happ⟩:=(R5.out.below (eE w5 ⟨B5,k5,d5⟩)).app (h:=⟨B5,k5,d5⟩) (N5.out.below (eE w5 ⟨B5,k5,d5⟩) aW);have HOW:=aT how;have HAP:=aT happ;clear how happ;go_wp2_with (first | (at_builtin;refine dR rfl rfl jx lI (s:=.tmp 23) (N:=k+1) (L:=hhs ++ [⟨B5,k5,d5⟩]) rfl HOW.out rfl (k:=[⟨B5,k5,d5⟩]) (lP w5 ⟨B5,k5,d5⟩) rfl rfl bQ aS (ae sz5 (eE w5 ⟨B5,k5,d5⟩).size) ?_;intro A6 c6 w6 hown6 hg6 hat6 hb6) | fail);have R6:=aT (HAP.out A6 c6 w6 hown6 hg6);have hz6:=(eE w5 ⟨B5,k5,d5⟩).size;obtain⟨O6',s6⟩:=(O5.out.below (eE w5 ⟨B5,k5,d5⟩)).app HOW.out hg6 (by have:=hO.out.hs;omega);have O6:=aT O6';have T6:=aT ((T5.out.trans (Step.of_below (M:=mutE) (p:=q) (eE w5 ⟨B5,k5,d5⟩) O5.out.hs)).new_app HOW.out aW hs hg6);clear O6' s6;go_roundw
    case rel=>first
     | exact⟨k+1,A6,c6,aS,by go_num,rfl,lV,O6.out,T6.out⟩
     | ((repeat apply Exists.intro);exact⟨⟨k+1,A6,c6,aS,by go_num,rfl,lV,O6.out,T6.out⟩,rfl⟩)
    case measure=>simp[intOf];omega
  · have hk9:k=tick:=aS;subst hk9;go_wp2_with fail;go_ret2;exact⟨A,c,rfl,hR.out,hO.out,hT.out⟩
theorem plrowsI_any (V:Env p m pace many)(h:StOn w base q g p m cc pace many calm rows tick rep) :
 Ca 140 #[I (rows.length:Nat),.func (.func 141) #[.pointer (some ⟨g,0,none⟩)] #[]] w fun e w'=>∃ A c,e=.returned (.tuple #[.slice A rows.length c,I 0])/\cL w' w.heap.size A rows.length c rows/\StOn w' base q g p m cc pace many calm rows tick rep/\Step mutE base q w w':=by
 have cT:=aT (show ∀ (t:Nat) (l:List Int),rows[t]?=some l->∀ W,StOn W base q g p m cc pace many calm rows tick rep->Ca 141 #[.pointer (some ⟨g,0,none⟩),I (t:Nat)] W fun e' w'=>∃ B k d,e'=.returned (.tuple #[.slice B k d,I 0])/\Ow iv w' W.heap.size 3 B k d l/\StOn w' base q g p m cc pace many calm rows tick rep/\Step mutE base q W w' from fun t l ht W h=>t_input V h t l ht);have HTL:=aT (List.take_length (l:=rows));have ho0:rows.take 0=[]:=rfl;obtain⟨hle,hlm,_,_,_⟩:=h.le;have hm2:=V.g.m2;have H:=aT h;have hs:=h.hs;clear h;go_enter Tryz.func140,Tryz.ntmps140;go_wp2_with fail;go_loopw [6,11] (fun v i wr=>∃ (k:Nat) (A:Option Addr) (c:Nat),k<=rows.length/\i=I (k:Nat)/\v=.slice A k c/\Hid (cL wr w.heap.size A k c (rows.take k))/\Hid (StOn wr base q g p m cc pace many calm rows tick rep)/\Hid (Step mutE base q w wr)) (fun _ i _=>rows.length - (intOf i).toNat)
 case atStart=>exact⟨0,none,0,aS,rfl,rfl,(by first | exact cL.nil _ _ | (rw[ho0];exact cL.nil _ _)),H.out,Step.refl _ _ _ _⟩
 case round=>
  clear H;obtain⟨k,A,c,hk,rfl,rfl,hR,hO,hT⟩:=hrel;have hws:=hT.out.size;have hbs:=hO.out.hs
  by_cases hlt:k<rows.length
  · skip
    obtain⟨L9,hL9⟩:∃ L,rows[k]?=some L:=⟨_,ap hlt⟩;have ct:=cT.out k L9 hL9 wr hO.out;obtain⟨D9,hd9⟩:=hO.out.disk;have HS9:=aT (show rows.take k ++ [L9]=rows.take (k+1) from by rw[List.take_add_one,hL9];rfl);clear cT hL9;go_upto_region 8 with (first | ((go_at_call 141;(with_reducible refine (ct).mono ?_);rintro e w5 ⟨B5,k5,d5,rfl,o5,O5',s5⟩);have O5:=aT O5';have R5:=aT (hR.out.step hd9 s5 aU aU);have T5:=aT (hT.out.trans s5);have N5:=aT (o5.rebase (base':=w.heap.size) hws);clear o5 O5' s5) | fail);have sz5:=T5.out.size;obtain⟨hhs,how,happ⟩:=(R5.out.below (eE w5 ⟨B5,k5,d5⟩)).app (h:=⟨B5,k5,d5⟩) (N5.out.below (eE w5 ⟨B5,k5,d5⟩) aW);have HOW:=aT how;have HAP:=aT happ;clear how happ;go_wp2_with (first | (at_builtin;refine dR rfl rfl jx lI (s:=.tmp 23) (N:=k+1) (L:=hhs ++ [⟨B5,k5,d5⟩]) rfl HOW.out rfl (k:=[⟨B5,k5,d5⟩]) (lP w5 ⟨B5,k5,d5⟩) rfl rfl bQ aS (ae sz5 (eE w5 ⟨B5,k5,d5⟩).size) ?_;intro A6 c6 w6 hown6 hg6 hat6 hb6) | fail);have R6:=aT (HAP.out A6 c6 w6 hown6 hg6);have hz6:=(eE w5 ⟨B5,k5,d5⟩).size;obtain⟨O6',s6⟩:=(O5.out.below (eE w5 ⟨B5,k5,d5⟩)).app HOW.out hg6 (by have:=hO.out.hs;omega);have O6:=aT O6';have T6:=aT ((T5.out.trans (Step.of_below (M:=mutE) (p:=q) (eE w5 ⟨B5,k5,d5⟩) O5.out.hs)).new_app HOW.out aW hs hg6);clear O6' s6;go_roundw
    case rel=>first
     | exact⟨k+1,A6,c6,aS,by go_num,rfl,lV,O6.out,T6.out⟩
     | ((repeat apply Exists.intro);exact⟨⟨k+1,A6,c6,aS,by go_num,rfl,lV,O6.out,T6.out⟩,rfl⟩)
    case measure=>simp[intOf];omega
  · have hk9:k=rows.length:=aS;subst hk9;go_wp2_with fail;go_ret2;exact⟨A,c,rfl,(by have:=hR.out;rw[HTL.out] at this;exact this),hO.out,hT.out⟩
theorem ploutputs_any (V:Env p m pace many)(hp:PlIn w base gy q x p pace (some ⟨g,0,none⟩))(h:StOn w base q g p m cc pace many calm rows tick rep) :
 Ca 61 #[.pointer (some ⟨gy,0,none⟩)] w fun e w'=>∃ A c,e=.returned (.tuple #[.slice A tick c,I 0])/\cL w' w.heap.size A tick c (cq p rows tick)/\StOn w' base q g p m cc pace many calm rows tick rep/\Step mutE base q w w':=by
 have hs:=h.hs;have ce:=kQ hp.blk;have cA:=(t_stat h).mono (fun e' w' (hq:∃ pa sv,e'=.returned (.agg #[I (rows.length:Nat),I (tick:Nat),I (tick:Nat),I pa,I rep,I sv])/\0<=pa/\pa<pace/\pa<=tick/\0<=sv/\sv<=tick/\Below w.heap.size w w')=>(show ∃ pa sv,e'=.returned (.agg #[I (rows.length:Nat),I (tick:Nat),I (tick:Nat),I pa,I rep,I sv])/\Below w.heap.size w w' from by obtain⟨pa,sv,a,_,_,_,_,_,b⟩:=hq;exact⟨pa,sv,a,b⟩));have hfd:=fun pa sv W=>statf1 (rows.length:Nat) (tick:Nat) (tick:Nat) pa rep sv W
 have cr:=aT (show ∀ W,StOn W base q g p m cc pace many calm rows tick rep->Ca 140 #[I (tick:Nat),.func (.func 98) #[.pointer (some ⟨g,0,none⟩)] #[]] W fun e w'=>∃ A c,e=.returned (.tuple #[.slice A tick c,I 0])/\cL w' W.heap.size A tick c (cq p rows tick)/\StOn w' base q g p m cc pace many calm rows tick rep/\Step mutE base q W w' from fun W h=>plrowsO_any V h);have H:=aT h;clear h hp V;go_enter Tryz.func61,Tryz.ntmps61;go_wp2_with (first | (go_at_call 46;(with_reducible refine (ce).mono ?_);rintro e1 w1 ⟨rfl,rfl⟩) | ((go_at_call 29;(with_reducible refine (cA).mono ?_);rintro e2 w2 ⟨pa,sv,rfl,b2⟩);have H2:=aT (H.out.below b2);have B2:=aT b2;clear b2) | ((go_at_call 140;(with_reducible refine (cr.out _ H2.out).mono ?_);rintro e3 w3 ⟨A,c,rfl,r3,o3,s3⟩);have R3:=aT r3;have O3:=aT o3;have S3:=aT s3;clear r3 o3 s3) | fail);go_ret2;exact⟨A,c,rfl,cL.lower R3.out B2.out.size,O3.out,(Step.of_below B2.out hs).trans S3.out⟩
theorem plinputs_any (V:Env p m pace many)(hp:PlIn w base gy q x p pace (some ⟨g,0,none⟩))(h:StOn w base q g p m cc pace many calm rows tick rep) :
 Ca 60 #[.pointer (some ⟨gy,0,none⟩)] w fun e w'=>∃ A c,e=.returned (.tuple #[.slice A rows.length c,I 0])/\cL w' w.heap.size A rows.length c (rows)/\StOn w' base q g p m cc pace many calm rows tick rep/\Step mutE base q w w':=by
 have hs:=h.hs;have ce:=kQ hp.blk;have cA:=(t_stat h).mono (fun e' w' (hq:∃ pa sv,e'=.returned (.agg #[I (rows.length:Nat),I (tick:Nat),I (tick:Nat),I pa,I rep,I sv])/\0<=pa/\pa<pace/\pa<=tick/\0<=sv/\sv<=tick/\Below w.heap.size w w')=>(show ∃ pa sv,e'=.returned (.agg #[I (rows.length:Nat),I (tick:Nat),I (tick:Nat),I pa,I rep,I sv])/\Below w.heap.size w w' from by obtain⟨pa,sv,a,_,_,_,_,_,b⟩:=hq;exact⟨pa,sv,a,b⟩));have hfd:=fun pa sv W=>statf0 (rows.length:Nat) (tick:Nat) (tick:Nat) pa rep sv W
 have cr:=aT (show ∀ W,StOn W base q g p m cc pace many calm rows tick rep->Ca 140 #[I (rows.length:Nat),.func (.func 141) #[.pointer (some ⟨g,0,none⟩)] #[]] W fun e w'=>∃ A c,e=.returned (.tuple #[.slice A rows.length c,I 0])/\cL w' W.heap.size A rows.length c (rows)/\StOn w' base q g p m cc pace many calm rows tick rep/\Step mutE base q W w' from fun W h=>plrowsI_any V h);have H:=aT h;clear h hp V;go_enter Tryz.func60,Tryz.ntmps60;go_wp2_with (first | (go_at_call 46;(with_reducible refine (ce).mono ?_);rintro e1 w1 ⟨rfl,rfl⟩) | ((go_at_call 29;(with_reducible refine (cA).mono ?_);rintro e2 w2 ⟨pa,sv,rfl,b2⟩);have H2:=aT (H.out.below b2);have B2:=aT b2;clear b2) | ((go_at_call 140;(with_reducible refine (cr.out _ H2.out).mono ?_);rintro e3 w3 ⟨A,c,rfl,r3,o3,s3⟩);have R3:=aT r3;have O3:=aT o3;have S3:=aT s3;clear r3 o3 s3) | fail);go_ret2;exact⟨A,c,rfl,cL.lower R3.out B2.out.size,O3.out,(Step.of_below B2.out hs).trans S3.out⟩
theorem plnone_out {d:Nat}(Y:Blk w gy 209 (plC d x p pace none)):Ca 61 #[.pointer (some ⟨gy,0,none⟩)] w fun e w'=>e=.returned (.tuple #[.slice none 0 0,I 1])/\w=w':=by
 have ce:=kQ Y;clear Y;go_enter Tryz.func61,Tryz.ntmps61;go_wp2_with (first | (go_at_call 46;(with_reducible refine (ce).mono ?_);rintro e1 w1 ⟨rfl,rfl⟩) | fail);go_ret2;exact⟨rfl,rfl⟩
theorem plnone_in {d:Nat}(Y:Blk w gy 209 (plC d x p pace none)):Ca 60 #[.pointer (some ⟨gy,0,none⟩)] w fun e w'=>e=.returned (.tuple #[.slice none 0 0,I 1])/\w=w':=by
 have ce:=kQ Y;clear Y;go_enter Tryz.func60,Tryz.ntmps60;go_wp2_with (first | (go_at_call 46;(with_reducible refine (ce).mono ?_);rintro e1 w1 ⟨rfl,rfl⟩) | fail);go_ret2;exact⟨rfl,rfl⟩
end
section
variable {M:List TypeId} {w w':World} {base gy g m c many:Nat} {q:bE} {x:PA} {p:PV} {pace:Int} {st:PGh} {gp:Option Addr} {D:aX}
theorem PlIn.stepM (h:PlIn w base gy q x p pace gp)(hd:be w base q D)(t:Step M base q w w')(hP:209 ∉ 4 :: M):PlIn w' base gy q x p pace gp :=
 ⟨hd.blk h.blk t.tch hP,fun W hb=>h.pr W (t.bel.trans hb),h.gy0⟩
theorem PlSt.stepM (h:PlSt w base gy q x p m c pace many st)(t:Step M base q w w')(hD:∀ D,be w base q D->be w' base q D)(hM:∀ x ∈ engT,x ∉ 4 :: M)(hE:180 ∉ 4 :: M)(hP:209 ∉ 4 :: M):PlSt w' base gy q x p m c pace many st:=by
 obtain⟨D,hd⟩:=h.disk
 cases st with
 | on a r t9 e=>obtain⟨g,k1,k2⟩:=h;exact⟨g,k1.stepM hd t hP,k2.stepM (D':=newV 1 1) t hD hM hE⟩
 | off k a r=>obtain⟨g,k1,k2⟩:=h;exact⟨g,k1.stepM hd t hP,k2.stepM t hD hM hE⟩
 | down k a r=>exact⟨h.1.stepM hd t hP,h.2.stepM t hD⟩
theorem t_plnew (V:Env p m pace many)(h13:13<=many)(hm:many<=4096)(hx:∀ W,Below w.heap.size w W->ej W w.heap.size x p) :
 Ca 45 #[.agg #[.slice x.A1 x.n1 x.c1,.slice x.A2 x.n2 x.c2,I p.regs,.slice x.A3 x.n3 x.c3,.slice x.A4 x.n4 x.c4],.agg #[I (many:Nat),I (many:Nat),I pace]] w fun e w'=>
  ∃ q gy rep,e=.returned (.tuple #[.pointer (some ⟨gy,0,none⟩),I 0])/\PlSt w' w.heap.size gy q x p m 2000 pace many (.on false [] 0 rep)/\Below w.heap.size w w':=by
 have hrn:=rest_new (many:=many) aS hm;refine (plnew_any (N1:=fun P z w1=>∃ q:bE,P=some ⟨q.d,0,none⟩/\z=0/\be w1 w.heap.size q (newV many many)/\Below w.heap.size w w1)
  (N2:=fun d z w1=>∃ q:bE,q.d=d/\z=0/\gg w1 w.heap.size q p m 0 pace many true 0 [] 0/\Below w.heap.size w w1)
  (N3:=fun d P z w1=>∃ (q:bE) (g:Nat) (rep:Int),q.d=d/\P=some ⟨g,0,none⟩/\z=0/\StOn w1 w.heap.size q g p m 2000 pace many true [] 0 rep/\Below w.heap.size w w1) ?_ ?_ ?_ ?_).mono ?_
 · intro W hb;exact (t_new W aS hm).mono fun e w1 ⟨q,he,hd,hb2⟩=>⟨dW.of_below hb2,_,_,he,q,rfl,rfl,hd.rebase hb.size,hb.trans (hb2.mono hb.size)⟩
 · rintro P w1 ⟨q,rfl,_⟩;exact⟨q.d,rfl⟩
 · rintro d W ⟨q,hP,_,hd,hb⟩;obtain rfl:d=q.d:=by simpa using hP
   exact (c_format V hd hrn rfl rfl hb.size (hx W hb).rd).mono fun e w1 ⟨he,hr,hs⟩=>⟨dW.of hd hs,_,he,q,rfl,rfl,hr,hb.trans hs.bel⟩
 · rintro d W ⟨q,rfl,_,hr,hb⟩;obtain⟨D,hd⟩:=hr.disk';exact (c_open V hr (hx W hb) aS rfl).mono fun e w1 ⟨g,rep,he,ho,hs⟩=>⟨dW.of hd hs,_,_,he,q,g,rep,rfl,rfl,rfl,ho,hb.trans hs.bel⟩
 · rintro e w' (⟨z,hz,_,⟨P,q,_,h0,_⟩ | ⟨d,q,_,h0,_⟩ | ⟨d,P,q,g,rep,_,_,h0,_⟩⟩ | ⟨d,P,W,⟨q,g,rep,rfl,rfl,_,ho,hb⟩,rfl,rfl⟩)
   · exact absurd h0 hz
   · exact absurd h0 hz
   · exact absurd h0 hz
   · have hb2:Below W.heap.size W (W.alloc (.cells (plC q.d x p pace (some ⟨g,0,none⟩)).toArray 209)):=(Below.refl _ _).alloc aW _;have hb3:=hb.trans (hb2.mono hb.size);exact⟨q,W.heap.size,rep,rfl,⟨g,⟨Blk.top _ rfl rfl,fun W' hW=>hx W' (hb3.trans hW),hb.size⟩,ho.below hb2⟩,hb3⟩
end
open Go.RowKit Go.WideShapes Go.ChangeShapes Go.Deep Go.Joins
section
variable {H:Type} {enc:TypeId × Value→H} {w:World} {base b0:Nat} {held:Bool} {r:Reach} {v:Value} {d:DataW H} {ps:List MemPlace}
theorem args_evs (hval:Value.okWide Tryz.prog w r b0 93 v)(hd:DataW.Trod enc Tryz.prog w base (fun _=>true) held 93 v d ps) :
 ∃ A n c l,v=.slice A n c/\DosW w A n l/\n<=c/\c<=maxLen:=by
 obtain⟨A,n,c,rfl,hn,hc,hat⟩:=open_structs (k:=4) Tryz.underlying93 Tryz.underlying98 bM bM rfl aS hval hd;have hx:∀ i,i<n->∃ x:DoW,∃ b o C q e B m c,A=some ⟨b,o,none⟩/\b<w.heap.size/\w.cell? ⟨b,o+i * 4+0,none⟩=some (I x.kind)/\w.cell? ⟨b,o+i * 4+1,none⟩=some (I x.n)/\w.cell? ⟨b,o+i * 4+2,none⟩=some (.slice C q e)/\w.cell? ⟨b,o+i * 4+3,none⟩=some (.slice B m c) /\
  RI w C q x.l/\q<=e/\e<=maxLen/\RB w B m x.b/\m<=c/\c<=maxLen/\(-9223372036854775808<=x.kind/\x.kind<=9223372036854775807)/\(-9223372036854775808<=x.n/\x.n<=9223372036854775807)/\eN x.l:=by
  intro i hi;obtain⟨b,o,vs,hA,hb,hl,hcell,fuel,hf⟩:=hat i hi;obtain⟨u0,y0,e0,t0⟩:=hf 0 _ rfl;obtain⟨u1,y1,e1,t1⟩:=hf 1 _ rfl;obtain⟨u2,y2,e2,t2⟩:=hf 2 _ rfl;obtain⟨u3,y3,e3,t3⟩:=hf 3 _ rfl;obtain⟨z0,hz0,_,hw0⟩:=DataW.trod_int Tryz.underlying3 t0;obtain⟨z1,hz1,_,hw1⟩:=DataW.trod_int Tryz.underlying3 t1;have hz0:u0=I z0:=by simpa using hz0
  have hz1:u1=I z1:=by simpa using hz1
  subst hz0 hz1;obtain⟨C,q,c2,li,rfl,r2,k2,m2,hin⟩:=nK Tryz.underlying22 Tryz.underlying3 bM t2;obtain⟨B,m,c',l,rfl,r1,k1,m1⟩:=trod_bytes Tryz.underlying27 Tryz.underlying5 bM t3;exact⟨⟨z0,z1,li,l⟩,b,o,C,q,c2,B,m,c',hA,hb,(hcell 0 aS).trans e0,(hcell 1 aS).trans e1,(hcell 2 aS).trans e2,(hcell 3 aS).trans e3,r2,k2,m2,r1,k1,m1,bounds_i64 hw0,bounds_i64 hw1,intOk_of hin⟩
 obtain⟨l,hl,hp⟩:=list_of hx;exact⟨A,n,c,l,rfl,⟨hl,hp⟩,hn,hc⟩
end
def ig (l:List DoW):Bool:=l.all (fun x=>decide (x.b.length<=100) && decide (x.l.length<=20)) && decide (l.length<=60)
theorem qh {l:List DoW}(h:ig l=true):l.length<=60/\∀ x ∈ l,x.b.length<=100/\x.l.length<=20:=by
 unfold ig at h;rw[av,List.all_eq_true,aq] at h;refine⟨h.2,fun x hx=>?_⟩;have:=h.1 x hx;rw[av,aq,aq] at this;exact this
theorem fewVB_no {l:List DoW}{k:Nat}{x:DoW}(hx:l[k]?=some x)(h:100<x.b.length\/20<x.l.length):ig l=false:=by
 cases hq:ig l with
 | false=>rfl
 | true=>have:=(qh hq).2 x (List.mem_of_getElem? hx);omega
theorem fewVB_all {l:List DoW}(h:∀ (k:Nat) (x:DoW),l[k]?=some x->x.b.length<=100/\x.l.length<=20):ig l=decide (l.length<=60):=by
 unfold ig;rw[show l.all (fun x=>decide (x.b.length<=100) && decide (x.l.length<=20))=true from by
  rw[List.all_eq_true];intro x hx;obtain⟨k,hk⟩:=List.getElem?_of_mem hx;rw[av,aq,aq];exact h k x hk,Bool.true_and]
theorem few39_any (A:Option Addr)(n c:Nat)(l:List DoW)(w:World)(hl:DosW w A n l)(hn:n<=maxLen) :
 Ca 49 #[.slice A n c] w fun e w'=>e=.returned (.bool (ig l))/\Below w.heap.size w w':=by
 have hlen:=aT hl.1;unfold maxLen at hn;go_enter Tryz.func49,Tryz.ntmps49;go_wp2;go_loopw [4,7] (fun _ i wr=>∃ k:Nat,k<=n/\i=I (k:Nat)/\(∀ (j:Nat) (x:DoW),j<k->l[j]?=some x->x.b.length<=100/\x.l.length<=20)/\Below w.heap.size w wr) (fun _ i _=>n - (intOf i).toNat)
 case atStart=>exact⟨0,aS,rfl,fun j x hj=>absurd hj aS,Below.refl _ _⟩
 case round=>
  obtain⟨k,hk,rfl,hsm,hbel⟩:=hrel;have Hsm:=aT hsm;clear hsm
  by_cases hlt:k<n
  · have hkl:k<l.length:=by rw[hlen.out];exact hlt
    have hbs:=hbel.size;obtain⟨x,hx⟩:∃ x,l[k]?=some x:=⟨_,ap hkl⟩;obtain⟨b,o,C,q,e,B,m,d,rfl,hb,e0,e1,e2,e3,hi,hqe,he,hr,hmd,hd,_,_,_⟩:=(hl.below hbel aW).2 k x hx;have hm:m<=9223372036854775807:=by unfold maxLen at hd;omega
    have hq:q<=9223372036854775807:=by unfold maxLen at he;omega
    have HX:=aT hx;have Hr:=aT hr.1;have Hi:=aT hi.1;simp only[Nat.add_zero] at e0;clear hx hr hd hi he
    by_cases hbig:20<q
    · have hno:Hid (ig l=false):=fewVB_no HX.out (.inr (by rw[Hi.out];exact hbig));go_wp2;go_ret;exact⟨df hno.out.symm,bc⟩
    · by_cases hbig2:100<m
      · have hno:Hid (ig l=false):=fewVB_no HX.out (.inl (by rw[Hr.out];exact hbig2));go_wp2;go_ret;exact⟨df hno.out.symm,bc⟩
      · have hsm2:Hid (∀ (j:Nat) (x:DoW),j<k+1->l[j]?=some x->x.b.length<=100/\x.l.length<=20):=fun j x hj hx=>by
         rcases ay j k with q | q
         · exact Hsm.out j x q hx
         · have:j=k:=aS;subst this;rw[HX.out] at hx;injection hx with hx;rw[<- hx,Hr.out,Hi.out];omega
        go_wp2;go_roundw
        case rel=>exact⟨k+1,aS,by go_num,hsm2.out,bc⟩
        case measure=>simp[intOf];omega
  · have hk9:k=n:=aS;subst hk9;have hall:Hid (ig l=decide (k<=60)):=by
     show _=_
     rw[fewVB_all (fun j x hx=>Hsm.out j x (by rw[<- hlen.out];exact (List.getElem?_eq_some_iff.1 hx).1) hx),hlen.out]
    go_wp2;go_ret;exact⟨df (by rw[hall.out];first | rfl | (simp;done) | (simp;omega)),bc⟩
def kD (m:Nat)(p:PV)(pace:Int)(y:DoW)(st st':PGh)(v z:Int):Prop :=
 (eZ y.kind y.n y.l.length y.b.length=false/\z=2/\v=0/\st'=st)\/(eZ y.kind y.n y.l.length y.b.length=true/\kC m p pace y.kind y.n y.l st st' v z)
section
variable {w w0 w':World} {base gy m c c9 many n:Nat} {q:bE} {x:PA} {p:PV} {pace:Int} {st:PGh} {A:Option Addr} {evs:List DoW}
theorem RB.small {B:Option Addr}{m:Nat}{l:List UInt8}(h:RB w B m l)(h0:0<m):∀ g,B.map (·.block)=some g->g<w.heap.size:=by
 intro g hg;obtain⟨b,o,e,hb,_⟩:=h.2 h0;subst e;have:b=g:=by simpa using hg
 omega
theorem do_evR {R C:Option Addr}{r:Nat}(y:DoW)(V:Env p m pace many)(h:PlSt w base gy q x p m c pace many st)
 (hl:RI w R r y.l) (hr:r<=maxLen) (hi:eN y.l) (hRB:eq w base ⟨C,c1,c1'⟩ y.b) (hn:y.n<=9223372036854775807) (hcb:c<7000000000000000000) :
 Ca 51 #[.pointer (some ⟨gy,0,none⟩),.agg #[I y.kind,I y.n,.slice R r r',.slice C c1 c1']] w fun e w'=>∃ v z,e=.returned (.agg #[I z,I v])/\Step mutP base q w w'/\∃ st',kD m p pace y st st' v z/\PlSt w' base gy q x p m (c+2000) pace many st':=by
 have hs:=h.hs;have e1:y.l.length=r:=hl.1;have e2:y.b.length=c1:=hRB.1.1;unfold kD;rw[e1,e2]
 cases hR:eZ y.kind y.n r c1 with
 | false=>
   obtain⟨gp,hp⟩:=h.pin;exact (do_bad hp.blk hR).mono fun e w' ⟨he,hb⟩=>⟨0,2,he,Step.of_below hb hs,st,.inl ⟨rfl,rfl,rfl,rfl⟩,(h.below hb).more aS⟩
 | true=>exact (do_st V h hR hl hr hi hRB hn hcb).mono fun e w' ⟨v,z,he,s,st',h1,h2⟩=>⟨v,z,he,s,st',.inr ⟨rfl,h1⟩,h2⟩
theorem do_ev {R C:Option Addr}{r:Nat}(y:DoW)(V:Env p m pace many)(h:PlSt w base gy q x p m c pace many st)
 (hl:RI w R r y.l) (hr:r<=maxLen) (hi:eN y.l) (hRB:∀ W,Below base w W->RB W C c1 y.b) (hC:0<c1->∀ g,C.map (·.block)=some g->g<base) (hc1:c1<=maxLen) (hn:y.n<=9223372036854775807) (hcb:c<7000000000000000000) :
 Ca 51 #[.pointer (some ⟨gy,0,none⟩),.agg #[I y.kind,I y.n,.slice R r r',.slice C c1 c1']] w fun e w'=>∃ v z,e=.returned (.agg #[I z,I v])/\Step mutP base q w w'/\∃ st',kD m p pace y st st' v z/\PlSt w' base gy q x p m (c+2000) pace many st' :=
 do_evR y V h hl hr hi ⟨hRB w (Below.refl _ _),hc1,fun h0 g hg=>.inl (hC h0 g hg)⟩ hn hcb
end
def GhOk (m:Nat):PGh->Prop
 | .on _ rows tick rep=>tick<=rows.length/\rows.length<=m
 | .off k all ran=>0<=ran/\ran<=(k:Int)/\k<=all.length/\all.length<=m
 | .down k all ran=>0<=ran/\ran<=(k:Int)/\k<=all.length/\all.length<=m
section
variable {m:Nat} {p:PV} {pace:Int} {y:DoW} {st st':PGh} {v z:Int} {k0:Nat} {all:List (List Int)} {ran n:Int}
theorem kB.ok (h:kB pace n k0 all ran st' v z)(h0:0<=ran)(h1:ran<=(k0:Int))(h2:k0<=all.length)(h3:all.length<=m)(hm:m<=1024)(hp:pace<=1024):GhOk m st'/\0<=v/\v<=2048:=by
 rcases h with ⟨nx,_,n1,n2,n3,n4,rfl⟩ | ⟨_,rfl,_,k',nx,n1,n2,n3,rfl⟩
 · refine⟨⟨?_,?_⟩,n3,aS⟩ <;> rw[aA] <;> omega
 · refine⟨⟨h0,aS,?_,?_⟩,aS,aS⟩ <;> rw[aA] <;> omega
theorem kD.ok (h:kD m p pace y st st' v z)(hg:GhOk m st)(hm:m<=1024)(hp:pace<=1024):GhOk m st'/\0<=v/\v<=2048:=by
 rcases h with ⟨_,_,rfl,rfl⟩ | ⟨hR,h⟩
 · exact⟨hg,aS,aS⟩
 have hn:y.kind=2->0<=y.n:=fun e=>by have:=jP.1 hR;omega
 cases st with
 | on armed rows tick rep=>
   obtain⟨g1,g2⟩:=hg;rcases h with ⟨_,⟨_,rfl,_,rfl⟩ | ⟨_,rfl,_,_,rfl⟩ | ⟨_,rfl,_,hl,rfl⟩ | ⟨_,rfl,_,hl,_,rfl⟩⟩ | ⟨e,⟨_,hv,rfl⟩ | ⟨_,v0,v1,_,rfl⟩⟩ | ⟨_,rfl,⟨_,rfl⟩ | ⟨_,_,rfl⟩⟩ | ⟨_,rfl,_,rfl⟩ | ⟨_,h⟩
   · exact⟨⟨g1,g2⟩,aS,aS⟩
   · exact⟨⟨g1,g2⟩,aS,aS⟩
   · exact⟨⟨by rw[aw];omega,by rw[aw,aJ];omega⟩,aS,aS⟩
   · exact⟨⟨aS,aS,by rw[aw];omega,by rw[aw,aJ];omega⟩,aS,aS⟩
   · have:=hn e;exact⟨⟨aS,g2⟩,aS,aS⟩
   · exact⟨⟨aS,aS,Nat.le_refl _,g2⟩,aS,aS⟩
   · exact⟨⟨g1,g2⟩,aS,aS⟩
   · exact⟨⟨aS,aS,Nat.le_refl _,g2⟩,aS,aS⟩
   · exact⟨⟨g1,g2⟩,aS,aS⟩
   · exact h.ok aS aS aW g2 hm hp
 | off k0 all ran=>
   obtain⟨g1,g2,g3,g4⟩:=hg;rcases h with ⟨_,_,rfl,rfl⟩ | ⟨_,rfl,_,rfl⟩ | ⟨_,h⟩
   · exact⟨⟨g1,g2,g3,g4⟩,aS,aS⟩
   · exact⟨⟨g1,g2,g3,g4⟩,aS,aS⟩
   · exact h.ok g1 g2 g3 g4 hm hp
 | down k0 all ran=>
   obtain⟨g1,g2,g3,g4⟩:=hg;rcases h with ⟨_,_,rfl,rfl⟩ | ⟨_,rfl,_,rfl⟩ | ⟨_,h⟩
   · exact⟨⟨g1,g2,g3,g4⟩,aS,aS⟩
   · exact⟨⟨g1,g2,g3,g4⟩,aS,aS⟩
   · exact h.ok g1 g2 g3 g4 hm hp
end
structure MV where
 sure:List (List Int)
 may:List (List Int)
 ran:Int
 armed:Bool
 off:Bool
 down:Bool
 opn:Bool
def SeeR (m:Nat)(p:PV)(pace k n:Int)(l:List Int)(nb:Nat)(M:MV)(v z:Int)(M':MV):Prop :=
 (eZ k n l.length nb=false/\v=0/\z=2/\M'=M) \/
 (eZ k n l.length nb=true/\k=5/\z=0/\0<=v/\v<=(M.sure.length:Int) - M.ran+(M.may.length:Int)+pace/\M'={ M with down:=false,armed:=false,off:=false,opn:=true }) \/
 (eZ k n l.length nb=true/\k=5/\0<=n/\z=50/\v=0/\M'={ M with down:=true,armed:=true,off:=false,opn:=false }) \/
 (eZ k n l.length nb=true/\k=4/\M.opn=false/\z=0/\v=0/\M'={ M with armed:=true }) \/
 (eZ k n l.length nb=true/\(k=1\/k=2\/k=3)/\M.opn=false/\M.down=true/\z=1/\v=0/\M'=M) \/
 (eZ k n l.length nb=true/\(k=1\/k=2\/k=3)/\M.opn=false/\M.down=false/\M.off=true/\z=50/\v=0/\M'=M) \/
 (eZ k n l.length nb=true/\M.opn=false/\M.down=false/\M.off=false /\
  ((k=1/\cx p.ins l=false/\z=41/\v=0/\M'=M) \/
   (k=1/\cx p.ins l=true/\M.sure.length=m/\z=52/\v=0/\M'=M) \/
   (k=1/\cx p.ins l=true/\M.sure.length<m/\z=0/\v=(M.sure.length:Int)/\M'={ M with sure:=M.sure ++ [l] }) \/
   (k=1/\cx p.ins l=true/\M.sure.length<m/\z=50/\v=0/\M.armed=true/\M'={ M with may:=[l],off:=true }) \/
   (k=2/\z=0/\v=min n ((M.sure.length:Int) - M.ran)/\M'={ M with ran:=M.ran+v }) \/
   (k=2/\z=50/\0<=v/\v<=min n ((M.sure.length:Int) - M.ran)/\M.armed=true/\M'={ M with ran:=M.ran+v,off:=true }) \/
   (k=3/\z=0/\v=0/\M'=M) \/
   (k=3/\z=50/\v=0/\M.armed=true/\M'={ M with off:=true })))
def MTold (M:MV)(k:Nat)(all:List (List Int)):Prop:=M.sure.length<=k/\∃ j,all=M.sure ++ M.may.take j
def MRel (M:MV):PGh->Prop
 | .on armed rows tick _=>M.may.length<=1/\M.opn=false/\M.down=false/\M.off=false/\M.armed=armed/\M.sure=rows/\M.ran=(tick:Int)
 | .off k all ran=>M.may.length<=1/\M.opn=false/\M.down=false/\M.off=true/\M.ran=ran/\MTold M k all
 | .down k all ran=>M.may.length<=1/\M.opn=false/\M.down=true/\M.ran=ran/\MTold M k all
def MOpen (M:MV):PGh->Prop
 | .on armed rows tick _=>M.may.length<=1/\M.opn=true/\M.down=false/\M.off=false/\M.armed=armed/\tick=List.length rows/\armed=false/\∃ j,rows=M.sure ++ M.may.take j
 | _=>False
section
variable {m:Nat} {p:PV} {pace n:Int} {y:DoW} {st st':PGh} {v z:Int} {k0:Nat} {all:List (List Int)} {ran:Int} {M:MV}
theorem MTold.take (h:MTold M k0 all){nx:Nat}(hx:k0<=nx):∃ j,all.take nx=M.sure ++ M.may.take j:=by
 obtain⟨h1,j,h2⟩:=h;refine⟨min (nx - M.sure.length) j,?_⟩;rw[h2,List.take_append,au aS,List.take_take]
theorem oQ {k:Int}(h:kB pace n k0 all ran st' v z)(hR:eZ k n l.length nb=true)(hk:k=5)(h1:M.may.length<=1)(hr:M.ran=ran)(hT:MTold M k0 all) :
 ∃ M',SeeR m p pace k n l nb M v z M'/\(MRel M' st'\/MOpen M' st'):=by
 have hlen:all.length<=M.sure.length+M.may.length:=by
  obtain⟨_,j,e⟩:=hT;rw[e,aw,aA];omega
 rcases h with ⟨nx,rfl,n1,n2,n3,n4,rfl⟩ | ⟨rfl,rfl,n0,k',nx,n1,n2,n3,rfl⟩
 · refine⟨_,.inr (.inl ⟨hR,hk,rfl,n3,aS,rfl⟩),.inr ⟨h1,rfl,rfl,rfl,rfl,by rw[aA];omega,rfl,hT.take n1⟩⟩
 · exact⟨_,.inr (.inr (.inl ⟨hR,hk,n0,rfl,rfl,rfl⟩)),.inl ⟨h1,rfl,rfl,hr,by have:=hT.1;show M.sure.length<=k';omega,hT.take aS⟩⟩
theorem see_rel (h:kD m p pace y st st' v z)(hg:GhOk m st)(hM:MRel M st):∃ M',SeeR m p pace y.kind y.n y.l y.b.length M v z M'/\(MRel M' st'\/MOpen M' st'):=by
 rcases h with ⟨hR,rfl,rfl,rfl⟩ | ⟨hR,h⟩
 · exact⟨M,.inl ⟨hR,rfl,rfl,rfl⟩,.inl hM⟩
 cases st with
 | on armed rows tick rep=>
   obtain⟨g1,g2⟩:=hg;obtain⟨m1,m2,m3,m4,m5,m6,m7⟩:=hM;subst m6;rcases h with ⟨e,⟨rfl,rfl,hf,rfl⟩ | ⟨rfl,rfl,hf,hl,rfl⟩ | ⟨rfl,rfl,hf,hl,rfl⟩ | ⟨rfl,rfl,hf,hl,ha,rfl⟩⟩ | ⟨e,⟨rfl,hv,rfl⟩ | ⟨rfl,v0,v1,ha,rfl⟩⟩ | ⟨e,rfl,⟨rfl,rfl⟩ | ⟨rfl,ha,rfl⟩⟩ | ⟨e,rfl,rfl,rfl⟩ | ⟨e,h⟩
   · exact⟨_,.inr (.inr (.inr (.inr (.inr (.inr ⟨hR,m2,m3,m4,.inl ⟨e,hf,rfl,rfl,rfl⟩⟩))))),.inl ⟨m1,m2,m3,m4,m5,rfl,m7⟩⟩
   · exact⟨_,.inr (.inr (.inr (.inr (.inr (.inr ⟨hR,m2,m3,m4,.inr (.inl ⟨e,hf,hl,rfl,rfl,rfl⟩)⟩))))),.inl ⟨m1,m2,m3,m4,m5,rfl,m7⟩⟩
   · exact⟨_,.inr (.inr (.inr (.inr (.inr (.inr ⟨hR,m2,m3,m4,.inr (.inr (.inl ⟨e,hf,hl,rfl,rfl,rfl⟩))⟩))))),.inl ⟨m1,m2,m3,m4,m5,rfl,m7⟩⟩
   · exact⟨_,.inr (.inr (.inr (.inr (.inr (.inr ⟨hR,m2,m3,m4,.inr (.inr (.inr (.inl ⟨e,hf,hl,rfl,rfl,m5.trans ha,rfl⟩)))⟩))))),.inl ⟨Nat.le_refl _,m2,m3,rfl,m7,Nat.le_refl _,1,rfl⟩⟩
   · have hn:0<=y.n:=by have:=jP.1 hR;omega
     exact⟨_,.inr (.inr (.inr (.inr (.inr (.inr ⟨hR,m2,m3,m4,.inr (.inr (.inr (.inr (.inl ⟨e,rfl,by rw[m7];exact hv,rfl⟩))))⟩))))),.inl ⟨m1,m2,m3,m4,m5,rfl,by show M.ran+v=((tick+v.toNat:Nat):Int);omega⟩⟩
   · exact⟨_,.inr (.inr (.inr (.inr (.inr (.inr ⟨hR,m2,m3,m4,.inr (.inr (.inr (.inr (.inr (.inl ⟨e,rfl,v0,by rw[m7];exact v1,m5.trans ha,rfl⟩)))))⟩))))),.inl ⟨m1,m2,m3,rfl,by show M.ran+v=_;rw[m7],Nat.le_refl _,0,by simp⟩⟩
   · exact⟨_,.inr (.inr (.inr (.inr (.inr (.inr ⟨hR,m2,m3,m4,.inr (.inr (.inr (.inr (.inr (.inr (.inl ⟨e,rfl,rfl,rfl⟩))))))⟩))))),.inl ⟨m1,m2,m3,m4,m5,rfl,m7⟩⟩
   · exact⟨_,.inr (.inr (.inr (.inr (.inr (.inr ⟨hR,m2,m3,m4,.inr (.inr (.inr (.inr (.inr (.inr (.inr ⟨e,rfl,rfl,m5.trans ha,rfl⟩))))))⟩))))),.inl ⟨m1,m2,m3,rfl,m7,Nat.le_refl _,0,by simp⟩⟩
   · exact⟨_,.inr (.inr (.inr (.inl ⟨hR,e,m2,rfl,rfl,rfl⟩))),.inl ⟨m1,m2,m3,m4,rfl,rfl,m7⟩⟩
   · exact oQ h hR e m1 m7 ⟨Nat.le_refl _,0,by simp⟩
 | off k0 all ran=>
   obtain⟨m1,m2,m3,m4,m5,m6⟩:=hM;rcases h with ⟨e,rfl,rfl,rfl⟩ | ⟨e,rfl,rfl,rfl⟩ | ⟨e,h⟩
   · exact⟨_,.inr (.inr (.inr (.inr (.inr (.inl ⟨hR,e,m2,m3,m4,rfl,rfl,rfl⟩))))),.inl ⟨m1,m2,m3,m4,m5,m6⟩⟩
   · exact⟨_,.inr (.inr (.inr (.inl ⟨hR,e,m2,rfl,rfl,rfl⟩))),.inl ⟨m1,m2,m3,m4,m5,m6⟩⟩
   · exact oQ h hR e m1 m5 m6
 | down k0 all ran=>
   obtain⟨m1,m2,m3,m5,m6⟩:=hM;rcases h with ⟨e,rfl,rfl,rfl⟩ | ⟨e,rfl,rfl,rfl⟩ | ⟨e,h⟩
   · exact⟨_,.inr (.inr (.inr (.inr (.inl ⟨hR,e,m2,m3,rfl,rfl,rfl⟩)))),.inl ⟨m1,m2,m3,m5,m6⟩⟩
   · exact⟨_,.inr (.inr (.inr (.inl ⟨hR,e,m2,rfl,rfl,rfl⟩))),.inl ⟨m1,m2,m3,m5,m6⟩⟩
   · exact oQ h hR e m1 m5 m6
structure ToldOk (p:PV)(M:MV)(inn out:List (List Int)):Prop where
 down:M.down=false
 len:M.sure.length<=inn.length
 sure:inn.take M.sure.length=M.sure
 more:inn.length=M.sure.length\/((M.opn=true\/M.off=true)/\inn.drop M.sure.length=M.may)
 ok:dN p.ins inn
 ot:out=cq p inn out.length
 low:M.opn=false->M.ran<=(out.length:Int)
 high:M.opn=false->M.off=false->(out.length:Int)<=M.ran
 off:M.opn=false->M.off=true->out.length<=M.sure.length
 opn:M.opn=true->out.length=inn.length
def gT (M:MV)(inn:List (List Int)):MV:=if M.opn then { M with sure:=inn,may:=[],ran:=(inn.length:Nat),opn:=false } else M
theorem take_may {a b:List (List Int)}(hb:b.length<=1)(j:Nat):(a ++ b.take j).take a.length=a/\((a ++ b.take j).length=a.length\/(a ++ b.take j).drop a.length=b):=by
 refine⟨by rw[List.take_append_of_le_length aW,List.take_length],?_⟩;rcases aI j with h | h
 · left;subst h;simp
 · right
   rw[List.drop_append_of_le_length aW,List.drop_length,List.nil_append,au aS]
theorem told_on (hM:MRel M (.on armed rows tick rep))(hR:dN p.ins rows)(ht:tick<=rows.length)(hl:(cq p rows tick).length=tick):ToldOk p M rows (cq p rows tick)/\MRel (gT M rows) (.on armed rows tick rep):=by
 have hM0:=hM;obtain⟨m1,m2,m3,m4,m5,m6,m7⟩:=hM;subst m6;refine⟨⟨m3,Nat.le_refl _,List.take_length,.inl rfl,hR,by rw[hl],fun _=>by rw[hl,m7];exact Int.le_refl _,fun _ _=>by rw[hl,m7];exact Int.le_refl _,fun _ h=>absurd (m4.symm.trans h) aU,fun h=>absurd (m2.symm.trans h) aU⟩,?_⟩;unfold gT;rw[if_neg (by rw[m2];simp)];exact hM0
theorem told_open (hM:MOpen M (.on armed rows tick rep))(hR:dN p.ins rows)(hl:(cq p rows tick).length=tick):ToldOk p M rows (cq p rows tick)/\MRel (gT M rows) (.on armed rows tick rep):=by
 obtain⟨m1,m2,m3,m4,m5,m6,m7,j,e⟩:=hM;obtain⟨t1,t2⟩:=take_may (a:=M.sure) m1 j;rw[<- e] at t1 t2;refine⟨⟨m3,by rw[e,aw];omega,t1,?_,hR,by rw[hl],fun h=>absurd (m2.symm.trans h) aU,fun h=>absurd (m2.symm.trans h) aU,fun h=>absurd (m2.symm.trans h) aU,fun _=>by rw[hl,m6]⟩,?_⟩
 · rcases t2 with t2 | t2
   · exact .inl t2
   · exact .inr ⟨.inl m2,t2⟩
 · unfold gT;rw[if_pos m2];exact⟨Nat.zero_le _,rfl,m3,m4,m5,rfl,by rw[m6]⟩
theorem told_none (hM:MRel M (.off 0 all ran))(h0:0<=ran)(h1:ran<=0):ToldOk p M [] []/\gT M []=M:=by
 obtain⟨m1,m2,m3,m4,m5,m6,_⟩:=hM;have hs:M.sure=[]:=List.eq_nil_of_length_eq_zero aS;refine⟨⟨m3,by rw[hs];exact Nat.le_refl _,by rw[hs];rfl,.inl (by rw[hs]),⟨fun L hL=>by simp at hL,fun L hL=>by simp at hL⟩,rfl,fun _=>by show M.ran<=0;omega,fun _ h=>absurd (m4.symm.trans h) aU,fun _ _=>Nat.zero_le _,fun h=>absurd (m2.symm.trans h) aU⟩,?_⟩;unfold gT;rw[if_neg (by rw[m2];simp)]
def MOk (M:MV):Prop:=0<=M.ran/\M.ran<=(M.sure.length:Int)
theorem see_ok {k:Int}{M':MV}(h:SeeR m p pace k n l nb M v z M')(hM:MOk M):MOk M':=by
 obtain⟨h0,h1⟩:=hM;rcases h with ⟨_,_,_,rfl⟩ | ⟨_,_,_,_,_,rfl⟩ | ⟨_,_,_,_,_,rfl⟩ | ⟨_,_,_,_,_,rfl⟩ | ⟨_,_,_,_,_,_,rfl⟩ | ⟨_,_,_,_,_,_,_,rfl⟩ | ⟨hR,_,_,_,hx⟩
 · exact⟨h0,h1⟩
 · exact⟨h0,h1⟩
 · exact⟨h0,h1⟩
 · exact⟨h0,h1⟩
 · exact⟨h0,h1⟩
 · exact⟨h0,h1⟩
 · rcases hx with ⟨_,_,_,_,rfl⟩ | ⟨_,_,_,_,_,rfl⟩ | ⟨_,_,_,_,_,rfl⟩ | ⟨_,_,_,_,_,_,rfl⟩ | ⟨hk,_,hv,rfl⟩ | ⟨_,_,hv0,hv,_,rfl⟩ | ⟨_,_,_,rfl⟩ | ⟨_,_,_,_,rfl⟩
   · exact⟨h0,h1⟩
   · exact⟨h0,h1⟩
   · refine⟨h0,?_⟩
     show M.ran<=((M.sure ++ [l]).length:Int)
     rw[aw];omega
   · exact⟨h0,h1⟩
   · have hn:0<=n:=by have:=jP.1 hR;omega
     exact⟨by show 0<=M.ran+v;omega,by show M.ran+v<=(M.sure.length:Int);omega⟩
   · exact⟨by show 0<=M.ran+v;omega,by show M.ran+v<=(M.sure.length:Int);omega⟩
   · exact⟨h0,h1⟩
   · exact⟨h0,h1⟩
theorem told_ok {inn:List (List Int)}(hM:MOk M):MOk (gT M inn):=by
 unfold gT
 split
 · exact⟨by show (0:Int)<=(inn.length:Nat);omega,Int.le_refl _⟩
 · exact hM
theorem rel_len (hg:GhOk m st)(hM:MRel M st\/MOpen M st):M.sure.length<=m/\M.may.length<=1:=by
 cases st with
 | on armed rows tick rep=>
   rcases hM with hM | hM
   · obtain⟨m1,_,_,_,_,m6,_⟩:=hM;exact⟨by rw[m6];exact hg.2,m1⟩
   · obtain⟨m1,_,_,_,_,_,_,j,e⟩:=hM;refine⟨?_,m1⟩;have:=hg.2;rw[e,aw] at this;omega
 | off k all ran=>
   rcases hM with hM | hM
   · obtain⟨m1,_,_,_,_,m6⟩:=hM;have:=m6.1;obtain⟨g1,g2,g3,g4⟩:=hg;exact⟨aS,m1⟩
   · exact hM.elim
 | down k all ran=>
   rcases hM with hM | hM
   · obtain⟨m1,_,_,_,m6⟩:=hM;have:=m6.1;obtain⟨g1,g2,g3,g4⟩:=hg;exact⟨aS,m1⟩
   · exact hM.elim
theorem gone_not {k0':Nat}{all':List (List Int)}{ran':Int}(h:kD m p pace y st st' v z)(hst:st'=.off k0' all' ran'\/st'=.down k0' all' ran'):z≠0\/y.kind=4:=by
 rcases h with ⟨_,rfl,_,_⟩ | ⟨hR,h⟩
 · exact .inl aU
 cases st with
 | on armed rows tick rep=>
   rcases h with ⟨_,⟨rfl,_⟩ | ⟨rfl,_⟩ | ⟨_,_,_,_,rfl⟩ | ⟨rfl,_⟩⟩ | ⟨_,⟨_,_,rfl⟩ | ⟨rfl,_⟩⟩ | ⟨_,_,⟨_,rfl⟩ | ⟨rfl,_⟩⟩ | ⟨e,_⟩ | ⟨_,⟨nx,_,_,_,_,_,rfl⟩ | ⟨rfl,_⟩⟩
   · exact .inl aU
   · exact .inl aU
   · rcases hst with e | e <;> cases e
   · exact .inl aU
   · rcases hst with e | e <;> cases e
   · exact .inl aU
   · rcases hst with e | e <;> cases e
   · exact .inl aU
   · exact .inr e
   · rcases hst with e | e <;> cases e
   · exact .inl aU
 | off k0 all ran=>
   rcases h with ⟨_,rfl,_⟩ | ⟨e,_⟩ | ⟨_,⟨nx,_,_,_,_,_,rfl⟩ | ⟨rfl,_⟩⟩
   · exact .inl aU
   · exact .inr e
   · rcases hst with e | e <;> cases e
   · exact .inl aU
 | down k0 all ran=>
   rcases h with ⟨_,rfl,_⟩ | ⟨e,_⟩ | ⟨_,⟨nx,_,_,_,_,_,rfl⟩ | ⟨rfl,_⟩⟩
   · exact .inl aU
   · exact .inr e
   · rcases hst with e | e <;> cases e
   · exact .inl aU
end
theorem eqFields_two (w:World)(hit:P.underlying it=some (.int .i64))(hk:P.plainKey it=true)(hjt:P.underlying jt=some (.int .i64))(hl:P.plainKey jt=true)(d:Nat)(xs ys:List Int):∀ fs:List Field,
 (∀ f ∈ fs,(f.type=it\/f.type=jt)/\f.name≠"_"/\f.offset<xs.length/\f.offset<ys.length) ->
 (Op.eqFields (d+1) (xs.map iv).toArray (ys.map iv).toArray fs).run P w=.ok (fs.all fun f=>xs.getD f.offset 0 == ys.getD f.offset 0) w:=by
 intro fs
 induction fs with
 | nil=>intro _;simp[Op.eqFields]
 | cons f fs ih=>
   intro h;obtain⟨h1,h2,h3,h4⟩:=h f aZ;have h0:P.underlying f.type=some (.int .i64)/\P.plainKey f.type=true:=by rcases h1 with e | e <;> rw[e] <;> constructor <;> assumption
   have e1:(xs.map iv).toArray[f.offset]?=some (iv (xs.getD f.offset 0)):=by simp[ah,h3]
   have e2:(ys.map iv).toArray[f.offset]?=some (iv (ys.getD f.offset 0)):=by simp[ah,h4]
   have h5:(Op.equalIn (d+1) f.type (iv (xs.getD f.offset 0)) (iv (ys.getD f.offset 0))).run P w=.ok (xs.getD f.offset 0 == ys.getD f.offset 0) w:=run_equalIn_int w d f.type .i64 .i64 _ _ h0.1;simp only[Op.eqFields,h2,ne_eq,not_false_eq_true,if_true,Sem.run_bind,run_part_plain w h0.2 e1,run_part_plain w h0.2 e2,Result.andThen_ok,h5,List.all_cons]
   cases hb:(xs.getD f.offset 0 == ys.getD f.offset 0) with
   | false=>simp
   | true=>
     simp only[Bool.not_true,Bool.false_eq_true,if_false,Bool.true_and];exact ih fun g hg=>h g (by simp[hg])
theorem run_eq_two (w:World){t:TypeId}(hit:P.underlying it=some (.int .i64))(hk:P.plainKey it=true)(hjt:P.underlying jt=some (.int .i64))(hl:P.plainKey jt=true){fs:Array Field}(ht:P.underlying t=some (.struct fs))(hp:P.stoodInHeld t=false)
 (hfs:(fs.toList.all fun f=>(f.type == it || f.type == jt) && (f.name != "_" && decide (f.offset<2)))=true) (hoff:fs.toList.map (·.offset)=List.range 2) (a b c d:Int) :
 (Op.equalIn 10000 t (.agg #[I a,I b]) (.agg #[I c,I d])).run P w=.ok (decide (a=c/\b=d)) w:=by
 have hfo:P.fieldsOf t=fs:=by unfold Program.fieldsOf;rw[ht]
 have e:=eqFields_two w hit hk hjt hl 9998 [a,b] [c,d] fs.toList (fun f hf=>by
  have:=List.all_eq_true.1 hfs f hf;simp only[av,Bool.or_eq_true,beq_iff_eq,ag,aq] at this;exact⟨this.1,this.2.1,this.2.2,this.2.2⟩)
 rw[show 10000=9999+1 from rfl,run_equalIn_struct w 9999 _ _ _ (by rw[hfo];exact ht) hp,hfo,show 9999=9998+1 from rfl];refine Eq.trans e ?_
 congr 1
 have:(fs.toList.all fun f=>[a,b].getD f.offset 0 == [c,d].getD f.offset 0)=((fs.toList.map (·.offset)).all fun o=>[a,b].getD o 0 == [c,d].getD o 0):=by rw[List.all_map];rfl
 rw[this,hoff,Bool.eq_iff_iff,aq];simp[List.range,List.range.loop]
theorem i9 (w:World)(a b c d:Int):(Op.equalIn 10000 100 (.agg #[I a,I b]) (.agg #[I c,I d])).run Tryz.prog w=.ok (decide (a=c/\b=d)) w :=
 run_eq_two w Tryz.underlying3 bM Tryz.underlying31 bM Tryz.underlying100 bM bM bM a b c d
section
variable {w w':World} {x:PA} {p:PV}
def progL (x:PA)(p:PV):List Value:=[.slice x.A1 x.n1 x.c1,.slice x.A2 x.n2 x.c2,I p.regs,.slice x.A3 x.n3 x.c3,.slice x.A4 x.n4 x.c4]
structure BoxIn (w W:World)(gB:Nat)(x:PA)(p:PV):Prop where
 bel:Below w.heap.size w W
 b:Blk W gB 26 (progL x p)
 rd:cC W x p
theorem BoxIn.of (h:cC w x p):BoxIn w (w.alloc (.cells #[.slice x.A1 x.n1 x.c1,.slice x.A2 x.n2 x.c2,I p.regs,.slice x.A3 x.n3 x.c3,.slice x.A4 x.n4 x.c4] 26)) w.heap.size x p:=by
 have hb:Below w.heap.size w (w.alloc (.cells #[.slice x.A1 x.n1 x.c1,.slice x.A2 x.n2 x.c2,I p.regs,.slice x.A3 x.n3 x.c3,.slice x.A4 x.n4 x.c4] 26)):=(Below.refl _ _).alloc aW _;exact⟨hb,Blk.top _ rfl rfl,h.below (b:=w.heap.size) hb aW⟩
end
section
variable {w:World} {B:Option Addr} {n d:Nat} {r:List Int}
theorem rk_world {C:Code}{Q:Exit->Act->World->Prop}{e:Act}{v0 v1 v2 v3 v4:Value}(hr:RI w B n r)(h:∀ W,(W.cell? ⟨w.heap.size,0,none⟩=some v0/\W.cell? ⟨w.heap.size,1,none⟩=some v1/\W.cell? ⟨w.heap.size,2,none⟩=some v2/\W.cell? ⟨w.heap.size,3,none⟩=some v3/\W.cell? ⟨w.heap.size,4,none⟩=some v4)->w.heap.size<W.heap.size->Hid (Below w.heap.size w W)->Hid (RI W B n r)->w.heap.size<=W.heap.size->C.wp P Q e W) :
 C.wp P Q e (w.alloc (.cells #[v0,v1,v2,v3,v4] 144)):=by
 have hb:Below w.heap.size w (w.alloc (.cells #[v0,v1,v2,v3,v4] 144)):=(Below.refl _ _).alloc aW _;have X:Blk (w.alloc (.cells #[v0,v1,v2,v3,v4] 144)) w.heap.size 144 [v0,v1,v2,v3,v4]:=Blk.top _ rfl rfl;exact h _ (blk5 X) X.lt (aT hb) (aT (hr.below (B:=w.heap.size) hb aW)) hb.size
end
theorem lQ (w:World)(h:SlV):Below w.heap.size w (w.alloc (.cells #[.slice h.a h.n h.c] 22)):=(Below.refl _ _).alloc aW _
section
variable {M:List TypeId} {w w':World} {base g gy m cc many n k c e tick:Nat} {q:bE} {p:PV} {pace rep ran:Int} {calm:Bool} {rows all S may:List (List Int)} {x:PA} {gp A B:Option Addr} {t:TypeId} {cs:List Value}
theorem rowsTail {N at_:Nat}(h:eT w A N S)(hd:N<=c)(ha:at_<=N):∃ A',(∀ W,(Instr.slice 57 (.slice A N c) (some (I (at_:Int))) none none).run Tryz.prog W=.ok (.slice A' (N - at_) (c - at_)) W)/\eT w A' (N - at_) (S.drop at_):=by
 refine⟨_,fun W=>kF jx A N c at_ ha W,?_⟩;obtain⟨hl,hs,hr,hq⟩:=h;refine⟨by rw[aH,hl],hs.drop at_,⟨by rw[aH,hr.1],fun h0=>?_⟩,fun i y Y q1 q2=>?_⟩
 · obtain⟨b,o,e,hb,hc⟩:=hr.2 aS;subst e;rw[if_neg aS];refine⟨b,o+at_,?_,hb,fun i hi=>?_⟩
   · simp[Addr.add]
   · rw[Nat.add_assoc,hc (at_+i) aS];simp only[ah,List.getElem?_map,List.getElem?_drop]
 · rw[List.getElem?_drop] at q1 q2;exact hq _ _ _ q1 q2
end
