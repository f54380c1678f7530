/- Parts. -/
import Derived.Test.YtmeebofhlilcmaaGreatPr28
import Derived.Lib.SliceRun
import Derived.BigFrame
set_option linter.unusedVariables false
set_option linter.unusedSimpArgs false
set_option maxRecDepth 100000
set_option maxHeartbeats 0
namespace Go.Proofs.YtmeebofhlilcmaaGreat
variable {base g:Nat} {w:World} {t:TypeId} {cs:List Value}
open Go.RowKit
theorem gg {α:Type}{enc:α->Value}{W:World}{n:Nat}{e:TypeId}{l:List α}(h:Blk W g e (l.map enc))(hb:base<=g)(hl:l.length=n)(hm:n<=maxLen):Ow enc W base e (some ⟨g,0,none⟩) n n l:=by
 subst hl;exact⟨rfl,by simp,.inr ⟨g,l.length,(l.map enc).toArray,rfl,hb,h,Nat.le_refl _,hm,by simp,by rw[Nat.mul_one];exact au bj⟩⟩
theorem setCell_same {i:Nat}{v:Value}(h:Blk w g t cs)(hv:cs[i]?=some v):w.setCell ⟨g,i,none⟩ v=w:=by
 have hg:=h.lt;unfold Blk at h;have hheap:(w.setCell ⟨g,i,none⟩ v).heap=w.heap:=by
  apply Array.ext (by simp[World.setCell]);intro j h1 h2
  by_cases e:j=g
  · subst e;have e1:(w.setCell ⟨j,i,none⟩ v).heap[j]?=w.heap[j]?:=by
     simp only[World.setCell,Array.getElem?_modify,if_true];rw[h];simp only[Option.map_some,Option.isSome_none,Bool.false_eq_true,if_false]
     congr 2
     apply Array.ext';rw[Array.toList_setIfInBounds];obtain⟨hi,hv'⟩:=List.getElem?_eq_some_iff.1 hv
     show cs.set i v=cs
     rw[<- hv',List.set_getElem_self]
    rw[Array.getElem?_eq_getElem h1,Array.getElem?_eq_getElem h2] at e1;injection e1
  · have e1:(w.setCell ⟨g,i,none⟩ v).heap[j]?=w.heap[j]?:=by
     simp only[World.setCell,Array.getElem?_modify];rw[if_neg (fun q=>e q.symm)]
    rw[Array.getElem?_eq_getElem h1,Array.getElem?_eq_getElem h2] at e1;injection e1
 cases w
 simp only[World.setCell] at hheap ⊢;rw[hheap]
theorem setCells_same {v:Value}(h:Blk w g t cs):∀ (n o:Nat),(∀ j,j<n->cs[o+j]?=some v)->w.setCells g o (List.replicate n v)=w:=by
 intro n
 induction n with
 | zero=>intro o _;rfl
 | succ n ih=>
   intro o hj;rw[List.replicate_succ,World.setCells,setCell_same (i:=o) h (hj 0 aS)];exact ih (o+1) (fun j hlt=>by have:=hj (j+1) aS;rwa [show o+(j+1)=o+1+j by omega] at this)
theorem zero_of {P:Program}{z:Value}{a b:Nat}(h:(P.info? t).map (fun i=>(i.zero,i.size,i.bytes))=some (some z,a,b))(w:World):(zeroValue t).run P w=.ok z w:=by
 cases hi:P.info? t with
 | none=>rw[hi] at h;cases h
 | some i=>
   rw[hi] at h;simp only[Option.map_some,Option.some.injEq,Prod.mk.injEq] at h;simp[zeroValue,typeInfo,hi,h.1]
theorem elemBool:dO Tryz.prog 149 4 (.bool false) 1 1:=dO.mk' Tryz.underlying149 bQ rfl aU
theorem zeroInt (w:World):(zeroValue 3).run Tryz.prog w=.ok (I 0) w:=zero_of (P:=Tryz.prog) (a:=1) (b:=8) bQ w
theorem zeroBool (w:World):(zeroValue 4).run Tryz.prog w=.ok (.bool false) w:=zero_of (P:=Tryz.prog) (a:=1) (b:=1) bQ w
theorem clear_ow {α:Type}{enc:α->Value}{P:Program}{e ty:TypeId}{z:Value}{n c:Nat}{A:Option Addr}{l:List α}(ht:P.underlying t=some (.slice e))(hv:∀ w,(zeroValue e).run P w=.ok z w)(hz:z.cells=#[z])(h1:z.oneCell'=true)(h:Ow enc w base e A n c l)(hl:∀ x ∈ l,enc x=z) :
 (Builtin.clear_ #[t] ty #[.slice A n c]).run P w=.ok (.tuple #[]) w:=by
 rcases h.2.2 with ⟨hv',hn⟩ | ⟨g,cap,cur,hv',_,hh,hnc,_,hsz,htk⟩
 · injection hv' with e1 e2 e3;subst e1 hn;simp[Builtin.clear_,run_underlying ht]
 · injection hv' with e1 e2 e3;subst e1 e3;have hb:Blk w g e cur.toList:=by unfold Blk;rw[hh]
   have hcell:∀ j,j<n->cur.toList[j]?=some z:=fun j hj=>by
    have h2:(cur.toList.take (n * 1))[j]?=(l.map enc)[j]?:=by rw[htk]
    rw[aK,if_pos aS,List.getElem?_map] at h2;rw[h2,ap (by rw[h.1];exact hj)];simp only[Option.map_some];rw[hl _ (List.getElem_mem _)]
   rcases aH n with q | q
   · subst q;simp[Builtin.clear_,run_underlying ht]
   · refine (Lib.run_clear_slice (P:=P) w t e ty z ht hv hz h1 g 0 n _ q (fun j hj=>by rw[aB,hb.cell j,hcell j hj];rfl) (fun j _=>hb.frozen _)).trans ?_;rw[setCells_same hb n 0 (fun j hj=>by rw[aB];exact hcell j hj)]
section
variable {w w':World}
theorem index_false (A:Option Addr)(n c:Nat)(l:List Bool)(w:World)(h:Rd bo w A n l)(hn:n<=maxLen) :
 Ca 278 #[.slice A n c,.bool false] w fun e w'=>∃ z:Int,e=.returned (I z)/\(0<=z ↔ l.all id=false)/\w=w':=by
 have hl:=h.1;have HL:=aT hl;have HR:=aT h;unfold maxLen at hn;clear h hl;go_enter Tryz.func278,Tryz.ntmps278;go_wp2_with fail;go_loopw [5,8] (fun _ i wr=>∃ k:Nat,k<=n/\i=I (k:Nat)/\(∀ j,j<k->l[j]?=some true)/\w=wr) (fun _ i _=>n - (intOf i).toNat)
 case atStart=>exact⟨0,aS,rfl,fun j hj=>absurd hj aS,rfl⟩
 case round=>
  obtain⟨k,hk,rfl,hall,rfl⟩:=hrel;have HA:=aT hall;clear hall
  by_cases hlt:k<n
  · obtain⟨b,o,rfl,hb,hc⟩:=HR.out.2.at_ hlt;have hkl:k<l.length:=by rw[HL.out];exact hlt
    rw[gX l k hkl] at hc;have hx:=ap hkl;have HX:=aT hx;clear hx;generalize l[k]=xb at *
    cases xb with
    | false=>
      have hf:Hid (l.all id=false):=by
       show l.all id=false
       cases q:l.all id with
       | false=>rfl
       | true=>
         rw[List.all_eq_true] at q;have:=q false (List.mem_of_getElem? HX.out)
         cases this
      have hc':w.cell? ⟨b,o+k,none⟩=some (.bool false):=hc;clear hc;go_wp2;go_ret;exact⟨(k:Nat),rfl,⟨fun _=>hf.out,fun _=>by omega⟩,rfl⟩
    | true=>
      have hc':w.cell? ⟨b,o+k,none⟩=some (.bool true):=hc;clear hc;have hn2:Hid (∀ j,j<k+1->l[j]?=some true):=fun j hj=>by
       rcases aw j k with q | q
       · exact HA.out j q
       · have:j=k:=aS;subst this;exact HX.out
      go_wp2;go_roundw
      case rel=>exact⟨k+1,aS,by go_num,hn2.out,trivial⟩
      case measure=>simp[intOf];omega
  · have hk9:k=n:=aS;subst hk9;go_wp2;go_ret;refine⟨-1,rfl,⟨fun h=>absurd h aS,fun h=>?_⟩,rfl⟩
    exfalso
    have:l.all id=true:=by
     rw[List.all_eq_true];intro y hy;obtain⟨j,hj⟩:=List.getElem?_of_mem hy;have hjl:=(List.getElem?_eq_some_iff.1 hj).1;have:=HA.out j (by rw[<- HL.out];exact hjl);rw[hj] at this;injection this
    rw[this] at h
    cases h
theorem contains_false (A:Option Addr)(n c:Nat)(l:List Bool)(w:World)(h:Rd bo w A n l)(hn:n<=maxLen) :
 Ca 225 #[.slice A n c,.bool false] w fun e w'=>e=.returned (.bool (!(l.all id)))/\w=w':=by
 have hi:=index_false A n c l w h hn;go_enter Tryz.func225,Tryz.ntmps225;go_wp2_with (first | ((go_at_call 278;go_call (hi) as e w1 ⟨z,rfl,hz,rfl⟩);have HZ:=aT hz;clear hz) | fail);go_ret;refine⟨cV ?_,rfl⟩;have hz:=HZ.out
 cases q:l.all id with
 | false=>rw[q] at hz;simpa using hz
 | true=>rw[q] at hz;simpa using hz
theorem mq (s:LkV)(n:Int):(cZ s n).1.outs=s.outs:=by rw[ix]
theorem nT (s:LkV)(n k:Int):(fp s n k).outs=s.outs:=by rw[givesV_eq]
theorem oneV_outs (s:LkV)(l:List Int)(n:Int):(oneV s l n).1.outs=s.outs:=by rw[jR]
theorem cellV_outs (p:PV)(s:LkV)(n:Int):(cellV p s n).1.outs=s.outs:=by rw[ma]
theorem ms (s:LkV)(b:Bool):(cL s b).outs=s.outs:=rfl
theorem reckV_outs (s:LkV)(y:Ins):(reckV s y).outs=s.outs:=by
 unfold reckV;simp only
 split
 · rw[nT,ms,mq,ms,mq]
 · rw[nT,ms,mq]
theorem instrV_outs (p:PV)(s:LkV)(i:Nat)(y:Ins):(bU p s i y).outs.length=s.outs.length:=by
 unfold bU;simp only
 repeat' split
 all_goals simp only[reckV_outs,nT,mq,ms,oneV_outs,cellV_outs,List.length_set]
theorem lookV_outs (p:PV)(k:Nat):(cq p k).outs.length=p.outs.length:=by
 induction k with
 | zero=>simp[cq]
 | succ k ih=>
   unfold cq
   split
   · exact ih
   · rw[instrV_outs];exact ih
theorem lookV_bad {p:PV}{k:Nat}(h:(cq p k).bad=true):∀ m,cq p (k+m)=cq p k:=by
 intro m
 induction m with
 | zero=>rfl
 | succ m ih=>
   show (if (cq p (k+m)).bad then cq p (k+m) else _)=_
   rw[ih,if_pos h]
theorem lookV_good {p:PV}{k:Nat}(h:(cq p k).bad=false):cq p (k+1)=bU p (cq p k) k (aX p.code k):=by
 show (if (cq p k).bad then cq p k else _)=_
 rw[if_neg (by rw[h];simp)]
section
variable {base g:Nat} {x:PA} {p:PV} {s:LkV}
theorem lkinstr_any (h:LkAt w base g x p s)(hs:base<=w.heap.size)(hp:Olds w base x p)(y:Ins)(i:Nat)(hol:s.outs.length=p.outs.length)(hi:i<p.code.length)(hcode:p.code.length<=100000)(hk:-9223372036854775808<=y.k/\y.k<=9223372036854775807) :
 Ca 224 #[.pointer (some ⟨g,0,none⟩),I (i:Nat),.agg #[I y.op,I y.a,I y.b,I y.c,I y.k]] w (eq w base g x p (bU p s i y) none):=by
 by_cases h0:fG y.op=true
 · exact lkinstr_sign h hs y i h0
 by_cases h1:y.op=1
 · exact lkinstr_int h hs y i h1
 by_cases h2:y.op=2
 · exact lkinstr_bool h hs y i h2
 by_cases h3:y.op=3
 · exact lkinstr_var h hs y i h3
 by_cases h4:y.op=27
 · exact lkinstr_if h hs y i h4
 by_cases h5:y.op=21
 · exact lkinstr_cell h hs hp y i h5
 by_cases h6:y.op=28
 · exact lkinstr_in h hs hp y i h6
 by_cases h7:y.op=29
 · exact lkinstr_out h hs hp y i h7 hol
 by_cases h8:y.op=32
 · exact lkinstr_keep h hs hp y i h8
 · exact lkinstr_skip h hs hp y i ⟨by simpa using h0,h1,h2,h3,h4,h5,h6,h7,h8⟩ hi hcode hk
theorem Olds.below (h:Olds w base x p)(hb:Below base w w'):Olds w' base x p:=by
 obtain⟨w0,h1,h2,h3⟩:=h;exact⟨w0,h1,h2,h3.trans hb⟩
theorem look_any (h:LkAt w base g x p (cq p 0))(hs:base<=w.heap.size)(hp:Olds w base x p)(hm:mayB p=true)(hw:eN p) :
 Ca 154 #[.pointer (some ⟨g,0,none⟩)] w fun e w'=>e=.returned (.bool (!(cq p p.code.length).bad && (cq p p.code.length).outs.all id))/\Below base w w':=by
 have HL:=aT h;obtain⟨K,nk,ck,O,no,co,hb,hg,hk,ho⟩:=h;have c4:=hb.c4;have c5:=hb.c5;have c6:=hb.c6;have hcl5:∀ ty,(Builtin.clear_ #[22] ty #[.slice K nk ck]).run Tryz.prog w=.ok (.tuple #[]) w:=fun ty=>clear_ow Tryz.underlying22 zeroInt rfl rfl hk (fun z hz=>by rw[show (cq p 0).kinds=List.replicate p.regs.toNat 0 from rfl] at hz;rw[List.eq_of_mem_replicate hz];rfl)
 have hcl6:∀ ty,(Builtin.clear_ #[149] ty #[.slice O no co]).run Tryz.prog w=.ok (.tuple #[]) w:=fun ty=>clear_ow Tryz.underlying149 zeroBool rfl rfl ho (fun z hz=>by rw[show (cq p 0).outs=List.replicate p.outs.length false from rfl] at hz;rw[List.eq_of_mem_replicate hz];rfl)
 have HP:=aT hp;have hcode:=(dP.1 hm).2.2.2.2.2.1;have hn4:=(hp.rd (Below.refl _ _)).r4.1;have HN4:=aT hn4;have HW:=aT hw;rw[hn4] at hcode;have hgl:=hb.lt;clear hb hk ho hm hp hw hn4;go_enter Tryz.func154,Tryz.ntmps154;go_wp2_with (simp only[hcl5,hcl6]);go_loopw [3,4,19] (fun _ _ i wr=>∃ k:Nat,k<=x.n4/\i=I (k:Nat)/\(cq p k).bad=false/\LkAt wr base g x p (cq p k)/\Below base w wr) (fun _ _ i _=>x.n4 - (intOf i).toNat)
 case atStart=>exact⟨0,aS,rfl,rfl,HL.out,Below.refl _ _⟩
 case round=>
  obtain⟨k,hk,rfl,hbad,hlk,hbel⟩:=hrel;have HLk:=aT hlk;have HB:=aT hbel;have HBD:=aT hbad;clear hlk hbel hbad;have hbs:=HB.out.size
  by_cases hlt:k<x.n4
  · have HPw:=aT (HP.out.below HB.out);obtain⟨b,o,y,hA,hbl,hy,hcl⟩:=(HPw.out.rd (Below.refl _ _)).r4.at_ gH aS hlt;have hI:=gC hy;have hyk:=(HW.out.code y (List.mem_of_getElem? hy)).2.2.2;obtain⟨op,ya,yb,yc,yk⟩:=y;have h0:wr.cell? ⟨b,o+k * 5,none⟩=some (I op):=hcl 0 aS;have h1:wr.cell? ⟨b,o+k * 5+1,none⟩=some (I ya):=hcl 1 aS;have h2:wr.cell? ⟨b,o+k * 5+2,none⟩=some (I yb):=hcl 2 aS;have h3:wr.cell? ⟨b,o+k * 5+3,none⟩=some (I yc):=hcl 3 aS;have h4:wr.cell? ⟨b,o+k * 5+4,none⟩=some (I yk):=hcl 4 aS;have bX:Below wr.heap.size wr (wr.alloc (.cells #[I op,I ya,I yb,I yc,I yk] 144)):=(Below.refl _ _).alloc aV _;have hin:=lkinstr_any (HLk.out.below bX) (by have:=bX.size;omega) (HPw.out.below (bX.mono aS)) ⟨op,ya,yb,yc,yk⟩ k (lookV_outs p k) (by rw[HN4.out];exact hlt) (by rw[HN4.out];omega) hyk;have HG:=aT (show cq p (k+1)=bU p (cq p k) k ⟨op,ya,yb,yc,yk⟩ from by rw[lookV_good HBD.out,hI]);rw[<- HG.out] at hin;simp only at hin;have HBX:=aT (bX.mono (show base<=wr.heap.size by omega));clear hcl hI hy hyk bX HG;simp only[hA];go_upto_region 7 with (first | ((go_at_call 224;go_call (hin) as e w3 ⟨rfl,l3,b3,st3⟩);have L3:=aT l3;have B3:=aT ((HB.out.trans HBX.out).trans b3);obtain⟨_,_,_,_,_,g8,_,gl3⟩:=l3.cells;clear l3 b3 st3) | fail)
    cases hb2:(cq p (k+1)).bad with
    | true=>
      rw[hb2] at g8;have hfin:Hid ((!(cq p p.code.length).bad && (cq p p.code.length).outs.all id)=false):=by
       show _=_
       have e:cq p p.code.length=cq p (k+1):=by
        have:=lookV_bad hb2 (p.code.length - (k+1))
        rwa [show k+1+(p.code.length - (k+1))=p.code.length by rw[HN4.out];omega] at this
       rw[e,hb2];rfl
      clear hb2;go_wp2_with fail;go_ret;exact⟨by rw[hfin.out];rfl,B3.out⟩
    | false=>
      rw[hb2] at g8;have HB2:=aT hb2;clear hb2;go_wp2_with fail;go_roundw
      case rel=>exact⟨k+1,aS,by go_num,HB2.out,L3.out,B3.out⟩
      case measure=>simp[intOf];omega
  · have hk9:k=x.n4:=aS;subst hk9;have hlk:=HLk.out;obtain⟨K,nk,ck,O,no,co,hb,hg,hk,ho⟩:=hlk;have c6':=hb.c6;have hcf:=contains_false O no co _ wr ho.rd (by have:=ho.cap;omega);have hbl:=hb.lt;have hfin:Hid ((!(cq p p.code.length).bad && (cq p p.code.length).outs.all id)=(cq p x.n4).outs.all id):=by
     show _=_
     rw[HN4.out,HBD.out];rfl
    clear hb hk ho;generalize (cq p x.n4).outs.all id=bb at *;go_wp2_with (first | ((go_at_call 225;go_call (hcf) as e w3 ⟨rfl,rfl⟩)) | fail);go_ret;exact⟨by rw[hfin.out];simp,HB.out⟩
theorem vright_no (x:PA)(p:PV)(w:World)(h:bZ w x p)(hm:mayB p=false) :
 Ca 65 #[.agg #[.slice x.A1 x.n1 x.c1,.slice x.A2 x.n2 x.c2,I p.regs,.slice x.A3 x.n3 x.c3,.slice x.A4 x.n4 x.c4]] w fun e w'=>e=.returned (.bool false)/\Below w.heap.size w w':=by
 have hmay:=fun w h=>jG x p w h
 rw[hm] at hmay;have HP:=aT h;clear hm h;go_enter Tryz.func65,Tryz.ntmps65;go_wp2_with (first | (go_at_call 153;go_call (hmay _ (HP.out.below (b:=w.heap.size) be aV)) as e w1 ⟨rfl,hb1⟩) | fail);go_ret;exact⟨rfl,bB (a:=w) (B:=w.heap.size) be hb1 aZ⟩
theorem vright_yes (x:PA)(p:PV)(w:World)(h:bZ w x p)(hw:eN p)(hm:mayB p=true) :
 Ca 65 #[.agg #[.slice x.A1 x.n1 x.c1,.slice x.A2 x.n2 x.c2,I p.regs,.slice x.A3 x.n3 x.c3,.slice x.A4 x.n4 x.c4]] w fun e w'=>e=.returned (.bool (!(cq p p.code.length).bad && (cq p p.code.length).outs.all id))/\Below w.heap.size w w':=by
 have hmay:=fun w h=>jG x p w h
 rw[hm] at hmay;have hlk:=fun (W:World) (base g:Nat) (l:LkAt W base g x p (cq p 0)) (hs:base<=W.heap.size) (hp:Olds W base x p)=>look_any l hs hp hm hw
 generalize (!(cq p p.code.length).bad && (cq p p.code.length).outs.all id)=bb at *;have HP:=aT h;have hout:=h.r2.1;obtain⟨hr0,hr1⟩:=(show 0<=p.regs/\p.regs<=1600 from ⟨(dP.1 hm).2.2.1,(dP.1 hm).2.2.2.1⟩);have hn2:x.n2<=100:=by
  have:=(fD.1 (dP.1 hm).2.1).2.2;omega
 have hl0:cq p 0=⟨List.replicate p.regs.toNat 0,List.replicate x.n2 false,0,false⟩:=by rw[<- hout];rfl
 have HL0:=aT hl0;clear hm hw h hl0 hout;obtain⟨r,hr⟩:∃ r:Nat,p.regs=(r:Nat):=⟨p.regs.toNat,aS⟩;have hrt:p.regs.toNat=r:=aS;have HRT:=aT hrt;clear hrt;simp only[hr] at hr0 hr1 hmay ⊢;have hmk1:∀ W:World,(Instr.makeSlice 22 (I (r:Int)) (I (r:Int))).run Tryz.prog W=.ok (.slice (some ⟨W.heap.size,0,none⟩) r r) (W.alloc (.cells ((List.replicate r (0:Int)).map iv).toArray 3)):=fun W=>by
  have:=jq dV r aS aS W;rw[show madeCells (I 0).cells r=((List.replicate r (0:Int)).map iv).toArray from by
   apply Array.ext';rw[show (I 0).cells=#[I 0] from rfl,toList_madeCells_one];simp[iv]] at this
  exact this
 have hmk2:∀ W:World,(Instr.makeSlice 149 (I (x.n2:Int)) (I (x.n2:Int))).run Tryz.prog W=.ok (.slice (some ⟨W.heap.size,0,none⟩) x.n2 x.n2) (W.alloc (.cells ((List.replicate x.n2 false).map bo).toArray 4)):=fun W=>by
  have:=jq elemBool x.n2 aS aS W;rw[show madeCells (Value.bool false).cells x.n2=((List.replicate x.n2 false).map bo).toArray from by
   apply Array.ext';rw[show (Value.bool false).cells=#[Value.bool false] from rfl,toList_madeCells_one];simp[bo]] at this
  exact this
 have hZ:=aT (show (cq p 0)=⟨List.replicate r 0,List.replicate x.n2 false,0,false⟩ from by rw[HL0.out,HRT.out]);have hlz:(List.replicate r (0:Int)).length=r:=List.length_replicate;have hlo:(List.replicate x.n2 false).length=x.n2:=List.length_replicate;have HLZ:=aT hlz;have HLO:=aT hlo;clear hlz hlo HL0;generalize List.replicate r (0:Int)=zs at *;generalize List.replicate x.n2 false=os at *;go_enter Tryz.func65,Tryz.ntmps65;go_upto_region 3 with (first | ((go_at_call 153;go_call (hmay _ (HP.out.below (b:=w.heap.size) be aV)) as e w1 ⟨rfl,hb1⟩);have hp1:=Blk.below (w':=w1) (g:=w.heap.size) (t:=26) (cs:=[.slice x.A1 x.n1 x.c1,.slice x.A2 x.n2 x.c2,I r,.slice x.A3 x.n3 x.c3,.slice x.A4 x.n4 x.c4]) bx hb1 aZ;obtain⟨y10,y11,y12,y13,y14⟩:=blk5 hp1;have sz1:=hp1.lt;have b01:Below w.heap.size w w1:=bB (a:=w) (B:=w.heap.size) be hb1 aZ) | fail);have P1:=aT (show bZ w1 x p from HP.out.below (b:=w.heap.size) b01 aV);have B01:=aT b01;have hC:∀ (K:Option Addr) (nk ck:Nat) (O:Option Addr) (no co:Nat) (past:Int) (bad:Bool),lkC x p K nk ck O no co past bad=[.slice x.A1 x.n1 x.c1,.slice x.A2 x.n2 x.c2,I (r:Int),.slice x.A3 x.n3 x.c3,.slice x.A4 x.n4 x.c4,.slice K nk ck,.slice O no co,I past,.bool bad]:=fun K nk ck O no co past bad=>by unfold lkC;rw[hr]
 have HC:=aT hC;clear b01 hC;go_region
 · have bW:Below w1.heap.size w1 (((w1.alloc (.cells (zs.map iv).toArray 3)).alloc (.cells (os.map bo).toArray 4)).alloc (.cells #[.slice x.A1 x.n1 x.c1,.slice x.A2 x.n2 x.c2,I (r:Int),.slice x.A3 x.n3 x.c3,.slice x.A4 x.n4 x.c4,.slice (some ⟨w1.heap.size,0,none⟩) r r,.slice (some ⟨w1.heap.size+1,0,none⟩) x.n2 x.n2,I 0,.bool false] 231)).drew:=be;have L:LkAt (((w1.alloc (.cells (zs.map iv).toArray 3)).alloc (.cells (os.map bo).toArray 4)).alloc (.cells #[.slice x.A1 x.n1 x.c1,.slice x.A2 x.n2 x.c2,I (r:Int),.slice x.A3 x.n3 x.c3,.slice x.A4 x.n4 x.c4,.slice (some ⟨w1.heap.size,0,none⟩) r r,.slice (some ⟨w1.heap.size+1,0,none⟩) x.n2 x.n2,I 0,.bool false] 231)).drew w1.heap.size (w1.heap.size+1+1) x p (cq p 0):=by
    rw[hZ.out];exact⟨some ⟨w1.heap.size,0,none⟩,r,r,some ⟨w1.heap.size+1,0,none⟩,x.n2,x.n2,by rw[HC.out];exact Blk.drew (Blk.top _ bj rfl),aS,
     gg (Blk.drew (((Blk.top (g:=w1.heap.size) (t:=3) (cs:=zs.map iv) w1 rfl rfl).alloc _).alloc _)) aV HLZ.out bO,gg (Blk.drew ((Blk.top (g:=w1.heap.size+1) (t:=4) (cs:=os.map bo) _ bj rfl).alloc _)) aS HLO.out bO⟩
   have sW:=bW.size;have c:=hlk _ _ _ L sW ⟨w1,P1.out,Nat.le_refl _,bW⟩;have BW:=aT bW;clear L bW hlk;go_wp2_with (first | ((go_at_call 154;go_call (c) as e w2 ⟨rfl,b2⟩);have B2:=aT b2;clear b2) | fail);go_ret;exact⟨rfl,B01.out.trans ((BW.out.trans B2.out).mono B01.out.size)⟩
 · have bW:Below w1.heap.size w1 (((w1.alloc (.cells (os.map bo).toArray 4)).alloc (.cells (zs.map iv).toArray 3)).alloc (.cells #[.slice x.A1 x.n1 x.c1,.slice x.A2 x.n2 x.c2,I (r:Int),.slice x.A3 x.n3 x.c3,.slice x.A4 x.n4 x.c4,.slice (some ⟨w1.heap.size+1,0,none⟩) r r,.slice (some ⟨w1.heap.size,0,none⟩) x.n2 x.n2,I 0,.bool false] 231)).drew:=be;have L:LkAt (((w1.alloc (.cells (os.map bo).toArray 4)).alloc (.cells (zs.map iv).toArray 3)).alloc (.cells #[.slice x.A1 x.n1 x.c1,.slice x.A2 x.n2 x.c2,I (r:Int),.slice x.A3 x.n3 x.c3,.slice x.A4 x.n4 x.c4,.slice (some ⟨w1.heap.size+1,0,none⟩) r r,.slice (some ⟨w1.heap.size,0,none⟩) x.n2 x.n2,I 0,.bool false] 231)).drew w1.heap.size (w1.heap.size+1+1) x p (cq p 0):=by
    rw[hZ.out];exact⟨some ⟨w1.heap.size+1,0,none⟩,r,r,some ⟨w1.heap.size,0,none⟩,x.n2,x.n2,by rw[HC.out];exact Blk.drew (Blk.top _ bj rfl),aS,
     gg (Blk.drew ((Blk.top (g:=w1.heap.size+1) (t:=3) (cs:=zs.map iv) _ bj rfl).alloc _)) aS HLZ.out bO,gg (Blk.drew (((Blk.top (g:=w1.heap.size) (t:=4) (cs:=os.map bo) w1 rfl rfl).alloc _).alloc _)) aV HLO.out bO⟩
   have sW:=bW.size;have c:=hlk _ _ _ L sW ⟨w1,P1.out,Nat.le_refl _,bW⟩;have BW:=aT bW;clear L bW hlk;go_wp2_with (first | ((go_at_call 154;go_call (c) as e w2 ⟨rfl,b2⟩);have B2:=aT b2;clear b2) | fail);go_ret;exact⟨rfl,B01.out.trans ((BW.out.trans B2.out).mono B01.out.size)⟩
theorem nU (x:PA)(p:PV)(w:World)(h:bZ w x p)(hw:eN p) :
 Ca 65 #[.agg #[.slice x.A1 x.n1 x.c1,.slice x.A2 x.n2 x.c2,I p.regs,.slice x.A3 x.n3 x.c3,.slice x.A4 x.n4 x.c4]] w fun e w'=>e=.returned (.bool (dG p))/\Below w.heap.size w w':=by
 cases hm:mayB p with
 | false=>
   rw[show dG p=false by unfold dG;rw[hm];rfl];exact vright_no x p w h hm
 | true=>
   rw[show dG p=(!(cq p p.code.length).bad && (cq p p.code.length).outs.all id) by unfold dG;rw[hm];rfl];exact vright_yes x p w h hw hm
end
end
