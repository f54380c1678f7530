/- Parts: PlainRow, PlainCode. -/
import Derived.Test.YtmeebofhlilcmaaGreatPr03
set_option linter.unusedVariables false
set_option linter.unusedSimpArgs false
set_option maxRecDepth 100000
set_option maxHeartbeats 0
namespace Go.Proofs.YtmeebofhlilcmaaGreat
variable {n k i:Nat} {t op:Int} {l ts:List Int} {b:List UInt8}
open Go.RowKit
def allK (n:Nat)(f:Nat->Bool):Bool:=(List.range n).all f
theorem jg {f:Nat->Bool}:allK n f=true ↔ ∀ i,i<n->f i=true:=by simp[allK,List.all_eq_true]
theorem oW {f:Nat->Bool}(hk:k<n)(h:f k=false):allK n f=false:=by
 rw[Bool.eq_false_iff];intro hc;rw[jg.1 hc k hk] at h;cases h
def tyB (t:Int):Bool:=t == 1 || t == 2
theorem mS :tyB t=true ↔ t=1\/t=2:=by simp[tyB]
def dj (l:List Int):Bool:=allK l.length (fun i=>tyB (bj l i)) && (decide (1<=l.length) && decide (l.length<=8))
theorem fQ :dj l=true ↔ (∀ i,i<l.length->bj l i=1\/bj l i=2)/\1<=l.length/\l.length<=8:=by
 unfold dj;simp only[av,jg,aq,mS]
def okAt (t v:Int):Bool:=!(t == 2) || (v == 0 || v == 1)
theorem jw {v:Int}:okAt t v=true ↔ (t=2->v=0\/v=1):=by
 unfold okAt
 by_cases h:t=2
 · subst h;simp
 · simp[h]
theorem mT {v:Int}:okAt t v=false ↔ (t=2/\v≠0/\v≠1):=by
 unfold okAt
 by_cases h:t=2
 · subst h;simp
 · simp[h]
def cI (ts l:List Int):Bool:=dj ts && (decide (l.length=ts.length) && allK ts.length (fun i=>okAt (bj ts i) (bj l i)))
theorem jx :cI ts l=true ↔ dj ts=true/\l.length=ts.length/\∀ i,i<ts.length->(bj ts i=2->bj l i=0\/bj l i=1):=by
 unfold cI;simp only[av,jg,aq,jw]
def piece (t v:Int):List UInt8:=if t=2 then [UInt8.ofNat v.toNat] else digL 9 (zz v)
theorem piece_len (t v:Int):(piece t v).length<=if t=2 then 1 else 10:=by
 unfold piece
 split
 · simp
 · exact (gw 9 _).1
def rowB (ts l:List Int):Nat->List UInt8
 | 0=>[]
 | k+1=>rowB ts l k ++ piece (bj ts k) (bj l k)
theorem rowB_len10 (ts l:List Int)(k:Nat):(rowB ts l k).length<=10 * k:=by
 induction k with
 | zero=>simp[rowB]
 | succ k ih=>
   have h2:=piece_len (bj ts k) (bj l k);unfold rowB;rw[aw]
   split at h2 <;> omega
theorem rowB_split (ts l:List Int)(k n:Nat)(h:k<=n):∃ more,rowB ts l n=rowB ts l k ++ more:=by
 induction n with
 | zero=>exact⟨[],by rw[show k=0 from by omega];simp⟩
 | succ n ih=>
   by_cases hk:k=n+1
   · exact⟨[],by rw[hk];simp⟩
   · obtain⟨more,hm⟩:=ih aS;exact⟨more ++ piece (bj ts n) (bj l n),by rw[show rowB ts l (n+1)=rowB ts l n ++ piece (bj ts n) (bj l n) from rfl,hm,aN]⟩
theorem oX (ts:List Int){m:List Int}(h:∀ i,i<k->bj l i=bj m i):rowB ts l k=rowB ts m k:=by
 induction k with
 | zero=>rfl
 | succ k ih=>unfold rowB;rw[ih (fun i hi=>h i aS),h k aS]
theorem zag_dig {n:Int}(h0:-9223372036854775808<=n)(h1:n<=9223372036854775807)(more:List UInt8) :
 zagE (digL 9 (zz n) ++ more)=0/\zagS (digL 9 (zz n) ++ more)=(digL 9 (zz n)).length/\zagV (digL 9 (zz n) ++ more)=n:=by
 have hz:=zz_lt h0 h1;have he:cu 10 0 (digL 9 (zz n) ++ more)=((digL 9 (zz n)).length,0):=by
  rw[endsL_dig 9 0 10 _ _ (by have:=(gw 9 (zz n)).1;omega) aS aS,aC]
 have hE:zagE (digL 9 (zz n) ++ more)=0:=by
  unfold zagE;rw[he];have:=digL_ten _ hz more;simp only[ne_eq,not_true_eq_false,if_false];rw[if_neg aS]
 refine⟨hE,?_,?_⟩
 · unfold zagS;rw[if_pos hE,he]
 · unfold zagV;rw[if_pos hE,he]
   show unzz (sevL (List.take _ _))=n
   rw[List.take_left,sevL_dig 9 _ aS,unzz_zz]
theorem zag_of {l:List UInt8}(h:zagE l=0):(cu 10 0 l).2=0/\((cu 10 0 l).1≠10\/bw l 9<=1):=by
 unfold zagE at h
 by_cases h1:(cu 10 0 l).2=0
 · refine⟨h1,?_⟩;rw[if_neg aS] at h
   by_cases h2:(cu 10 0 l).1=10/\1<bw l 9
   · rw[if_pos h2] at h;omega
   · omega
 · rw[if_pos h1] at h;omega
theorem zagS_le (l:List UInt8):zagS l<=l.length:=by
 unfold zagS
 split
 · rename_i h;have:=(jv 10 l 0 (zag_of h).1).2.2;omega
 · omega
theorem zag_ed {l:List UInt8}(h:zagE l=0):digL 9 (zz (zagV l))=l.take (zagS l)/\-9223372036854775808<=zagV l/\zagV l<=9223372036854775807:=by
 obtain⟨h1,h2⟩:=zag_of h;have hz:cu 10 0 l=((cu 10 0 l).1,0):=Prod.ext rfl h1;have hle:=jv 10 l 0 h1;have hS:=zag_lt rfl hz h2;have hbd:=unzz_bd hS;have e1:zagV l=unzz (sevL (l.take (cu 10 0 l).1)):=by unfold zagV;rw[if_pos h]
 have e2:zagS l=(cu 10 0 l).1:=by unfold zagS;rw[if_pos h]
 refine⟨?_,by rw[e1];exact hbd.1,by rw[e1];exact hbd.2⟩;rw[e1,e2,zz_unzz,(dig_sevL 10 l 0 (cu 10 0 l).1 9 (by rw[hz];simp) aS).1]
theorem zagE_cases (l:List UInt8):zagE l=0\/zagE l=10\/zagE l=11:=by
 unfold zagE
 by_cases h:(cu 10 0 l).2=0
 · rw[if_neg aS];split <;> omega
 · rw[if_pos h];right;exact (endsL_err 10 l 0 h).2
def fL (b:List UInt8)(t:Int)(s:List Int × Nat × Nat):List Int × Nat × Nat :=
 if s.2.2≠0 then s
 else if t=1 then
  if zagE (b.drop s.2.1)≠0 then (s.1,s.2.1,zagE (b.drop s.2.1)) else (s.1 ++ [zagV (b.drop s.2.1)],s.2.1+zagS (b.drop s.2.1),0)
 else if b.length<=s.2.1 then (s.1,s.2.1,10)
 else if 1<bw b s.2.1 then (s.1,s.2.1,11)
 else (s.1 ++ [(bw b s.2.1:Int)],s.2.1+1,0)
def rowK (ts:List Int)(b:List UInt8):Nat->List Int × Nat × Nat
 | 0=>([],0,0)
 | k+1=>fL b (bj ts k) (rowK ts b k)
def eJ (ts:List Int)(b:List UInt8):List Int × Nat :=
 if dj ts=false then ([],2)
 else if (rowK ts b ts.length).2.2≠0 then ([],(rowK ts b ts.length).2.2)
 else if (rowK ts b ts.length).2.1<b.length then ([],12)
 else ((rowK ts b ts.length).1,0)
theorem oY {s:List Int × Nat × Nat}(h:s.2.2≠0):fL b t s=s:=by unfold fL;rw[if_pos h]
theorem mU (h:zagE (b.drop i)=0):fL b 1 (l,i,0)=(l ++ [zagV (b.drop i)],i+zagS (b.drop i),0):=by simp[fL,h]
theorem mV (h:zagE (b.drop i)≠0):fL b 1 (l,i,0)=(l,i,zagE (b.drop i)):=by simp[fL,h]
theorem mW (ht:t≠1)(h:b.length<=i):fL b t (l,i,0)=(l,i,10):=by simp[fL,ht,h]
theorem mX (ht:t≠1)(h:i<b.length)(h2:1<bw b i):fL b t (l,i,0)=(l,i,11):=by simp[fL,ht,h2,Nat.not_le.2 h]
theorem mY (ht:t≠1)(h:i<b.length)(h2:bw b i<=1):fL b t (l,i,0)=(l ++ [(bw b i:Int)],i+1,0):=by
 simp[fL,ht,Nat.not_le.2 h,Nat.not_lt.2 h2]
theorem rdK_bad (hk:k<=n)(h:(rowK ts b k).2.2≠0):rowK ts b n=rowK ts b k:=by
 induction n with
 | zero=>rw[show k=0 from by omega]
 | succ n ih=>
   by_cases e:k=n+1
   · rw[e]
   · have:=ih aS
     show fL b _ (rowK ts b n)=_
     rw[this,oY h]
theorem rdK_inv (ts:List Int)(b:List UInt8)(k:Nat):(rowK ts b k).2.1<=b.length/\(rowK ts b k).1.length<=k/\(rowK ts b k).2.2<=11/\((rowK ts b k).2.2=0 ->
 (rowK ts b k).1.length=k/\(∀ i,i<k->bj ts i=1\/bj ts i=2) ->
  rowB ts (rowK ts b k).1 k=b.take (rowK ts b k).2.1/\(∀ i,i<k->bj ts i=2->bj (rowK ts b k).1 i=0\/bj (rowK ts b k).1 i=1) /\
  (∀ i,i<k->-9223372036854775808<=bj (rowK ts b k).1 i/\bj (rowK ts b k).1 i<=9223372036854775807))/\((rowK ts b k).2.2=0->(rowK ts b k).1.length=k):=by
 induction k with
 | zero=>simp[rowK,rowB]
 | succ k ih=>
   rw[show rowK ts b (k+1)=fL b (bj ts k) (rowK ts b k) from rfl];generalize rowK ts b k=s at *;obtain⟨l,i,e⟩:=s;obtain⟨i1,i2,i3,i4,i5⟩:=ih;simp only at i1 i2 i3 i4 i5
   by_cases he:e=0
   · subst he;have hl:=i5 rfl;have hat:∀ (v:Int) (j:Nat),j<k->bj (l ++ [v]) j=bj l j:=fun v j hj=>by
      unfold bj;rw[ag,aO aS,ag]
     have hat2:∀ v:Int,bj (l ++ [v]) k=v:=fun v=>by
      unfold bj;rw[ag,aJ aS];simp[hl]
     by_cases ht:bj ts k=1
     · rw[ht]
       by_cases hz:zagE (b.drop i)=0
       · rw[mU hz];obtain⟨z1,z2,z3⟩:=zag_ed hz;have hzs:=zagS_le (b.drop i);rw[aK] at hzs;generalize zagV (b.drop i)=v at *;generalize zagS (b.drop i)=sz at *;refine⟨by simp only;omega,by simp[hl],by simp,fun _ hh=>?_,fun _=>by simp[hl]⟩;obtain⟨j1,j2,j3⟩:=i4 rfl ⟨hl,fun j hj=>hh.2 j aS⟩;refine⟨?_,fun j hj h2=>?_,fun j hj=>?_⟩
         · show rowB ts (l ++ [v]) k ++ piece (bj ts k) (bj (l ++ [v]) k)=_
           rw[oX ts (hat v),j1,hat2,ht];unfold piece;rw[if_neg aS,z1,List.take_add]
         · simp only
           by_cases hjk:j=k
           · subst hjk;omega
           · rw[hat v j aS];exact j2 j aS h2
         · simp only
           by_cases hjk:j=k
           · subst hjk;rw[hat2];omega
           · rw[hat v j aS];exact j3 j aS
       · rw[mV hz];have:=zagE_cases (b.drop i);refine⟨i1,by simp only;omega,by simp only;omega,fun h=>absurd h hz,fun h=>absurd h hz⟩
     · by_cases h1:b.length<=i
       · rw[mW ht h1];exact⟨i1,by simp only;omega,by simp,fun h=>by simp at h,fun h=>by simp at h⟩
       · by_cases h2:1<bw b i
         · rw[mX ht aS h2];exact⟨i1,by simp only;omega,by simp,fun h=>by simp at h,fun h=>by simp at h⟩
         · rw[mY ht aS aS];refine⟨by simp only;omega,by simp[hl],by simp,fun _ hh=>?_,fun _=>by simp[hl]⟩;obtain⟨j1,j2,j3⟩:=i4 rfl ⟨hl,fun j hj=>hh.2 j aS⟩;have ht2:bj ts k=2:=by have:=hh.2 k aS;omega
           refine⟨?_,fun j hj h2=>?_,fun j hj=>?_⟩
           · show rowB ts (l ++ [_]) k ++ piece (bj ts k) (bj (l ++ [_]) k)=_
             rw[oX ts (hat _),j1,hat2,ht2];unfold piece;rw[if_pos rfl,List.take_add,aR aS];simp only[List.take_succ_cons,List.take_zero,ay]
             congr 2
             unfold bw;simp[ag,Nat.not_le.1 h1]
           · simp only
             by_cases hjk:j=k
             · subst hjk;rw[hat2];omega
             · rw[hat _ j aS];exact j2 j aS h2
           · simp only
             by_cases hjk:j=k
             · subst hjk;rw[hat2];omega
             · rw[hat _ j aS];exact j3 j aS
   · rw[oY (by simpa using he)];exact⟨i1,by simp only;omega,i3,fun h=>absurd h he,fun h=>absurd h he⟩
theorem rdK_rowB (hts:∀ i,i<n->bj ts i=1\/bj ts i=2)(hl:l.length=n)(hfit:∀ i,i<n->bj ts i=2->bj l i=0\/bj l i=1)
 (hb:∀ i,i<n->-9223372036854775808<=bj l i/\bj l i<=9223372036854775807):∀ k,k<=n->rowK ts (rowB ts l n) k=(l.take k,(rowB ts l k).length,0):=by
 intro k
 induction k with
 | zero=>intro _;simp[rowK,rowB]
 | succ k ih=>
   intro hk;rw[show rowK ts (rowB ts l n) (k+1)=fL (rowB ts l n) (bj ts k) (rowK ts (rowB ts l n) k) from rfl,ih aS];obtain⟨more,hm⟩:=rowB_split ts l (k+1) n hk;rw[hm,show rowB ts l (k+1)=rowB ts l k ++ piece (bj ts k) (bj l k) from rfl,aN];have htk:l.take (k+1)=l.take k ++ [bj l k]:=by
    rw[aP aS];unfold bj;simp[ag,show k<l.length from by omega]
   have hd:(rowB ts l k ++ (piece (bj ts k) (bj l k) ++ more)).drop (rowB ts l k).length=piece (bj ts k) (bj l k) ++ more:=by rw[List.drop_left]
   rw[htk,aw];rcases hts k aS with h | h
   · rw[h] at hd ⊢;have hp:piece 1 (bj l k)=digL 9 (zz (bj l k)):=by unfold piece;rw[if_neg aS]
     rw[hp] at hd ⊢;obtain⟨z1,z2,z3⟩:=zag_dig (hb k aS).1 (hb k aS).2 more;rw[mU (by rw[hd];exact z1),hd,z2,z3]
   · have hf:=hfit k aS h;rw[h] at hd ⊢;have hp:piece 2 (bj l k)=[UInt8.ofNat (bj l k).toNat]:=by unfold piece;rw[if_pos rfl]
     rw[hp] at hd ⊢;have hby:bw (rowB ts l k ++ ([UInt8.ofNat (bj l k).toNat] ++ more)) (rowB ts l k).length=(bj l k).toNat:=by
      unfold bw;rw[ag,aJ aS];simp;rcases hf with e | e <;> rw[e] <;> decide
     rw[mY aS aZ (by rw[hby];omega),hby];simp;omega
theorem readR_rowB (hf:cI ts l=true)(hb:∀ i,i<l.length->-9223372036854775808<=bj l i/\bj l i<=9223372036854775807):eJ ts (rowB ts l ts.length)=(l,0):=by
 obtain⟨h1,h2,h3⟩:=jx.1 hf;have h4:=fQ.1 h1;have:=rdK_rowB h4.1 h2 h3 (by rw[<- h2];exact hb) ts.length aX;unfold eJ;rw[if_neg (by simp[h1]),this];simp;exact au aS
theorem readR_back (h:(eJ ts b).2=0):cI ts (eJ ts b).1=true/\rowB ts (eJ ts b).1 ts.length=b /\
 (∀ i,i<(eJ ts b).1.length->-9223372036854775808<=bj (eJ ts b).1 i/\bj (eJ ts b).1 i<=9223372036854775807):=by
 have hi:=rdK_inv ts b ts.length;unfold eJ at h ⊢
 by_cases h1:dj ts=false
 · rw[if_pos h1] at h;simp at h
 · rw[if_neg h1] at h ⊢
   by_cases h2:(rowK ts b ts.length).2.2≠0
   · rw[if_pos h2] at h;exact absurd h h2
   · rw[if_neg h2] at h ⊢
     by_cases h3:(rowK ts b ts.length).2.1<b.length
     · rw[if_pos h3] at h;simp at h
     · rw[if_neg h3];have hr:=fQ.1 (by simpa using h1);have hlen:=hi.2.2.2.2 (by simpa using h2);obtain⟨j1,j2,j3⟩:=hi.2.2.2.1 (by simpa using h2) ⟨hlen,hr.1⟩;refine⟨jx.2 ⟨by simpa using h1,hlen,j2⟩,?_,fun i hi=>j3 i (by simp only at hi;omega)⟩;simp only;rw[j1,au aS]
structure Ins where
 op:Int
 a:Int
 b:Int
 c:Int
 k:Int
deriving DecidableEq
structure PV where
 ins:List Int
 outs:List Int
 regs:Int
 cells:List (Int × Int)
 code:List Ins
def cellE (x:Int × Int):List Value:=[I x.1,I x.2]
def insE (x:Ins):List Value:=[I x.op,I x.a,I x.b,I x.c,I x.k]
theorem jh (x:Int × Int):(cellE x).length=2:=rfl
theorem ki (x:Ins):(insE x).length=5:=rfl
structure PA where
 A1:Option Addr
 n1:Nat
 c1:Nat
 A2:Option Addr
 n2:Nat
 c2:Nat
 A3:Option Addr
 n3:Nat
 c3:Nat
 A4:Option Addr
 n4:Nat
 c4:Nat
structure dd (w:World)(x:PA)(p:PV):Prop where
 r1:RI w x.A1 x.n1 p.ins
 r2:RI w x.A2 x.n2 p.outs
 r3:RdS 2 cellE w x.A3 x.n3 p.cells
 r4:RdS 5 insE w x.A4 x.n4 p.code
 k1:x.n1<=x.c1/\x.c1<=maxLen
 k2:x.n2<=x.c2/\x.c2<=maxLen
 k3:x.n3<=x.c3/\x.c3<=maxLen
 k4:x.n4<=x.c4/\x.c4<=maxLen
theorem dd.below {w w':World}{x:PA}{p:PV}{b:Nat}(h:dd w x p)(hb:Below b w w')(hB:w.heap.size<=b):dd w' x p :=
 ⟨h.r1.below hb hB,h.r2.below hb hB,h.r3.below hb hB,h.r4.below hb hB,h.k1,h.k2,h.k3,h.k4⟩
def gR (t n:Int):Bool:=t == 1 || (t == 2 && (n == 0 || n == 1))
def cls (op:Int):Nat :=
 if op=1\/op=2\/op=21\/(28<=op/\op<=32) then 1
 else if op=3\/op=5\/op=6 then 2
 else if 7<=op/\op<=20 then 3
 else if op=27 then 4 else 0
theorem lG (op:Int):(op=1\/op=2\/op=21\/(28<=op/\op<=32))\/(op=3\/op=5\/op=6)\/(7<=op/\op<=20)\/op=27\/(op<=0\/op=4\/(22<=op/\op<=26)\/33<=op):=aS
theorem cls_1 (h:op=1\/op=2\/op=21\/(28<=op/\op<=32)):cls op=1:=by unfold cls;rw[if_pos h]
theorem cls_2 (h:op=3\/op=5\/op=6):cls op=2:=by unfold cls;rw[if_neg aS,if_pos h]
theorem cls_3 (h:7<=op/\op<=20):cls op=3:=by unfold cls;rw[if_neg aS,if_neg aS,if_pos h]
theorem cls_4 (h:op=27):cls op=4:=by unfold cls;rw[if_neg aS,if_neg aS,if_neg aS,if_pos h]
theorem cls_0 (h:op<=0\/op=4\/(22<=op/\op<=26)\/33<=op):cls op=0:=by unfold cls;rw[if_neg aS,if_neg aS,if_neg aS,if_neg aS]
theorem cls_le (op:Int):cls op<=4:=by
 rcases lG op with h | h | h | h | h
 · rw[cls_1 h];omega
 · rw[cls_2 h];omega
 · rw[cls_3 h];omega
 · rw[cls_4 h];omega
 · rw[cls_0 h];omega
def lH (op:Int):Int:=match cls op with | 1=>9 | 2=>3 | 3=>7 | 4=>15 | _=>0
def hasK (op:Int):Bool:=cls op == 1 || cls op == 4
def InsOk (x:Ins):Prop:=cls x.op≠0/\0<=x.a/\0<=x.b/\0<=x.c/\(cls x.op=1->x.b=0)/\(cls x.op<=2->x.c=0)/\(cls x.op=2\/cls x.op=3->x.k=0)
instance (x:Ins):Decidable (InsOk x):=by unfold InsOk;infer_instance
def insB (x:Ins):Bool:=decide (InsOk x)
def dx (l:List (Int × Int))(i:Nat):Int × Int:=l.getD i (0,0)
def aY (l:List Ins)(i:Nat):Ins:=l.getD i ⟨0,0,0,0,0⟩
def mayB (p:PV):Bool:=(dj p.ins && dj p.outs) && ((decide (0<=p.regs) && decide (p.regs<=1600)) && ((decide (p.cells.length<=60) && decide (p.code.length<=2048)) &&
 (allK p.cells.length (fun i=>gR (dx p.cells i).1 (dx p.cells i).2) && allK p.code.length (fun i=>insB (aY p.code i)))))
theorem ey {p:PV}:mayB p=true ↔ dj p.ins=true/\dj p.outs=true/\0<=p.regs/\p.regs<=1600/\p.cells.length<=60/\p.code.length<=2048 /\
 (∀ i,i<p.cells.length->gR (dx p.cells i).1 (dx p.cells i).2=true)/\(∀ i,i<p.code.length->insB (aY p.code i)=true):=by
 unfold mayB;simp only[av,jg,aq];constructor
 · rintro ⟨⟨h1,h2⟩,⟨h3,h4⟩,⟨h5,h6⟩,h7,h8⟩;exact⟨h1,h2,h3,h4,h5,h6,h7,h8⟩
 · rintro ⟨h1,h2,h3,h4,h5,h6,h7,h8⟩;exact⟨⟨h1,h2⟩,⟨h3,h4⟩,⟨h5,h6⟩,h7,h8⟩
theorem kL {l:List (Int × Int)}{x:Int × Int}(h:l[i]?=some x):dx l i=x:=by unfold dx;rw[ag,h];rfl
theorem kj {l:List Ins}{x:Ins}(h:l[i]?=some x):aY l i=x:=by unfold aY;rw[ag,h];rfl
def ia (x:Int × Int):List UInt8:=UInt8.ofNat x.1.toNat :: digL 9 (zz x.2)
def fR (x:Ins):List UInt8:=UInt8.ofNat x.op.toNat :: (digL 9 x.a.toNat ++ ((if 2<=cls x.op then digL 9 x.b.toNat else []) ++ ((if 3<=cls x.op then digL 9 x.c.toNat else []) ++ (if hasK x.op then digL 9 (zz x.k) else []))))
def ic (l:List Int):List UInt8:=digL 9 l.length ++ l.map (fun t=>UInt8.ofNat t.toNat)
def headBs (p:PV):List UInt8:=ic p.ins ++ ic p.outs ++ digL 9 p.regs.toNat ++ digL 9 p.cells.length
def ge (p:PV):List UInt8:=headBs p ++ p.cells.flatMap ia ++ digL 9 p.code.length ++ p.code.flatMap fR
end Go.Proofs.YtmeebofhlilcmaaGreat
