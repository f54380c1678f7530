/- Parts. -/
import Derived.Test.YtmeebofhlilcmaaGreatPr01
set_option linter.unusedVariables false
set_option linter.unusedSimpArgs false
set_option maxRecDepth 100000
set_option maxHeartbeats 0
namespace Go.Proofs.YtmeebofhlilcmaaGreat
variable {n k i:Nat} {t op:Int} {l ts:List Int} {b:List UInt8}
open Go.RowKit
def allK (n:Nat)(f:Nat->Bool):Bool:=(List.range n).all f
theorem je {f:Nat->Bool}:allK n f=true ↔ ∀ i,i<n->f i=true:=by simp[allK,List.all_eq_true]
theorem nA {f:Nat->Bool}(hk:k<n)(h:f k=false):allK n f=false:=by
 rw[Bool.eq_false_iff];intro hc;rw[je.1 hc k hk] at h;cases h
def tyB (t:Int):Bool:=t == 1 || t == 2
theorem lu :tyB t=true ↔ t=1\/t=2:=by simp[tyB]
def da (l:List Int):Bool:=allK l.length (fun i=>tyB (bj l i)) && (decide (1<=l.length) && decide (l.length<=8))
theorem fG :da l=true ↔ (∀ i,i<l.length->bj l i=1\/bj l i=2)/\1<=l.length/\l.length<=8:=by
 unfold da;simp only[av,je,aq,lu]
def okAt (t v:Int):Bool:=!(t == 2) || (v == 0 || v == 1)
theorem jR {v:Int}:okAt t v=true ↔ (t=2->v=0\/v=1):=by
 unfold okAt
 by_cases h:t=2
 · subst h;simp
 · simp[h]
theorem nB {v:Int}:okAt t v=false ↔ (t=2/\v≠0/\v≠1):=by
 unfold okAt
 by_cases h:t=2
 · subst h;simp
 · simp[h]
def cx (ts l:List Int):Bool:=da ts && (decide (l.length=ts.length) && allK ts.length (fun i=>okAt (bj ts i) (bj l i)))
theorem jC :cx ts l=true ↔ da ts=true/\l.length=ts.length/\∀ i,i<ts.length->(bj ts i=2->bj l i=0\/bj l i=1):=by
 unfold cx;simp only[av,je,aq,jR]
def piece (t v:Int):List UInt8:=if t=2 then [UInt8.ofNat v.toNat] else digL 9 (zz v)
theorem piece_len (t v:Int):(piece t v).length<=if t=2 then 1 else 10:=by
 unfold piece
 split
 · simp
 · exact (gN 9 _).1
def rowB (ts l:List Int):Nat->List UInt8
 | 0=>[]
 | k+1=>rowB ts l k ++ piece (bj ts k) (bj l k)
theorem rowB_len10 (ts l:List Int)(k:Nat):(rowB ts l k).length<=10 * k:=by
 induction k with
 | zero=>simp[rowB]
 | succ k ih=>
   have h2:=piece_len (bj ts k) (bj l k);unfold rowB;rw[aw]
   split at h2 <;> omega
theorem rowB_split (ts l:List Int)(k n:Nat)(h:k<=n):∃ more,rowB ts l n=rowB ts l k ++ more:=by
 induction n with
 | zero=>exact⟨[],by rw[show k=0 from by omega];simp⟩
 | succ n ih=>
   by_cases hk:k=n+1
   · exact⟨[],by rw[hk];simp⟩
   · obtain⟨more,hm⟩:=ih aS;exact⟨more ++ piece (bj ts n) (bj l n),by rw[show rowB ts l (n+1)=rowB ts l n ++ piece (bj ts n) (bj l n) from rfl,hm,aN]⟩
theorem pj (ts:List Int){m:List Int}(h:∀ i,i<k->bj l i=bj m i):rowB ts l k=rowB ts m k:=by
 induction k with
 | zero=>rfl
 | succ k ih=>unfold rowB;rw[ih (fun i hi=>h i aS),h k aS]
theorem zag_dig {n:Int}(h0:-9223372036854775808<=n)(h1:n<=9223372036854775807)(more:List UInt8) :
 zagE (digL 9 (zz n) ++ more)=0/\zagS (digL 9 (zz n) ++ more)=(digL 9 (zz n)).length/\zagV (digL 9 (zz n) ++ more)=n:=by
 have hz:=zz_lt h0 h1;have he:cy 10 0 (digL 9 (zz n) ++ more)=((digL 9 (zz n)).length,0):=by
  rw[endsL_dig 9 0 10 _ _ (by have:=(gN 9 (zz n)).1;omega) aS aS,aD]
 have hE:zagE (digL 9 (zz n) ++ more)=0:=by
  unfold zagE;rw[he];have:=digL_ten _ hz more;simp only[ne_eq,not_true_eq_false,if_false];rw[if_neg aS]
 refine⟨hE,?_,?_⟩
 · unfold zagS;rw[if_pos hE,he]
 · unfold zagV;rw[if_pos hE,he]
   show unzz (sevL (List.take _ _))=n
   rw[List.take_left,sevL_dig 9 _ aS,unzz_zz]
theorem zag_of {l:List UInt8}(h:zagE l=0):(cy 10 0 l).2=0/\((cy 10 0 l).1≠10\/bx l 9<=1):=by
 unfold zagE at h
 by_cases h1:(cy 10 0 l).2=0
 · refine⟨h1,?_⟩;rw[if_neg aS] at h
   by_cases h2:(cy 10 0 l).1=10/\1<bx l 9
   · rw[if_pos h2] at h;omega
   · omega
 · rw[if_pos h1] at h;omega
theorem zagS_le (l:List UInt8):zagS l<=l.length:=by
 unfold zagS
 split
 · rename_i h;have:=(jQ 10 l 0 (zag_of h).1).2.2;omega
 · omega
theorem zag_ed {l:List UInt8}(h:zagE l=0):digL 9 (zz (zagV l))=l.take (zagS l)/\-9223372036854775808<=zagV l/\zagV l<=9223372036854775807:=by
 obtain⟨h1,h2⟩:=zag_of h;have hz:cy 10 0 l=((cy 10 0 l).1,0):=Prod.ext rfl h1;have hle:=jQ 10 l 0 h1;have hS:=zag_lt rfl hz h2;have hbd:=unzz_bd hS;have e1:zagV l=unzz (sevL (l.take (cy 10 0 l).1)):=by unfold zagV;rw[if_pos h]
 have e2:zagS l=(cy 10 0 l).1:=by unfold zagS;rw[if_pos h]
 refine⟨?_,by rw[e1];exact hbd.1,by rw[e1];exact hbd.2⟩;rw[e1,e2,zz_unzz,(dig_sevL 10 l 0 (cy 10 0 l).1 9 (by rw[hz];simp) aS).1]
theorem zagE_cases (l:List UInt8):zagE l=0\/zagE l=10\/zagE l=11:=by
 unfold zagE
 by_cases h:(cy 10 0 l).2=0
 · rw[if_neg aS];split <;> omega
 · rw[if_pos h];right;exact (endsL_err 10 l 0 h).2
def fM (b:List UInt8)(t:Int)(s:List Int × Nat × Nat):List Int × Nat × Nat :=
 if s.2.2≠0 then s
 else if t=1 then
  if zagE (b.drop s.2.1)≠0 then (s.1,s.2.1,zagE (b.drop s.2.1)) else (s.1 ++ [zagV (b.drop s.2.1)],s.2.1+zagS (b.drop s.2.1),0)
 else if b.length<=s.2.1 then (s.1,s.2.1,10)
 else if 1<bx b s.2.1 then (s.1,s.2.1,11)
 else (s.1 ++ [(bx b s.2.1:Int)],s.2.1+1,0)
def rowK (ts:List Int)(b:List UInt8):Nat->List Int × Nat × Nat
 | 0=>([],0,0)
 | k+1=>fM b (bj ts k) (rowK ts b k)
def eK (ts:List Int)(b:List UInt8):List Int × Nat :=
 if da ts=false then ([],2)
 else if (rowK ts b ts.length).2.2≠0 then ([],(rowK ts b ts.length).2.2)
 else if (rowK ts b ts.length).2.1<b.length then ([],12)
 else ((rowK ts b ts.length).1,0)
theorem pl {s:List Int × Nat × Nat}(h:s.2.2≠0):fM b t s=s:=by unfold fM;rw[if_pos h]
theorem nC (h:zagE (b.drop i)=0):fM b 1 (l,i,0)=(l ++ [zagV (b.drop i)],i+zagS (b.drop i),0):=by simp[fM,h]
theorem nD (h:zagE (b.drop i)≠0):fM b 1 (l,i,0)=(l,i,zagE (b.drop i)):=by simp[fM,h]
theorem nE (ht:t≠1)(h:b.length<=i):fM b t (l,i,0)=(l,i,10):=by simp[fM,ht,h]
theorem nF (ht:t≠1)(h:i<b.length)(h2:1<bx b i):fM b t (l,i,0)=(l,i,11):=by simp[fM,ht,h2,Nat.not_le.2 h]
theorem nG (ht:t≠1)(h:i<b.length)(h2:bx b i<=1):fM b t (l,i,0)=(l ++ [(bx b i:Int)],i+1,0):=by
 simp[fM,ht,Nat.not_le.2 h,Nat.not_lt.2 h2]
theorem rdK_bad (hk:k<=n)(h:(rowK ts b k).2.2≠0):rowK ts b n=rowK ts b k:=by
 induction n with
 | zero=>rw[show k=0 from by omega]
 | succ n ih=>
   by_cases e:k=n+1
   · rw[e]
   · have:=ih aS
     show fM b _ (rowK ts b n)=_
     rw[this,pl h]
theorem rdK_inv (ts:List Int)(b:List UInt8)(k:Nat):(rowK ts b k).2.1<=b.length/\(rowK ts b k).1.length<=k/\(rowK ts b k).2.2<=11/\((rowK ts b k).2.2=0 ->
 (rowK ts b k).1.length=k/\(∀ i,i<k->bj ts i=1\/bj ts i=2) ->
  rowB ts (rowK ts b k).1 k=b.take (rowK ts b k).2.1/\(∀ i,i<k->bj ts i=2->bj (rowK ts b k).1 i=0\/bj (rowK ts b k).1 i=1) /\
  (∀ i,i<k->-9223372036854775808<=bj (rowK ts b k).1 i/\bj (rowK ts b k).1 i<=9223372036854775807))/\((rowK ts b k).2.2=0->(rowK ts b k).1.length=k):=by
 induction k with
 | zero=>simp[rowK,rowB]
 | succ k ih=>
   rw[show rowK ts b (k+1)=fM b (bj ts k) (rowK ts b k) from rfl];generalize rowK ts b k=s at *;obtain⟨l,i,e⟩:=s;obtain⟨i1,i2,i3,i4,i5⟩:=ih;simp only at i1 i2 i3 i4 i5
   by_cases he:e=0
   · subst he;have hl:=i5 rfl;have hat:∀ (v:Int) (j:Nat),j<k->bj (l ++ [v]) j=bj l j:=fun v j hj=>by
      unfold bj;rw[ah,aR aS,ah]
     have hat2:∀ v:Int,bj (l ++ [v]) k=v:=fun v=>by
      unfold bj;rw[ah,aM aS];simp[hl]
     by_cases ht:bj ts k=1
     · rw[ht]
       by_cases hz:zagE (b.drop i)=0
       · rw[nC hz];obtain⟨z1,z2,z3⟩:=zag_ed hz;have hzs:=zagS_le (b.drop i);rw[aH] at hzs;generalize zagV (b.drop i)=v at *;generalize zagS (b.drop i)=sz at *;refine⟨by simp only;omega,by simp[hl],by simp,fun _ hh=>?_,fun _=>by simp[hl]⟩;obtain⟨j1,j2,j3⟩:=i4 rfl ⟨hl,fun j hj=>hh.2 j aS⟩;refine⟨?_,fun j hj h2=>?_,fun j hj=>?_⟩
         · show rowB ts (l ++ [v]) k ++ piece (bj ts k) (bj (l ++ [v]) k)=_
           rw[pj ts (hat v),j1,hat2,ht];unfold piece;rw[if_neg aS,z1,List.take_add]
         · simp only
           by_cases hjk:j=k
           · subst hjk;omega
           · rw[hat v j aS];exact j2 j aS h2
         · simp only
           by_cases hjk:j=k
           · subst hjk;rw[hat2];omega
           · rw[hat v j aS];exact j3 j aS
       · rw[nD hz];have:=zagE_cases (b.drop i);refine⟨i1,by simp only;omega,by simp only;omega,fun h=>absurd h hz,fun h=>absurd h hz⟩
     · by_cases h1:b.length<=i
       · rw[nE ht h1];exact⟨i1,by simp only;omega,by simp,fun h=>by simp at h,fun h=>by simp at h⟩
       · by_cases h2:1<bx b i
         · rw[nF ht aS h2];exact⟨i1,by simp only;omega,by simp,fun h=>by simp at h,fun h=>by simp at h⟩
         · rw[nG ht aS aS];refine⟨by simp only;omega,by simp[hl],by simp,fun _ hh=>?_,fun _=>by simp[hl]⟩;obtain⟨j1,j2,j3⟩:=i4 rfl ⟨hl,fun j hj=>hh.2 j aS⟩;have ht2:bj ts k=2:=by have:=hh.2 k aS;omega
           refine⟨?_,fun j hj h2=>?_,fun j hj=>?_⟩
           · show rowB ts (l ++ [_]) k ++ piece (bj ts k) (bj (l ++ [_]) k)=_
             rw[pj ts (hat _),j1,hat2,ht2];unfold piece;rw[if_pos rfl,List.take_add,aQ aS];simp only[List.take_succ_cons,List.take_zero,ax]
             congr 2
             unfold bx;simp[ah,Nat.not_le.1 h1]
           · simp only
             by_cases hjk:j=k
             · subst hjk;rw[hat2];omega
             · rw[hat _ j aS];exact j2 j aS h2
           · simp only
             by_cases hjk:j=k
             · subst hjk;rw[hat2];omega
             · rw[hat _ j aS];exact j3 j aS
   · rw[pl (by simpa using he)];exact⟨i1,by simp only;omega,i3,fun h=>absurd h he,fun h=>absurd h he⟩
theorem rdK_rowB (hts:∀ i,i<n->bj ts i=1\/bj ts i=2)(hl:l.length=n)(hfit:∀ i,i<n->bj ts i=2->bj l i=0\/bj l i=1)
 (hb:∀ i,i<n->-9223372036854775808<=bj l i/\bj l i<=9223372036854775807):∀ k,k<=n->rowK ts (rowB ts l n) k=(l.take k,(rowB ts l k).length,0):=by
 intro k
 induction k with
 | zero=>intro _;simp[rowK,rowB]
 | succ k ih=>
   intro hk;rw[show rowK ts (rowB ts l n) (k+1)=fM (rowB ts l n) (bj ts k) (rowK ts (rowB ts l n) k) from rfl,ih aS];obtain⟨more,hm⟩:=rowB_split ts l (k+1) n hk;rw[hm,show rowB ts l (k+1)=rowB ts l k ++ piece (bj ts k) (bj l k) from rfl,aN];have htk:l.take (k+1)=l.take k ++ [bj l k]:=by
    rw[aO aS];unfold bj;simp[ah,show k<l.length from by omega]
   have hd:(rowB ts l k ++ (piece (bj ts k) (bj l k) ++ more)).drop (rowB ts l k).length=piece (bj ts k) (bj l k) ++ more:=by rw[List.drop_left]
   rw[htk,aw];rcases hts k aS with h | h
   · rw[h] at hd ⊢;have hp:piece 1 (bj l k)=digL 9 (zz (bj l k)):=by unfold piece;rw[if_neg aS]
     rw[hp] at hd ⊢;obtain⟨z1,z2,z3⟩:=zag_dig (hb k aS).1 (hb k aS).2 more;rw[nC (by rw[hd];exact z1),hd,z2,z3]
   · have hf:=hfit k aS h;rw[h] at hd ⊢;have hp:piece 2 (bj l k)=[UInt8.ofNat (bj l k).toNat]:=by unfold piece;rw[if_pos rfl]
     rw[hp] at hd ⊢;have hby:bx (rowB ts l k ++ ([UInt8.ofNat (bj l k).toNat] ++ more)) (rowB ts l k).length=(bj l k).toNat:=by
      unfold bx;rw[ah,aM aS];simp;rcases hf with e | e <;> rw[e] <;> decide
     rw[nG aS aZ (by rw[hby];omega),hby];simp;omega
theorem readR_rowB (hf:cx ts l=true)(hb:∀ i,i<l.length->-9223372036854775808<=bj l i/\bj l i<=9223372036854775807):eK ts (rowB ts l ts.length)=(l,0):=by
 obtain⟨h1,h2,h3⟩:=jC.1 hf;have h4:=fG.1 h1;have:=rdK_rowB h4.1 h2 h3 (by rw[<- h2];exact hb) ts.length aW;unfold eK;rw[if_neg (by simp[h1]),this];simp;exact au aS
theorem readR_back (h:(eK ts b).2=0):cx ts (eK ts b).1=true/\rowB ts (eK ts b).1 ts.length=b /\
 (∀ i,i<(eK ts b).1.length->-9223372036854775808<=bj (eK ts b).1 i/\bj (eK ts b).1 i<=9223372036854775807):=by
 have hi:=rdK_inv ts b ts.length;unfold eK at h ⊢
 by_cases h1:da ts=false
 · rw[if_pos h1] at h;simp at h
 · rw[if_neg h1] at h ⊢
   by_cases h2:(rowK ts b ts.length).2.2≠0
   · rw[if_pos h2] at h;exact absurd h h2
   · rw[if_neg h2] at h ⊢
     by_cases h3:(rowK ts b ts.length).2.1<b.length
     · rw[if_pos h3] at h;simp at h
     · rw[if_neg h3];have hr:=fG.1 (by simpa using h1);have hlen:=hi.2.2.2.2 (by simpa using h2);obtain⟨j1,j2,j3⟩:=hi.2.2.2.1 (by simpa using h2) ⟨hlen,hr.1⟩;refine⟨jC.2 ⟨by simpa using h1,hlen,j2⟩,?_,fun i hi=>j3 i (by simp only at hi;omega)⟩;simp only;rw[j1,au aS]
structure Ins where
 op:Int
 a:Int
 b:Int
 c:Int
 k:Int
deriving DecidableEq
structure PV where
 ins:List Int
 outs:List Int
 regs:Int
 cells:List (Int × Int)
 code:List Ins
def cellE (x:Int × Int):List Value:=[I x.1,I x.2]
def insE (x:Ins):List Value:=[I x.op,I x.a,I x.b,I x.c,I x.k]
theorem iy (x:Int × Int):(cellE x).length=2:=rfl
theorem gX (x:Ins):(insE x).length=5:=rfl
structure PA where
 A1:Option Addr
 n1:Nat
 c1:Nat
 A2:Option Addr
 n2:Nat
 c2:Nat
 A3:Option Addr
 n3:Nat
 c3:Nat
 A4:Option Addr
 n4:Nat
 c4:Nat
structure cC (w:World)(x:PA)(p:PV):Prop where
 r1:RI w x.A1 x.n1 p.ins
 r2:RI w x.A2 x.n2 p.outs
 r3:RdS 2 cellE w x.A3 x.n3 p.cells
 r4:RdS 5 insE w x.A4 x.n4 p.code
 k1:x.n1<=x.c1/\x.c1<=maxLen
 k2:x.n2<=x.c2/\x.c2<=maxLen
 k3:x.n3<=x.c3/\x.c3<=maxLen
 k4:x.n4<=x.c4/\x.c4<=maxLen
theorem cC.below {w w':World}{x:PA}{p:PV}{b:Nat}(h:cC w x p)(hb:Below b w w')(hB:w.heap.size<=b):cC w' x p :=
 ⟨h.r1.below hb hB,h.r2.below hb hB,h.r3.below hb hB,h.r4.below hb hB,h.k1,h.k2,h.k3,h.k4⟩
def fN (t n:Int):Bool:=t == 1 || (t == 2 && (n == 0 || n == 1))
def cls (op:Int):Nat :=
 if op=1\/op=2\/op=21\/(28<=op/\op<=32) then 1
 else if op=3\/op=5\/op=6 then 2
 else if 7<=op/\op<=20 then 3
 else if op=27 then 4 else 0
theorem lv (op:Int):(op=1\/op=2\/op=21\/(28<=op/\op<=32))\/(op=3\/op=5\/op=6)\/(7<=op/\op<=20)\/op=27\/(op<=0\/op=4\/(22<=op/\op<=26)\/33<=op):=aS
theorem cls_1 (h:op=1\/op=2\/op=21\/(28<=op/\op<=32)):cls op=1:=by unfold cls;rw[if_pos h]
theorem cls_2 (h:op=3\/op=5\/op=6):cls op=2:=by unfold cls;rw[if_neg aS,if_pos h]
theorem cls_3 (h:7<=op/\op<=20):cls op=3:=by unfold cls;rw[if_neg aS,if_neg aS,if_pos h]
theorem cls_4 (h:op=27):cls op=4:=by unfold cls;rw[if_neg aS,if_neg aS,if_neg aS,if_pos h]
theorem cls_0 (h:op<=0\/op=4\/(22<=op/\op<=26)\/33<=op):cls op=0:=by unfold cls;rw[if_neg aS,if_neg aS,if_neg aS,if_neg aS]
theorem cls_le (op:Int):cls op<=4:=by
 rcases lv op with h | h | h | h | h
 · rw[cls_1 h];omega
 · rw[cls_2 h];omega
 · rw[cls_3 h];omega
 · rw[cls_4 h];omega
 · rw[cls_0 h];omega
def ma (op:Int):Int:=match cls op with | 1=>9 | 2=>3 | 3=>7 | 4=>15 | _=>0
def hasN (op:Int):Int:=match cls op with | 1=>1 | 2=>2 | 3=>3 | 4=>3 | _=>0
def hasK (op:Int):Bool:=cls op == 1 || cls op == 4
def InsOk (x:Ins):Prop:=cls x.op≠0/\0<=x.a/\0<=x.b/\0<=x.c/\(cls x.op=1->x.b=0)/\(cls x.op<=2->x.c=0)/\(cls x.op=2\/cls x.op=3->x.k=0)
instance (x:Ins):Decidable (InsOk x):=by unfold InsOk;infer_instance
def insB (x:Ins):Bool:=decide (InsOk x)
def db (l:List (Int × Int))(i:Nat):Int × Int:=l.getD i (0,0)
def aY (l:List Ins)(i:Nat):Ins:=l.getD i ⟨0,0,0,0,0⟩
def mayB (p:PV):Bool:=(da p.ins && da p.outs) && ((decide (0<=p.regs) && decide (p.regs<=1600)) && ((decide (p.cells.length<=60) && decide (p.code.length<=2048)) &&
 (allK p.cells.length (fun i=>fN (db p.cells i).1 (db p.cells i).2) && allK p.code.length (fun i=>insB (aY p.code i)))))
theorem dV {p:PV}:mayB p=true ↔ da p.ins=true/\da p.outs=true/\0<=p.regs/\p.regs<=1600/\p.cells.length<=60/\p.code.length<=2048 /\
 (∀ i,i<p.cells.length->fN (db p.cells i).1 (db p.cells i).2=true)/\(∀ i,i<p.code.length->insB (aY p.code i)=true):=by
 unfold mayB;simp only[av,je,aq];constructor
 · rintro ⟨⟨h1,h2⟩,⟨h3,h4⟩,⟨h5,h6⟩,h7,h8⟩;exact⟨h1,h2,h3,h4,h5,h6,h7,h8⟩
 · rintro ⟨h1,h2,h3,h4,h5,h6,h7,h8⟩;exact⟨⟨h1,h2⟩,⟨h3,h4⟩,⟨h5,h6⟩,h7,h8⟩
theorem jD {l:List (Int × Int)}{x:Int × Int}(h:l[i]?=some x):db l i=x:=by unfold db;rw[ah,h];rfl
theorem gY {l:List Ins}{x:Ins}(h:l[i]?=some x):aY l i=x:=by unfold aY;rw[ah,h];rfl
def iz (x:Int × Int):List UInt8:=UInt8.ofNat x.1.toNat :: digL 9 (zz x.2)
def fT (x:Ins):List UInt8:=UInt8.ofNat x.op.toNat :: (digL 9 x.a.toNat ++ ((if 2<=cls x.op then digL 9 x.b.toNat else []) ++ ((if 3<=cls x.op then digL 9 x.c.toNat else []) ++ (if hasK x.op then digL 9 (zz x.k) else []))))
def iA (l:List Int):List UInt8:=digL 9 l.length ++ l.map (fun t=>UInt8.ofNat t.toNat)
def headBs (p:PV):List UInt8:=iA p.ins ++ iA p.outs ++ digL 9 p.regs.toNat ++ digL 9 p.cells.length
def gw (p:PV):List UInt8:=headBs p ++ p.cells.flatMap iz ++ digL 9 p.code.length ++ p.code.flatMap fT
def plC (d:Nat)(x:PA)(p:PV)(pace:Int)(g:Option Addr):List Value :=
 [.slice x.A1 x.n1 x.c1,.slice x.A2 x.n2 x.c2,I p.regs,.slice x.A3 x.n3 x.c3,.slice x.A4 x.n4 x.c4,.pointer (some ⟨d,0,none⟩),.pointer g,I pace]
def dW (w w':World):Prop:=∀ g t cs,t=98\/t=100\/t=209\/t=83\/t=26->Blk w g t cs->Blk w' g t cs
section
variable {w w':World} {d gy:Nat} {x:PA} {p:PV} {pace n:Int} {gp R C:Option Addr} {r r' c c':Nat} {K:Int→Int→World→Prop}
theorem iB (Y:Blk w gy 209 (plC d x p pace gp)):w.cell? ⟨gy,0,none⟩=some (.slice x.A1 x.n1 x.c1)/\w.cell? ⟨gy,1,none⟩=some (.slice x.A2 x.n2 x.c2)/\w.cell? ⟨gy,2,none⟩=some (I p.regs)/\w.cell? ⟨gy,3,none⟩=some (.slice x.A3 x.n3 x.c3)/\w.cell? ⟨gy,4,none⟩=some (.slice x.A4 x.n4 x.c4)/\w.cell? ⟨gy,5,none⟩=some (.pointer (some ⟨d,0,none⟩))/\w.cell? ⟨gy,6,none⟩=some (.pointer gp)/\w.cell? ⟨gy,7,none⟩=some (I pace) :=
 ⟨Y.c0,Y.c1,Y.c2,Y.c3,Y.c4,Y.c5,Y.c6,Y.c7⟩
def DoSays (k n:Int)(gy d:Nat)(gp R:Option Addr)(r r':Nat)(C:Option Addr)(c c':Nat)(K:Int->Int->World->Prop)(W:World):Prop :=
 (k=1->Ca 31 #[.pointer gp,.slice R r r'] W fun e w1=>dW W w1/\∃ v z,e=.returned (.tuple #[I v,I z])/\K v z w1) /\
 (k=2->Ca 33 #[.pointer gp,I n] W fun e w1=>dW W w1/\∃ v z,e=.returned (.tuple #[I v,I z])/\K v z w1) /\
 (k=3->Ca 32 #[.pointer gp] W fun e w1=>dW W w1/\∃ z,e=.returned (I z)/\K 0 z w1) /\
 (k=4->Ca 42 #[.pointer (some ⟨d,0,none⟩),I n] W fun e w1=>dW W w1/\e=.returned (.tuple #[])/\K 0 0 w1) /\
 (k=5->Ca 134 #[.pointer (some ⟨gy,0,none⟩),.agg #[I 5,I n,.slice R r r',.slice C c c']] W fun e w1=>(∀ g cs,Blk W g 100 cs->Blk w1 g 100 cs)/\∃ v z,e=.returned (.agg #[I z,I v])/\K v z w1)
theorem do_any {k:Int}(Y:Blk w gy 209 (plC d x p pace gp))(hR:eZ k n r c=true)
 (hc:∀ W,Below w.heap.size w W->Blk W gy 209 (plC d x p pace gp)->DoSays k n gy d gp R r r' C c c' K W)
 (hst:∀ v z w1 gr cs (i:Nat) (u:Value),K v z w1->Blk w1 gr 100 cs->w.heap.size<=gr->K v z (w1.setCell ⟨gr,i,none⟩ u)) :
 Ca 51 #[.pointer (some ⟨gy,0,none⟩),.agg #[I k,I n,.slice R r r',.slice C c c']] w fun e w'=>∃ v z,e=.returned (.agg #[I z,I v])/\K v z w':=by
 have HY:=aT Y;have HC:=aT hc;have HST:=aT hst;have hk5:k=1\/k=2\/k=3\/k=4\/k=5:=by have:=jP.1 hR;omega
 have hsr:∀ W,Ca 133 #[.agg #[I k,I n,.slice R r r',.slice C c c']] W fun e w'=>e=.returned (.bool true)/\Below W.heap.size W w':=fun W=>by
  have:=lX (k:=k) (n:=n) (r:=r) (r':=r') (c:=c) (c':=c') (R:=R) (C:=C) (w:=W)
  rwa [hR] at this
 have F0:∀ W,W=(w.alloc (.cells #[I k,I n,.slice R r r',.slice C c c'] 98)).alloc (.cells #[I 0,I 0] 100)->Below w.heap.size w W/\Blk W w.heap.size 98 [I k,I n,.slice R r r',.slice C c c']/\Blk W (w.heap.size+1) 100 [I 0,I 0]:=by
  rintro W rfl;exact⟨bc,bI,bI⟩
 clear Y hc hst hR;go_enter Tryz.func51,Tryz.ntmps51;go_upto_region 1 with fail;refine eG (fun W=>Below w.heap.size w W/\Blk W w.heap.size 98 [I k,I n,.slice R r r',.slice C c c']/\Blk W (w.heap.size+1) 100 [I 0,I 0]) (F0 _ rfl) ?_;clear F0;rintro w1 ⟨hb1,he,hr⟩;have Y1:=aT (HY.out.below hb1 HY.out.lt);have E1:=aT he;have R1:=aT hr;have B1:=aT hb1;have hz1:=hb1.size;clear HY he hr hb1;obtain⟨y0,y1,y2,y3,y4,y5,y6,y7⟩:=iB Y1.out;have z0:=E1.out.c0;have z1:=E1.out.c1;have z2:=E1.out.c2;have z3:=E1.out.c3;go_upto_region 5 with (first | ((go_at_call 133;(with_reducible refine (hsr _).mono ?_);rintro e w2 ⟨rfl,b2⟩);have Y2:=aT (Y1.out.below b2 Y1.out.lt);have E2:=aT (E1.out.below b2 E1.out.lt);have R2:=aT (R1.out.below b2 R1.out.lt);have B2:=aT (B1.out.trans (b2.mono hz1));have hz2:=b2.size;clear b2) | fail);clear y0 y1 y2 y3 y4 y5 y6 y7 z0 z1 z2 z3 Y1 E1 R1 B1 hsr;obtain⟨y0,y1,y2,y3,y4,y5,y6,y7⟩:=iB Y2.out;have z0:=E2.out.c0;have z1:=E2.out.c1;have z2:=E2.out.c2;have z3:=E2.out.c3;have b29:Below w2.heap.size w2 w2.drew:=Below.drew (Below.refl _ _);have x0:=R2.out.c0;have x1:=R2.out.c1;rcases hk5 with rfl | rfl | rfl | rfl | rfl
 · have c3:=(HC.out w2.drew (B2.out.trans (b29.mono (ae hz1 hz2))) (Y2.out.below b29 Y2.out.lt)).1 rfl;go_upto_region 9 with fail;go_region_held3 (fun w'=>w'.cell? ⟨gy,6,none⟩=some (.pointer gp)/\w'.cell? ⟨w.heap.size,2,none⟩=some (.slice R r r')) (first | go_keep | (refine⟨?_,?_⟩ <;> assumption)) (first | ((go_at_call 31;(with_reducible refine (c3).mono ?_);rintro e w3 ⟨s3,v,z,rfl,k3⟩);have K3:=aT k3;have R3:=aT (s3 _ _ _ (.inr (.inl rfl)) (R2.out.below b29 R2.out.lt));have Y3:=aT (s3 _ _ _ (.inr (.inr (.inl rfl))) (Y2.out.below b29 Y2.out.lt));have E3:=aT (s3 _ _ _ (.inl rfl) (E2.out.below b29 E2.out.lt));clear s3 k3 c3 x0 x1 y0 y1 y2 y3 y4 y5 y6 y7 z0 z1 z2 z3;obtain⟨y0,y1,y2,y3,y4,y5,y6,y7⟩:=iB Y3.out;have z2:=E3.out.c2) | fail);have x0:=R3.out.c0;have x1:=R3.out.c1;have f0:=R3.out.frozen 0;have f1:=R3.out.frozen 1;have xl:=R3.out.lt;go_wp2_with fail;have R4:Blk ((w3.setCell ⟨w.heap.size+1,0,none⟩ (I z)).setCell ⟨w.heap.size+1,1,none⟩ (I v)) (w.heap.size+1) 100 [I z,I v]:=(R3.out.set_ 0 (I z)).set_ 1 (I v);have hK4:=HST.out v z _ _ _ 1 (I v) (HST.out v z _ _ _ 0 (I z) K3.out R3.out (Nat.le_succ _)) (R3.out.set_ 0 _) (Nat.le_succ _);generalize (w3.setCell ⟨w.heap.size+1,0,none⟩ (I z)).setCell ⟨w.heap.size+1,1,none⟩ (I v)=w4 at *;have q0:=R4.c0;have q1:=R4.c1;refine bodyPost_ret (v:=.agg #[I z,I v]) kH rfl ?_;exact⟨v,z,rfl,hK4⟩
 · have c3:=(HC.out w2.drew (B2.out.trans (b29.mono (ae hz1 hz2))) (Y2.out.below b29 Y2.out.lt)).2.1 rfl;go_upto_region 11 with fail;go_region_held3 (fun w'=>w'.cell? ⟨gy,6,none⟩=some (.pointer gp)/\w'.cell? ⟨w.heap.size,1,none⟩=some (I n)) (first | go_keep | (refine⟨?_,?_⟩ <;> assumption)) (first | ((go_at_call 33;(with_reducible refine (c3).mono ?_);rintro e w3 ⟨s3,v,z,rfl,k3⟩);have K3:=aT k3;have R3:=aT (s3 _ _ _ (.inr (.inl rfl)) (R2.out.below b29 R2.out.lt));have Y3:=aT (s3 _ _ _ (.inr (.inr (.inl rfl))) (Y2.out.below b29 Y2.out.lt));have E3:=aT (s3 _ _ _ (.inl rfl) (E2.out.below b29 E2.out.lt));clear s3 k3 c3 x0 x1 y0 y1 y2 y3 y4 y5 y6 y7 z0 z1 z2 z3;obtain⟨y0,y1,y2,y3,y4,y5,y6,y7⟩:=iB Y3.out;have z1:=E3.out.c1) | fail);have x0:=R3.out.c0;have x1:=R3.out.c1;have f0:=R3.out.frozen 0;have f1:=R3.out.frozen 1;have xl:=R3.out.lt;go_wp2_with fail;have R4:Blk ((w3.setCell ⟨w.heap.size+1,0,none⟩ (I z)).setCell ⟨w.heap.size+1,1,none⟩ (I v)) (w.heap.size+1) 100 [I z,I v]:=(R3.out.set_ 0 (I z)).set_ 1 (I v);have hK4:=HST.out v z _ _ _ 1 (I v) (HST.out v z _ _ _ 0 (I z) K3.out R3.out (Nat.le_succ _)) (R3.out.set_ 0 _) (Nat.le_succ _);generalize (w3.setCell ⟨w.heap.size+1,0,none⟩ (I z)).setCell ⟨w.heap.size+1,1,none⟩ (I v)=w4 at *;have q0:=R4.c0;have q1:=R4.c1;refine bodyPost_ret (v:=.agg #[I z,I v]) kH rfl ?_;exact⟨v,z,rfl,hK4⟩
 · have c3:=(HC.out w2 B2.out Y2.out).2.2.1 rfl;go_upto_region 16 with (first | ((go_at_call 32;(with_reducible refine (c3).mono ?_);rintro e w3 ⟨s3,z,rfl,k3⟩);have K3:=aT k3;have R3:=aT (s3 _ _ _ (.inr (.inl rfl)) R2.out);clear s3 k3 c3 x0 x1 y0 y1 y2 y3 y4 y5 y6 y7 z0 z1 z2 z3) | fail);have x0:=R3.out.c0;have x1:=R3.out.c1;have f0:=R3.out.frozen 0;have f1:=R3.out.frozen 1;have xl:=R3.out.lt;go_wp2_with fail;have R4:Blk ((w3.setCell ⟨w.heap.size+1,0,none⟩ (I z)).setCell ⟨w.heap.size+1,1,none⟩ (I 0)) (w.heap.size+1) 100 [I z,I 0]:=(R3.out.set_ 0 (I z)).set_ 1 (I 0);have hK4:=HST.out 0 z _ _ _ 1 (I 0) (HST.out 0 z _ _ _ 0 (I z) K3.out R3.out (Nat.le_succ _)) (R3.out.set_ 0 _) (Nat.le_succ _);generalize (w3.setCell ⟨w.heap.size+1,0,none⟩ (I z)).setCell ⟨w.heap.size+1,1,none⟩ (I 0)=w4 at *;have q0:=R4.c0;have q1:=R4.c1;refine bodyPost_ret (v:=.agg #[I z,I 0]) kH rfl ?_;exact⟨0,z,rfl,hK4⟩
 · have c3:=(HC.out w2.drew (B2.out.trans (b29.mono (ae hz1 hz2))) (Y2.out.below b29 Y2.out.lt)).2.2.2.1 rfl;go_upto_region 15 with fail;go_region_held3 (fun w'=>w'.cell? ⟨gy,5,none⟩=some (.pointer (some ⟨d,0,none⟩))/\w'.cell? ⟨w.heap.size,1,none⟩=some (I n)) (first | go_keep | (refine⟨?_,?_⟩ <;> assumption)) (first | ((go_at_call 42;(with_reducible refine (c3).mono ?_);rintro e w3 ⟨s3,rfl,k3⟩);have K3:=aT k3;have R3:=aT (s3 _ _ _ (.inr (.inl rfl)) (R2.out.below b29 R2.out.lt));have Y3:=aT (s3 _ _ _ (.inr (.inr (.inl rfl))) (Y2.out.below b29 Y2.out.lt));have E3:=aT (s3 _ _ _ (.inl rfl) (E2.out.below b29 E2.out.lt));clear s3 k3 c3 x0 x1 y0 y1 y2 y3 y4 y5 y6 y7 z0 z1 z2 z3;obtain⟨y0,y1,y2,y3,y4,y5,y6,y7⟩:=iB Y3.out;have z1:=E3.out.c1) | fail);have x0:=R3.out.c0;have x1:=R3.out.c1;have f0:=R3.out.frozen 0;have f1:=R3.out.frozen 1;have xl:=R3.out.lt;go_wp2_with fail;have R4:Blk ((w3.setCell ⟨w.heap.size+1,0,none⟩ (I 0)).setCell ⟨w.heap.size+1,1,none⟩ (I 0)) (w.heap.size+1) 100 [I 0,I 0]:=(R3.out.set_ 0 (I 0)).set_ 1 (I 0);have hK4:=HST.out 0 0 _ _ _ 1 (I 0) (HST.out 0 0 _ _ _ 0 (I 0) K3.out R3.out (Nat.le_succ _)) (R3.out.set_ 0 _) (Nat.le_succ _);generalize (w3.setCell ⟨w.heap.size+1,0,none⟩ (I 0)).setCell ⟨w.heap.size+1,1,none⟩ (I 0)=w4 at *;have q0:=R4.c0;have q1:=R4.c1;refine bodyPost_ret (v:=.agg #[I 0,I 0]) kH rfl ?_;exact⟨0,0,rfl,hK4⟩
 · have c3:=(HC.out w2 B2.out Y2.out).2.2.2.2 rfl;go_wp2_with (first | ((go_at_call 134;(with_reducible refine (c3).mono ?_);rintro e w3 ⟨s3,v,z,rfl,k3⟩);have K3:=aT k3;have R3:=aT (s3 _ _ R2.out);clear s3 k3 c3 x0 x1 y0 y1 y2 y3 y4 y5 y6 y7 z0 z1 z2 z3;have x0:=R3.out.c0;have x1:=R3.out.c1;have f0:=R3.out.frozen 0;have f1:=R3.out.frozen 1;have xl:=R3.out.lt) | fail);have x0:=R3.out.c0;have x1:=R3.out.c1;have f0:=R3.out.frozen 0;have f1:=R3.out.frozen 1;have xl:=R3.out.lt;go_wp2_with fail;have R4:Blk ((w3.setCell ⟨w.heap.size+1,0,none⟩ (I z)).setCell ⟨w.heap.size+1,1,none⟩ (I v)) (w.heap.size+1) 100 [I z,I v]:=(R3.out.set_ 0 (I z)).set_ 1 (I v);have hK4:=HST.out v z _ _ _ 1 (I v) (HST.out v z _ _ _ 0 (I z) K3.out R3.out (Nat.le_succ _)) (R3.out.set_ 0 _) (Nat.le_succ _);generalize (w3.setCell ⟨w.heap.size+1,0,none⟩ (I z)).setCell ⟨w.heap.size+1,1,none⟩ (I v)=w4 at *;have q0:=R4.c0;have q1:=R4.c1;refine bodyPost_ret (v:=.agg #[I z,I v]) kH rfl ?_;exact⟨v,z,rfl,hK4⟩
theorem do_bad {k:Int}(Y:Blk w gy 209 (plC d x p pace gp))(hR:eZ k n r c=false) :
 Ca 51 #[.pointer (some ⟨gy,0,none⟩),.agg #[I k,I n,.slice R r r',.slice C c c']] w fun e w'=>e=.returned (.agg #[I 2,I 0])/\Below w.heap.size w w':=by
 have HY:=aT Y;have hsr:∀ W,Ca 133 #[.agg #[I k,I n,.slice R r r',.slice C c c']] W fun e w'=>e=.returned (.bool false)/\Below W.heap.size W w':=fun W=>by
  have:=lX (k:=k) (n:=n) (r:=r) (r':=r') (c:=c) (c':=c') (R:=R) (C:=C) (w:=W)
  rwa [hR] at this
 have F0:∀ W,W=(w.alloc (.cells #[I k,I n,.slice R r r',.slice C c c'] 98)).alloc (.cells #[I 0,I 0] 100)->Below w.heap.size w W/\Blk W w.heap.size 98 [I k,I n,.slice R r r',.slice C c c']/\Blk W (w.heap.size+1) 100 [I 0,I 0]:=by
  rintro W rfl;exact⟨bc,bI,bI⟩
 clear Y hR;go_enter Tryz.func51,Tryz.ntmps51;go_upto_region 1 with fail;refine eG (fun W=>Below w.heap.size w W/\Blk W w.heap.size 98 [I k,I n,.slice R r r',.slice C c c']/\Blk W (w.heap.size+1) 100 [I 0,I 0]) (F0 _ rfl) ?_;clear F0;rintro w1 ⟨hb1,he,hr⟩;have Y1:=aT (HY.out.below hb1 HY.out.lt);have E1:=aT he;have R1:=aT hr;have B1:=aT hb1;have hz1:=hb1.size;clear HY he hr hb1;obtain⟨y0,y1,y2,y3,y4,y5,y6,y7⟩:=iB Y1.out;have z0:=E1.out.c0;have z1:=E1.out.c1;have z2:=E1.out.c2;have z3:=E1.out.c3;go_wp2_with (first | ((go_at_call 133;(with_reducible refine (hsr _).mono ?_);rintro e w2 ⟨rfl,b2⟩);have R3:=aT (R1.out.below b2 R1.out.lt);have B2:=aT (B1.out.trans (b2.mono hz1));clear b2;have x0:=R3.out.c0;have x1:=R3.out.c1;have f0:=R3.out.frozen 0;have f1:=R3.out.frozen 1;have xl:=R3.out.lt) | fail);have R4:Blk ((w2.setCell ⟨w.heap.size+1,0,none⟩ (I 2)).setCell ⟨w.heap.size+1,1,none⟩ (I 0)) (w.heap.size+1) 100 [I 2,I 0]:=(R3.out.set_ 0 (I 2)).set_ 1 (I 0);have B4:=(B2.out.setCell (p:=⟨w.heap.size+1,0,none⟩) (Nat.le_succ _) (I 2)).setCell (p:=⟨w.heap.size+1,1,none⟩) (Nat.le_succ _) (I 0);generalize (w2.setCell ⟨w.heap.size+1,0,none⟩ (I 2)).setCell ⟨w.heap.size+1,1,none⟩ (I 0)=w4 at *;have q0:=R4.c0;have q1:=R4.c1;refine bodyPost_ret (v:=.agg #[I 2,I 0]) kH rfl ?_;exact⟨rfl,B4⟩
end
section
variable {w w':World} {d gy:Nat} {x:PA} {p:PV} {pace n:Int} {gp R C:Option Addr} {r r' c c':Nat} {K1 K2:World→Prop} {K3:Option Addr→Int→World→Prop} {K4:Option Addr→World→Prop} {K5:Option Addr→Int→World→Prop}
theorem plf4 (a b c d e f:Int)(w:World):(Instr.field 54 (.agg #[I a,I b,I c,I d,I e,I f]) 4).run Tryz.prog w=.ok (I e) w:=by kernel_rfl
theorem plcrash_any (Y:Blk w gy 209 (plC d x p pace gp))
 (h1:∀ W,Below w.heap.size w W->Ca 43 #[.pointer (some ⟨d,0,none⟩),.slice C c c'] W fun e w1=>e=.returned (.tuple #[])/\dW W w1/\K1 w1)
 (h2:∀ W0 W,K1 W0->Below W0.heap.size W0 W->Ca 42 #[.pointer (some ⟨d,0,none⟩),I n] W fun e w1=>e=.returned (.tuple #[])/\dW W w1/\K2 w1)
 (h3:∀ W0 W,K2 W0->Below W0.heap.size W0 W->Ca 25 #[.pointer (some ⟨d,0,none⟩),.agg #[.slice x.A1 x.n1 x.c1,.slice x.A2 x.n2 x.c2,I p.regs,.slice x.A3 x.n3 x.c3,.slice x.A4 x.n4 x.c4],I pace] W fun e w1=>dW W w1/\∃ P z,e=.returned (.tuple #[.pointer P,I z])/\K3 P z w1)
 (h4:∀ P W,K3 P 0 W->Ca 42 #[.pointer (some ⟨d,0,none⟩),I (-1)] W fun e w1=>e=.returned (.tuple #[])/\dW W w1/\K4 P w1)
 (h5:∀ P W,K4 P W->Ca 29 #[.pointer P] W fun e w1=>dW W w1/\∃ a b c d rep f,e=.returned (.agg #[I a,I b,I c,I d,I rep,I f])/\K5 P rep w1)
 (hs3:∀ P z w1 g t cs (i:Nat) (u:Value),K3 P z w1->Blk w1 g t cs->t=209\/(t=100/\w.heap.size<=g)->g=gy\/w.heap.size<=g->K3 P z (w1.setCell ⟨g,i,none⟩ u))
 (hs5:∀ P v w1 g cs (i:Nat) (u:Value),K5 P v w1->Blk w1 g 100 cs->w.heap.size<=g->K5 P v (w1.setCell ⟨g,i,none⟩ u)) :
 Ca 134 #[.pointer (some ⟨gy,0,none⟩),.agg #[I 5,I n,.slice R r r',.slice C c c']] w fun e w'=>∃ P,Blk w' gy 209 (plC d x p pace P)/\((∃ z,z≠0/\e=.returned (.agg #[I z,I 0])/\K3 P z w')\/(∃ v,e=.returned (.agg #[I 0,I v])/\K5 P v w')):=by
 have HY:=aT Y;have H1:=aT h1;have H2:=aT h2;have H3:=aT h3;have H4:=aT h4;have H5:=aT h5;have S3:=aT hs3;have S5:=aT hs5;have F0:∀ W,W=(w.alloc (.cells #[I 5,I n,.slice R r r',.slice C c c'] 98)).alloc (.cells #[I 0,I 0] 100)->Below w.heap.size w W/\Blk W w.heap.size 98 [I 5,I n,.slice R r r',.slice C c c']/\Blk W (w.heap.size+1) 100 [I 0,I 0]:=by
  rintro W rfl;exact⟨bc,bI,bI⟩
 have hf4:=fun a b c d e f w=>plf4 a b c d e f w
 clear Y h1 h2 h3 h4 h5 hs3 hs5;go_enter Tryz.func134,Tryz.ntmps134;go_upto_region 1 with fail;refine eG (fun W=>Below w.heap.size w W/\Blk W w.heap.size 98 [I 5,I n,.slice R r r',.slice C c c']/\Blk W (w.heap.size+1) 100 [I 0,I 0]) (F0 _ rfl) ?_;clear F0;rintro w1 ⟨hb1,he,hr⟩;have Y1:=aT (HY.out.below hb1 HY.out.lt);have E1:=aT he;have R1:=aT hr;have c1:=H1.out w1.drew (hb1.trans ((Below.drew (Below.refl _ _)).mono hb1.size));have b19:Below w1.heap.size w1 w1.drew:=Below.drew (Below.refl _ _);clear HY he hr hb1;obtain⟨y0,y1,y2,y3,y4,y5,y6,y7⟩:=iB Y1.out;have z1:=E1.out.c1;have z3:=E1.out.c3;go_region_held3 (fun w'=>w'.cell? ⟨gy,5,none⟩=some (.pointer (some ⟨d,0,none⟩))/\w'.cell? ⟨w.heap.size,3,none⟩=some (.slice C c c')) (first | go_keep | (refine⟨?_,?_⟩ <;> assumption)) (first | ((go_at_call 43;(with_reducible refine (c1).mono ?_);rintro e w2 ⟨rfl,s2,k2⟩);have K2':=aT k2;have R2:=aT (s2 _ _ _ (.inr (.inl rfl)) (R1.out.below b19 R1.out.lt));have Y2:=aT (s2 _ _ _ (.inr (.inr (.inl rfl))) (Y1.out.below b19 Y1.out.lt));have E2:=aT (s2 _ _ _ (.inl rfl) (E1.out.below b19 E1.out.lt));clear s2 k2 c1 y0 y1 y2 y3 y4 y5 y6 y7 z1 z3;obtain⟨y0,y1,y2,y3,y4,y5,y6,y7⟩:=iB Y2.out;have z1:=E2.out.c1;have z3:=E2.out.c3) | fail);have b29:Below w2.heap.size w2 w2.drew:=Below.drew (Below.refl _ _);have c2:=H2.out w2 w2.drew K2'.out b29;clear b19 Y1 E1 R1;go_wp2_with fail;go_region_held3 (fun w'=>w'.cell? ⟨gy,5,none⟩=some (.pointer (some ⟨d,0,none⟩))/\w'.cell? ⟨w.heap.size,1,none⟩=some (I n)) (first | go_keep | (refine⟨?_,?_⟩ <;> assumption)) (first | ((go_at_call 42;(with_reducible refine (c2).mono ?_);rintro e w3 ⟨rfl,s3,k3⟩);have K3':=aT k3;have R3:=aT (s3 _ _ _ (.inr (.inl rfl)) (R2.out.below b29 R2.out.lt));have Y3:=aT (s3 _ _ _ (.inr (.inr (.inl rfl))) (Y2.out.below b29 Y2.out.lt));have E3:=aT (s3 _ _ _ (.inl rfl) (E2.out.below b29 E2.out.lt));clear s3 k3 c2 y0 y1 y2 y3 y4 y5 y6 y7 z1 z3;obtain⟨y0,y1,y2,y3,y4,y5,y6,y7⟩:=iB Y3.out;have z1:=E3.out.c1) | fail);have b39:Below w3.heap.size w3 w3.drew:=Below.drew (Below.refl _ _);have c3:=H3.out w3 w3.drew K3'.out b39;clear b29 Y2 E2 R2 K2';go_wp2_with fail;go_region_held3 (fun w'=>w'.cell? ⟨gy,5,none⟩=some (.pointer (some ⟨d,0,none⟩))/\w'.cell? ⟨gy,0,none⟩=some (.slice x.A1 x.n1 x.c1)/\w'.cell? ⟨gy,1,none⟩=some (.slice x.A2 x.n2 x.c2)/\w'.cell? ⟨gy,2,none⟩=some (I p.regs)/\w'.cell? ⟨gy,3,none⟩=some (.slice x.A3 x.n3 x.c3)/\w'.cell? ⟨gy,4,none⟩=some (.slice x.A4 x.n4 x.c4)/\w'.cell? ⟨gy,7,none⟩=some (I pace)) (first | go_keep | (refine⟨?_,?_,?_,?_,?_,?_,?_⟩ <;> assumption)) (first | ((go_at_call 25;(with_reducible refine (c3).mono ?_);rintro e w4 ⟨s4,P,z,rfl,k4⟩);have K4':=aT k4;have R4:=aT (s4 _ _ _ (.inr (.inl rfl)) (R3.out.below b39 R3.out.lt));have Y4:=aT (s4 _ _ _ (.inr (.inr (.inl rfl))) (Y3.out.below b39 Y3.out.lt));have E4:=aT (s4 _ _ _ (.inl rfl) (E3.out.below b39 E3.out.lt));clear s4 k4 c3 y0 y1 y2 y3 y4 y5 y6 y7 z1;obtain⟨y0,y1,y2,y3,y4,y5,y6,y7⟩:=iB Y4.out) | fail);clear b39 Y3 E3 R3 K3' H1 H2 H3;have g6:=Y4.out.frozen 6;go_upto_region 5 with fail;have Y5:Blk (w4.setCell ⟨gy,6,none⟩ (.pointer P)) gy 209 (plC d x p pace P):=Y4.out.set_ 6 (.pointer P);have hne:w.heap.size+1≠gy:=R4.out.ne_ Y4.out aU;have R5:Blk (w4.setCell ⟨gy,6,none⟩ (.pointer P)) (w.heap.size+1) 100 [I 0,I 0]:=R4.out.far hne _;have K5':=S3.out P z w4 gy _ _ 6 (.pointer P) K4'.out Y4.out (.inl rfl) (.inl rfl);have Y5:=aT Y5;have R5:=aT R5;have K5':=aT K5';generalize w4.setCell ⟨gy,6,none⟩ (.pointer P)=w5 at *;clear Y4 R4 E4 K4' y0 y1 y2 y3 y4 y5 y6 y7 g6
 obtain⟨y0,y1,y2,y3,y4,y5,y6,y7⟩:=iB Y5.out;have x0:=R5.out.c0;have x1:=R5.out.c1;have f0:=R5.out.frozen 0;have f1:=R5.out.frozen 1;have xl:=R5.out.lt
 by_cases hz:z=0
 · subst hz;have c5:=H4.out P w5 K5'.out;go_wp2_with (first | ((go_at_call 42;(with_reducible refine (c5).mono ?_);rintro e w6 ⟨rfl,s6,k6⟩);have K6:=aT k6;have R6:=aT (s6 _ _ _ (.inr (.inl rfl)) R5.out);have Y6:=aT (s6 _ _ _ (.inr (.inr (.inl rfl))) Y5.out);clear s6 k6 c5 x0 x1 f0 f1 xl) | ((go_at_call 29;(with_reducible refine (H5.out P _ K6.out).mono ?_);rintro e w7 ⟨s7,a,b,c9,d9,rep,f,rfl,k7⟩);have K7:=aT k7;have R7:=aT (s7 _ _ _ (.inr (.inl rfl)) R6.out);have Y7:=aT (s7 _ _ _ (.inr (.inr (.inl rfl))) Y6.out);clear s7 k7;have x0:=R7.out.c0;have x1:=R7.out.c1;have f0:=R7.out.frozen 0;have f1:=R7.out.frozen 1;have xl:=R7.out.lt) | fail);have R8:=(R7.out.set_ 0 (I 0)).set_ 1 (I rep);have Y8:=(Y7.out.far (p:=⟨w.heap.size+1,0,none⟩) hne.symm (I 0)).far (p:=⟨w.heap.size+1,1,none⟩) hne.symm (I rep);have K8:=S5.out P rep _ _ _ 1 (I rep) (S5.out P rep _ _ _ 0 (I 0) K7.out R7.out (Nat.le_succ _)) (R7.out.set_ 0 _) (Nat.le_succ _);generalize (w7.setCell ⟨w.heap.size+1,0,none⟩ (I 0)).setCell ⟨w.heap.size+1,1,none⟩ (I rep)=w8 at *;have q0:w8.cell? ⟨w.heap.size+1,0,none⟩=some (I 0):=R8.c0;have q1:w8.cell? ⟨w.heap.size+1,1,none⟩=some (I rep):=R8.c1;refine bodyPost_ret (v:=.agg #[I 0,I rep]) (by simp[results,Tryz.results134,go_sem ,q0,q1]) rfl ?_;exact⟨P,Y8,.inr ⟨rep,rfl,K8⟩⟩
 · have hz2:(z != 0)=true:=by rw[ag];exact hz
   have hz3:=aT hz;clear hz H4 H5;go_wp2_with fail;have R8:=(R5.out.set_ 0 (I z)).set_ 1 (I 0);have Y8:=(Y5.out.far (p:=⟨w.heap.size+1,0,none⟩) hne.symm (I z)).far (p:=⟨w.heap.size+1,1,none⟩) hne.symm (I 0);have K8:=S3.out P z _ _ _ _ 1 (I 0) (S3.out P z _ _ _ _ 0 (I z) K5'.out R5.out (.inr ⟨rfl,Nat.le_succ _⟩) (.inr (Nat.le_succ _))) (R5.out.set_ 0 _) (.inr ⟨rfl,Nat.le_succ _⟩) (.inr (Nat.le_succ _));generalize (w5.setCell ⟨w.heap.size+1,0,none⟩ (I z)).setCell ⟨w.heap.size+1,1,none⟩ (I 0)=w8 at *;have q0:w8.cell? ⟨w.heap.size+1,0,none⟩=some (I z):=R8.c0;have q1:w8.cell? ⟨w.heap.size+1,1,none⟩=some (I 0):=R8.c1;refine bodyPost_ret (v:=.agg #[I z,I 0]) (by simp[results,Tryz.results134,go_sem ,q0,q1]) rfl ?_;exact⟨P,Y8,.inl ⟨z,hz3.out,rfl,K8⟩⟩
end
