/- Parts. -/
import Derived.Test.YtmeebofhlilcmaaGreatPr01
import Derived.StillTail
set_option linter.unusedVariables false
set_option linter.unusedSimpArgs false
set_option maxRecDepth 100000
set_option maxHeartbeats 0
namespace Go.Proofs.YtmeebofhlilcmaaGreat
variable {op:Int}
open Go.RowKit
structure Ins where
 op:Int
 a:Int
 b:Int
 c:Int
 k:Int
deriving DecidableEq
structure PV where
 ins:List Int
 outs:List Int
 regs:Int
 cells:List (Int × Int)
 code:List Ins
def cellE (x:Int × Int):List Value:=[I x.1,I x.2]
def insE (x:Ins):List Value:=[I x.op,I x.a,I x.b,I x.c,I x.k]
theorem im (x:Int × Int):(cellE x).length=2:=rfl
theorem gY (x:Ins):(insE x).length=5:=rfl
structure PA where
 A1:Option Addr
 n1:Nat
 c1:Nat
 A2:Option Addr
 n2:Nat
 c2:Nat
 A3:Option Addr
 n3:Nat
 c3:Nat
 A4:Option Addr
 n4:Nat
 c4:Nat
structure ca (w:World)(x:PA)(p:PV):Prop where
 r1:RI w x.A1 x.n1 p.ins
 r2:RI w x.A2 x.n2 p.outs
 r3:RdS 2 cellE w x.A3 x.n3 p.cells
 r4:RdS 5 insE w x.A4 x.n4 p.code
 k1:x.n1<=x.c1/\x.c1<=maxLen
 k2:x.n2<=x.c2/\x.c2<=maxLen
 k3:x.n3<=x.c3/\x.c3<=maxLen
 k4:x.n4<=x.c4/\x.c4<=maxLen
theorem ca.below {w w':World}{x:PA}{p:PV}{b:Nat}(h:ca w x p)(hb:Below b w w')(hB:w.heap.size<=b):ca w' x p :=
 ⟨h.r1.below hb hB,h.r2.below hb hB,h.r3.below hb hB,h.r4.below hb hB,h.k1,h.k2,h.k3,h.k4⟩
def fu (t n:Int):Bool:=t == 1 || (t == 2 && (n == 0 || n == 1))
def cls (op:Int):Nat :=
 if op=1\/op=2\/op=21\/(28<=op/\op<=32) then 1
 else if op=3\/op=5\/op=6 then 2
 else if 7<=op/\op<=20 then 3
 else if op=27 then 4 else 0
theorem lK (op:Int):(op=1\/op=2\/op=21\/(28<=op/\op<=32))\/(op=3\/op=5\/op=6)\/(7<=op/\op<=20)\/op=27\/(op<=0\/op=4\/(22<=op/\op<=26)\/33<=op):=aS
theorem cls_1 (h:op=1\/op=2\/op=21\/(28<=op/\op<=32)):cls op=1:=by unfold cls;rw[if_pos h]
theorem cls_2 (h:op=3\/op=5\/op=6):cls op=2:=by unfold cls;rw[if_neg aS,if_pos h]
theorem cls_3 (h:7<=op/\op<=20):cls op=3:=by unfold cls;rw[if_neg aS,if_neg aS,if_pos h]
theorem cls_4 (h:op=27):cls op=4:=by unfold cls;rw[if_neg aS,if_neg aS,if_neg aS,if_pos h]
theorem cls_0 (h:op<=0\/op=4\/(22<=op/\op<=26)\/33<=op):cls op=0:=by unfold cls;rw[if_neg aS,if_neg aS,if_neg aS,if_neg aS]
theorem cls_le (op:Int):cls op<=4:=by
 rcases lK op with h | h | h | h | h
 · rw[cls_1 h];omega
 · rw[cls_2 h];omega
 · rw[cls_3 h];omega
 · rw[cls_4 h];omega
 · rw[cls_0 h];omega
def mD (op:Int):Int:=match cls op with | 1=>9 | 2=>3 | 3=>7 | 4=>15 | _=>0
def hasN (op:Int):Int:=match cls op with | 1=>1 | 2=>2 | 3=>3 | 4=>3 | _=>0
def hasK (op:Int):Bool:=cls op == 1 || cls op == 4
def InsOk (x:Ins):Prop:=cls x.op≠0/\0<=x.a/\0<=x.b/\0<=x.c/\(cls x.op=1->x.b=0)/\(cls x.op<=2->x.c=0)/\(cls x.op=2\/cls x.op=3->x.k=0)
instance (x:Ins):Decidable (InsOk x):=by unfold InsOk;infer_instance
def insB (x:Ins):Bool:=decide (InsOk x)
def cK (l:List (Int × Int))(i:Nat):Int × Int:=l.getD i (0,0)
def aY (l:List Ins)(i:Nat):Ins:=l.getD i ⟨0,0,0,0,0⟩
def mayB (p:PV):Bool:=(db p.ins && db p.outs) && ((decide (0<=p.regs) && decide (p.regs<=1600)) && ((decide (p.cells.length<=60) && decide (p.code.length<=2048)) &&
 (allK p.cells.length (fun i=>fu (cK p.cells i).1 (cK p.cells i).2) && allK p.code.length (fun i=>insB (aY p.code i)))))
theorem dN {p:PV}:mayB p=true ↔ db p.ins=true/\db p.outs=true/\0<=p.regs/\p.regs<=1600/\p.cells.length<=60/\p.code.length<=2048 /\
 (∀ i,i<p.cells.length->fu (cK p.cells i).1 (cK p.cells i).2=true)/\(∀ i,i<p.code.length->insB (aY p.code i)=true):=by
 unfold mayB;simp only[av,jg,aq];constructor
 · rintro ⟨⟨h1,h2⟩,⟨h3,h4⟩,⟨h5,h6⟩,h7,h8⟩;exact⟨h1,h2,h3,h4,h5,h6,h7,h8⟩
 · rintro ⟨h1,h2,h3,h4,h5,h6,h7,h8⟩;exact⟨⟨h1,h2⟩,⟨h3,h4⟩,⟨h5,h6⟩,h7,h8⟩
theorem jp {l:List (Int × Int)}{i:Nat}{x:Int × Int}(h:l[i]?=some x):cK l i=x:=by unfold cK;rw[ah,h];rfl
theorem gS {l:List Ins}{i:Nat}{x:Ins}(h:l[i]?=some x):aY l i=x:=by unfold aY;rw[ah,h];rfl
def iL (x:Int × Int):List UInt8:=UInt8.ofNat x.1.toNat :: digL 9 (zz x.2)
def fY (x:Ins):List UInt8:=UInt8.ofNat x.op.toNat :: (digL 9 x.a.toNat ++ ((if 2<=cls x.op then digL 9 x.b.toNat else []) ++ ((if 3<=cls x.op then digL 9 x.c.toNat else []) ++ (if hasK x.op then digL 9 (zz x.k) else []))))
def iM (l:List Int):List UInt8:=digL 9 l.length ++ l.map (fun t=>UInt8.ofNat t.toNat)
def headBs (p:PV):List UInt8:=iM p.ins ++ iM p.outs ++ digL 9 p.regs.toNat ++ digL 9 p.cells.length
def gT (p:PV):List UInt8:=headBs p ++ p.cells.flatMap iL ++ digL 9 p.code.length ++ p.code.flatMap fY
theorem pE (op:Int)(w:World):Ca 230 #[I op] w fun e w'=>e=.returned (I (mD op))/\w=w':=by
 unfold mD;rcases lK op with h | h | h | h | h
 · rw[cls_1 h];rcases h with rfl | rfl | rfl | h
   case inr.inr.inr=>
    have b1:(op == 1)=false:=by rw[ae];omega
    have b2:(op == 2)=false:=by rw[ae];omega
    have b3:(op == 21)=false:=by rw[ae];omega
    have h1:=h.1;have h2:=h.2;go_enter Tryz.func230,Tryz.ntmps230;go_wp2;go_ret;exact⟨rfl,rfl⟩
   all_goals
    go_enter Tryz.func230,Tryz.ntmps230;go_wp2;go_ret;exact⟨rfl,rfl⟩
 · rw[cls_2 h];rcases h with rfl | rfl | rfl
   all_goals
    go_enter Tryz.func230,Tryz.ntmps230;go_wp2;go_ret;exact⟨rfl,rfl⟩
 · rw[cls_3 h];have b1:(op == 1)=false:=by rw[ae];omega
   have b2:(op == 2)=false:=by rw[ae];omega
   have b3:(op == 21)=false:=by rw[ae];omega
   have b4:(op == 3)=false:=by rw[ae];omega
   have b5:(op == 5)=false:=by rw[ae];omega
   have b6:(op == 6)=false:=by rw[ae];omega
   have h1:=h.1;have h2:=h.2;have h3:¬ 28<=op:=aS;go_enter Tryz.func230,Tryz.ntmps230;go_wp2;go_ret;exact⟨rfl,rfl⟩
 · rw[cls_4 h];subst h;go_enter Tryz.func230,Tryz.ntmps230;go_wp2;go_ret;exact⟨rfl,rfl⟩
 · rw[cls_0 h];have b1:(op == 1)=false:=by rw[ae];omega
   have b2:(op == 2)=false:=by rw[ae];omega
   have b3:(op == 21)=false:=by rw[ae];omega
   have b4:(op == 3)=false:=by rw[ae];omega
   have b5:(op == 5)=false:=by rw[ae];omega
   have b6:(op == 6)=false:=by rw[ae];omega
   have b7:(op == 27)=false:=by rw[ae];omega
   rcases h with h | h | h | h
   · have h1:¬ 28<=op:=aS;have h2:¬ 7<=op:=aS;go_enter Tryz.func230,Tryz.ntmps230;go_wp2;go_ret;exact⟨rfl,rfl⟩
   · subst h;go_enter Tryz.func230,Tryz.ntmps230;go_wp2;go_ret;exact⟨rfl,rfl⟩
   · have h1:¬ 28<=op:=aS;have h2:7<=op:=aS;have h3:¬ op<=20:=aS;go_enter Tryz.func230,Tryz.ntmps230;go_wp2;go_ret;exact⟨rfl,rfl⟩
   · have h1:28<=op:=aS;have h4:¬ op<=32:=aS;have h2:7<=op:=aS;have h3:¬ op<=20:=aS;go_enter Tryz.func230,Tryz.ntmps230;go_wp2;go_ret;exact⟨rfl,rfl⟩
theorem has_any (op:Int)(w:World):Ca 173 #[I op] w fun e w'=>e=.returned (.tuple #[I (hasN op),.bool (hasK op)])/\w=w':=by
 unfold hasN hasK;rcases lK op with h | h | h | h | h
 · rw[cls_1 h];rcases h with rfl | rfl | rfl | h
   case inr.inr.inr=>
    have b1:(op == 1)=false:=by rw[ae];omega
    have b2:(op == 2)=false:=by rw[ae];omega
    have b3:(op == 21)=false:=by rw[ae];omega
    have h1:=h.1;have h2:=h.2;go_enter Tryz.func173,Tryz.ntmps173;go_wp2;go_ret2;exact⟨rfl,rfl⟩
   all_goals
    go_enter Tryz.func173,Tryz.ntmps173;go_wp2;go_ret2;exact⟨rfl,rfl⟩
 · rw[cls_2 h];rcases h with rfl | rfl | rfl
   all_goals
    go_enter Tryz.func173,Tryz.ntmps173;go_wp2;go_ret2;exact⟨rfl,rfl⟩
 · rw[cls_3 h];have b1:(op == 1)=false:=by rw[ae];omega
   have b2:(op == 2)=false:=by rw[ae];omega
   have b3:(op == 21)=false:=by rw[ae];omega
   have b4:(op == 3)=false:=by rw[ae];omega
   have b5:(op == 5)=false:=by rw[ae];omega
   have b6:(op == 6)=false:=by rw[ae];omega
   have h1:=h.1;have h2:=h.2;have h3:¬ 28<=op:=aS;go_enter Tryz.func173,Tryz.ntmps173;go_wp2;go_ret2;exact⟨rfl,rfl⟩
 · rw[cls_4 h];subst h;go_enter Tryz.func173,Tryz.ntmps173;go_wp2;go_ret2;exact⟨rfl,rfl⟩
 · rw[cls_0 h];have b1:(op == 1)=false:=by rw[ae];omega
   have b2:(op == 2)=false:=by rw[ae];omega
   have b3:(op == 21)=false:=by rw[ae];omega
   have b4:(op == 3)=false:=by rw[ae];omega
   have b5:(op == 5)=false:=by rw[ae];omega
   have b6:(op == 6)=false:=by rw[ae];omega
   have b7:(op == 27)=false:=by rw[ae];omega
   rcases h with h | h | h | h
   · have h1:¬ 28<=op:=aS;have h2:¬ 7<=op:=aS;go_enter Tryz.func173,Tryz.ntmps173;go_wp2;go_ret2;exact⟨rfl,rfl⟩
   · subst h;go_enter Tryz.func173,Tryz.ntmps173;go_wp2;go_ret2;exact⟨rfl,rfl⟩
   · have h1:¬ 28<=op:=aS;have h2:7<=op:=aS;have h3:¬ op<=20:=aS;go_enter Tryz.func173,Tryz.ntmps173;go_wp2;go_ret2;exact⟨rfl,rfl⟩
   · have h1:28<=op:=aS;have h4:¬ op<=32:=aS;have h2:7<=op:=aS;have h3:¬ op<=20:=aS;go_enter Tryz.func173,Tryz.ntmps173;go_wp2;go_ret2;exact⟨rfl,rfl⟩
theorem value_any (t n:Int)(w:World):Ca 222 #[I t,I n] w fun e w'=>e=.returned (.bool (fu t n))/\w=w':=by
 unfold fu
 by_cases h1:t=1
 · subst h1;go_enter Tryz.func222,Tryz.ntmps222;go_wp2;go_ret;exact⟨rfl,rfl⟩
 · have b1:(t == 1)=false:=by rw[ae];exact h1
   rw[b1]
   by_cases h2:t=2
   · subst h2;clear h1
     by_cases h3:n=0
     · subst h3;go_enter Tryz.func222,Tryz.ntmps222;go_wp2;go_ret;exact⟨rfl,rfl⟩
     · have b3:(n == 0)=false:=by rw[ae];exact h3
       rw[b3];clear h3;go_enter Tryz.func222,Tryz.ntmps222;go_wp2;go_ret;exact⟨rfl,rfl⟩
   · have b2:(t == 2)=false:=by rw[ae];exact h2
     rw[b2];clear h1 h2;go_enter Tryz.func222,Tryz.ntmps222;go_wp2;go_ret;exact⟨rfl,rfl⟩
theorem pF (t n:Int)(w:World):Ca 172 #[I t,I n] w fun e w'=>e=.returned (.bool (fu t n))/\w=w':=by
 unfold fu
 by_cases h1:t=1
 · subst h1;go_enter Tryz.func172,Tryz.ntmps172;go_wp2;go_ret;exact⟨rfl,rfl⟩
 · have b1:(t == 1)=false:=by rw[ae];exact h1
   rw[b1]
   by_cases h2:t=2
   · subst h2;clear h1
     by_cases h3:n=0
     · subst h3;go_enter Tryz.func172,Tryz.ntmps172;go_wp2;go_ret;exact⟨rfl,rfl⟩
     · have b3:(n == 0)=false:=by rw[ae];exact h3
       rw[b3];clear h3;go_enter Tryz.func172,Tryz.ntmps172;go_wp2;go_ret;exact⟨rfl,rfl⟩
   · have b2:(t == 2)=false:=by rw[ae];exact h2
     rw[b2];clear h1 h2;go_enter Tryz.func172,Tryz.ntmps172;go_wp2;go_ret;exact⟨rfl,rfl⟩
theorem instr_any (op a b c k:Int)(w:World):Ca 223 #[.agg #[I op,I a,I b,I c,I k]] w fun e w'=>e=.returned (.bool (insB ⟨op,a,b,c,k⟩))/\Below w.heap.size w w':=by
 have hf:=fun w=>pE op w
 unfold mD at hf;have hle:=cls_le op;generalize hI:insB ⟨op,a,b,c,k⟩=z;have hI2:z=true ↔ (cls op≠0/\0<=a/\0<=b/\0<=c/\(cls op=1->b=0)/\(cls op<=2->c=0)/\(cls op=2\/cls op=3->k=0)):=by
  rw[<- hI];unfold insB;rw[decide_eq_true_iff];rfl
 clear hI;generalize cls op=q at *;have e92:bits .and .i64 9 2=0:=by decide
 have e94:bits .and .i64 9 4=0:=by decide
 have e98:bits .and .i64 9 8=8:=by decide
 have e32:bits .and .i64 3 2=2:=by decide
 have e34:bits .and .i64 3 4=0:=by decide
 have e38:bits .and .i64 3 8=0:=by decide
 have e72:bits .and .i64 7 2=2:=by decide
 have e74:bits .and .i64 7 4=4:=by decide
 have e78:bits .and .i64 7 8=0:=by decide
 have e152:bits .and .i64 15 2=2:=by decide
 have e154:bits .and .i64 15 4=4:=by decide
 have e158:bits .and .i64 15 8=8:=by decide
 rcases (show q=0\/q=1\/q=2\/q=3\/q=4 by omega) with rfl | rfl | rfl | rfl | rfl
 · have hf':∀ w,Ca 230 #[I op] w fun e w'=>e=.returned (I 0)/\w=w':=hf
   cases z with
   | true=>exact absurd rfl (hI2.1 rfl).1
   | false=>
     clear hI2 hf hle;go_enter Tryz.func223,Tryz.ntmps223;go_wp2_with (go_at_call 230;go_call (hf' _) as e w1 ⟨rfl,rfl⟩);go_ret;exact⟨rfl,bc⟩
 case' inr.inl=>
  have hf':∀ w,Ca 230 #[I op] w fun e w'=>e=.returned (I 9)/\w=w':=hf
  have hcs:(a<0)\/(0<=a/\b<0)\/(0<=a/\0<=b/\c<0)\/(0<=a/\0<b/\0<=c)\/(0<=a/\b=0/\0<c)\/(0<=a/\b=0/\c=0):=aS
 case' inr.inr.inl=>
  have hf':∀ w,Ca 230 #[I op] w fun e w'=>e=.returned (I 3)/\w=w':=hf
  have hcs:(a<0)\/(0<=a/\b<0)\/(0<=a/\0<=b/\c<0)\/(0<=a/\0<=b/\0<c)\/(0<=a/\0<=b/\c=0/\k≠0)\/(0<=a/\0<=b/\c=0/\k=0):=aS
 case' inr.inr.inr.inl=>
  have hf':∀ w,Ca 230 #[I op] w fun e w'=>e=.returned (I 7)/\w=w':=hf
  have hcs:(a<0)\/(0<=a/\b<0)\/(0<=a/\0<=b/\c<0)\/(0<=a/\0<=b/\0<=c/\k≠0)\/(0<=a/\0<=b/\0<=c/\k=0)\/False:=aS
 case' inr.inr.inr.inr=>
  have hf':∀ w,Ca 230 #[I op] w fun e w'=>e=.returned (I 15)/\w=w':=hf
  have hcs:(a<0)\/(0<=a/\b<0)\/(0<=a/\0<=b/\c<0)\/(0<=a/\0<=b/\0<=c)\/False\/False:=aS
 all_goals
  clear hf hle;rcases hcs with hcs | hcs | hcs | hcs | hcs | hcs
  all_goals
   cases z
   all_goals
    first
    | (exfalso;have h9:=hI2.1 rfl;omega)
    | (exfalso;apply Bool.false_ne_true;apply hI2.2;refine⟨?_,?_,?_,?_,?_,?_,?_⟩ <;> (intros;omega))
    | (exfalso;exact hcs)
    | skip
 all_goals
  clear hI2
  first
  | (obtain⟨h1,rfl,rfl⟩:=hcs)
  | (obtain⟨h1,h2,rfl,rfl⟩:=hcs)
  | (obtain⟨h1,h2,h3,rfl⟩:=hcs)
  | (obtain⟨h1,rfl,h3⟩:=hcs;(have b3:(c == 0)=false:=by rw[ae];omega))
  | (obtain⟨h1,h2,rfl,h4⟩:=hcs;(have b4:(k == 0)=false:=by rw[ae];omega);clear h4)
  | (obtain⟨h1,h2,h3,h4⟩:=hcs;(have b4:(k == 0)=false:=by rw[ae];omega);clear h4)
  | (obtain⟨h1,h2,h3⟩:=hcs;try (have b2:(b == 0)=false:=by rw[ae];omega);try (have b3:(c == 0)=false:=by rw[ae];omega))
  | (obtain⟨h1,h2⟩:=hcs)
  | skip
 all_goals
  go_enter Tryz.func223,Tryz.ntmps223;go_wp2_with (go_at_call 230;go_call (hf' _) as e w1 ⟨rfl,rfl⟩);go_ret;exact⟨rfl,bc⟩
theorem jQ (A:Option Addr)(n c:Nat)(l:List Int)(w:World)(hl:RI w A n l)(hn:n<=maxLen) :
 Ca 150 #[.slice A n c] w fun e w'=>e=.returned (.bool (db l))/\w=w':=by
 unfold maxLen at hn;have hlen:=aT hl.1;generalize hz:db l=z;have Hz:=aT hz;clear hz;go_enter Tryz.func150,Tryz.ntmps150;go_wp2;go_loop [7] (fun i=>∃ k:Nat,k<=n/\i=I (k:Nat)/\Hid (∀ i,i<k->tyB (aZ l i)=true)) (fun i=>n - (intOf i).toNat)
 case atStart=>exact⟨0,aS,rfl,fun i hi=>absurd hi aS⟩
 case round=>
  obtain⟨k,hk,rfl,hall⟩:=hrel
  by_cases hlt:k<n
  · obtain⟨b,o,rfl,_,hc⟩:=hl.at_ hlt;have hne:¬ (n:Int)<=(k:Int):=aS
    by_cases ht:tyB (aZ l k)=true
    · have H:=aT ht;have hall':Hid (∀ i,i<k+1->tyB (aZ l i)=true):=fun i hi=>by
       rcases aw i k with h | h
       · exact hall.out i h
       · rw[show i=k from by omega];exact H.out
      rcases lJ.1 ht with h1 | h1
      all_goals
       rw[h1] at hc;clear h1 H ht hall;go_wp2;go_round
       case rel=>exact⟨k+1,aS,by go_num,hall'⟩
       case measure=>simp[intOf];omega
    · have H:=aT ht;have h1:aZ l k≠1/\aZ l k≠2:=by
       constructor <;> intro e <;> exact ht (lJ.2 aS)
      have b1:(aZ l k != 1)=true:=by rw[af];exact h1.1
      have b2:(aZ l k != 2)=true:=by rw[af];exact h1.2
      clear h1 ht;go_wp2;go_ret;refine⟨cO ?_,rfl⟩;rw[<- Hz.out];unfold db;rw[mB (k:=k) my (by simpa using H.out)]
      rfl
  · have hkn:Hid (k=n):=show k=n by omega
    have hge:(n:Int)<=(k:Int):=aS;have hz2:Hid (z=(decide (1<=n) && decide (n<=8))):=by
     show z=_
     rw[<- Hz.out];unfold db;rw[jg.2 (fun i hi=>hall.out i (by rw[hlen.out] at hi;rw[hkn.out];exact hi)),hlen.out]
     rfl
    rcases (show n=0\/(1<=n/\n<=8)\/8<n by omega) with h0 | ⟨h0,h1⟩ | h0
    · subst h0;go_wp2;go_ret;exact⟨cO (by rw[hz2.out];rfl),rfl⟩
    · go_wp2;go_ret;exact⟨cO mo,rfl⟩
    · go_wp2;go_ret;exact⟨cO mo,rfl⟩
theorem nV (A:Option Addr)(n c:Nat)(l:List Int)(w:World)(hl:RI w A n l)(hn:n<=maxLen) :
 Ca 121 #[.slice A n c] w fun e w'=>e=.returned (.bool (db l))/\w=w':=by
 unfold maxLen at hn;have hlen:=aT hl.1;generalize hz:db l=z;have Hz:=aT hz;clear hz;go_enter Tryz.func121,Tryz.ntmps121;go_wp2;go_loop [3] (fun i=>∃ k:Nat,k<=n/\i=I (k:Nat)/\Hid (∀ i,i<k->tyB (aZ l i)=true)) (fun i=>n - (intOf i).toNat)
 case atStart=>exact⟨0,aS,rfl,fun i hi=>absurd hi aS⟩
 case round=>
  obtain⟨k,hk,rfl,hall⟩:=hrel
  by_cases hlt:k<n
  · obtain⟨b,o,rfl,_,hc⟩:=hl.at_ hlt;have hne:¬ (n:Int)<=(k:Int):=aS
    by_cases ht:tyB (aZ l k)=true
    · have H:=aT ht;have hall':Hid (∀ i,i<k+1->tyB (aZ l i)=true):=fun i hi=>by
       rcases aw i k with h | h
       · exact hall.out i h
       · rw[show i=k from by omega];exact H.out
      rcases lJ.1 ht with h1 | h1
      all_goals
       rw[h1] at hc;clear h1 H ht hall;go_wp2;go_round
       case rel=>exact⟨k+1,aS,by go_num,hall'⟩
       case measure=>simp[intOf];omega
    · have H:=aT ht;have h1:aZ l k≠1/\aZ l k≠2:=by
       constructor <;> intro e <;> exact ht (lJ.2 aS)
      have b1:(aZ l k != 1)=true:=by rw[af];exact h1.1
      have b2:(aZ l k != 2)=true:=by rw[af];exact h1.2
      clear h1 ht;go_wp2;go_ret;refine⟨cO ?_,rfl⟩;rw[<- Hz.out];unfold db;rw[mB (k:=k) my (by simpa using H.out)]
      rfl
  · have hkn:Hid (k=n):=show k=n by omega
    have hge:(n:Int)<=(k:Int):=aS;have hz2:Hid (z=(decide (1<=n) && decide (n<=8))):=by
     show z=_
     rw[<- Hz.out];unfold db;rw[jg.2 (fun i hi=>hall.out i (by rw[hlen.out] at hi;rw[hkn.out];exact hi)),hlen.out]
     rfl
    rcases (show n=0\/(1<=n/\n<=8)\/8<n by omega) with h0 | ⟨h0,h1⟩ | h0
    · subst h0;go_wp2;go_ret;exact⟨cO (by rw[hz2.out];rfl),rfl⟩
    · go_wp2;go_ret;exact⟨cO mo,rfl⟩
    · go_wp2;go_ret;exact⟨cO mo,rfl⟩
theorem mE (v:Int)(w:World):Ca 241 #[I v] w fun e w'=>e=.returned (.bool (v == 0 || v == 1))/\w=w':=by
 by_cases h:v=0
 · subst h;go_enter Tryz.func241,Tryz.ntmps241;go_wp2;go_ret;exact⟨rfl,rfl⟩
 · have h1:(v == 0)=false:=by rw[ae];exact h
   rw[h1];clear h;go_enter Tryz.func241,Tryz.ntmps241;go_wp2;go_ret;exact⟨rfl,rfl⟩
theorem nW (A B:Option Addr)(n m c d:Nat)(ts l:List Int)(w:World)(ht:RI w A n ts)(hl:RI w B m l)(hn:n<=maxLen)(hm:m<=maxLen) :
 Ca 216 #[.slice A n c,.slice B m d] w fun e w'=>e=.returned (.bool (cB ts l))/\w=w':=by
 have hright:=jQ A n c ts w ht hn;unfold maxLen at hn hm;have hlen:=aT ht.1;have hlen2:=aT hl.1;generalize hz:cB ts l=z;have Hz:=aT hz;clear hz
 cases hr:db ts with
 | false=>
   rw[hr] at hright;have hz3:z=false:=by rw[<- Hz.out];unfold cB;rw[hr];rfl
   rw[hz3];clear hz3 hr;go_enter Tryz.func216,Tryz.ntmps216;go_wp2_with (go_at_call 150;go_call (hright) as e w' ⟨rfl,rfl⟩);go_ret;exact⟨rfl,rfl⟩
 | true=>
   rw[hr] at hright;have Hr:=aT hr;clear hr
   by_cases hnm:m=n
   · have Hnm:=aT hnm;subst hnm;have hnn:(((m:Nat):Int) != (m:Int))=false:=by simp
     go_enter Tryz.func216,Tryz.ntmps216;go_wp2_with (go_at_call 150;go_call (hright) as e w' ⟨rfl,rfl⟩);go_loop [19] (fun i=>∃ k:Nat,k<=m/\i=I (k:Nat)/\Hid (∀ i,i<k->okAt (aZ ts i) (aZ l i)=true)) (fun i=>m - (intOf i).toNat)
     case atStart=>exact⟨0,aS,rfl,fun i hi=>absurd hi aS⟩
     case round=>
      obtain⟨k,hk,rfl,hall⟩:=hrel
      by_cases hlt:k<m
      · obtain⟨b,o,rfl,_,hc⟩:=ht.at_ hlt;obtain⟨b2,o2,rfl,_,hc2⟩:=hl.at_ hlt;have hne:¬ (m:Int)<=(k:Int):=aS
        by_cases hok:okAt (aZ ts k) (aZ l k)=true
        · have hall':Hid (∀ i,i<k+1->okAt (aZ ts i) (aZ l i)=true):=fun i hi=>by
           rcases aw i k with h | h
           · exact hall.out i h
           · rw[show i=k from by omega];exact hok
          have h3:=jO.1 hok;clear hok hall
          by_cases h2:aZ ts k=2
          · have h4:=h3 h2;rw[h2] at hc;have h5:Hid ((aZ l k == 0 || aZ l k == 1)=true):=by
             show _=_
             rcases h4 with e | e <;> rw[e] <;> rfl
            clear h3 h4 h2;generalize aZ l k=v at *;go_wp2_with (go_at_call 241;go_call (mE _ _) as e w' ⟨rfl,rfl⟩;rw[h5.out]);go_round
            case rel=>exact⟨k+1,aS,by go_num,hall'⟩
            case measure=>simp[intOf];omega
          · have b2:(aZ ts k == 2)=false:=by rw[ae];exact h2
            clear h2 h3;generalize aZ ts k=v at *;go_wp2;go_round
            case rel=>exact⟨k+1,aS,by go_num,hall'⟩
            case measure=>simp[intOf];omega
        · have h3:=mC.1 (by simpa using hok);rw[h3.1] at hc;have h5:Hid ((aZ l k == 0 || aZ l k == 1)=false):=by
           show _=_
           rw[Bool.or_eq_false_iff,ae,ae];exact h3.2
          have hz3:Hid (z=false):=by
           show z=false
           rw[<- Hz.out];unfold cB;rw[mB (k:=k) my (by simpa using hok)];simp
          clear h3 hok;generalize aZ l k=v at *;go_wp2_with (go_at_call 241;go_call (mE _ _) as e w' ⟨rfl,rfl⟩;rw[h5.out]);go_ret;exact⟨cO hz3.out.symm,rfl⟩
      · have hge:(m:Int)<=(k:Int):=aS;have hz3:Hid (z=true):=by
         show z=true
         rw[<- Hz.out];unfold cB;rw[jg.2 (fun i hi=>hall.out i (by rw[hlen.out] at hi;omega)),Hr.out,hlen.out,hlen2.out];simp
        go_wp2;go_ret;exact⟨cO hz3.out.symm,rfl⟩
   · have hne:(((m:Nat):Int) != (n:Int))=true:=by rw[af];omega
     have hz3:z=false:=by
      rw[<- Hz.out];unfold cB;rw[show decide (l.length=ts.length)=false from aj (by rw[hlen.out,hlen2.out];exact hnm)];simp
     rw[hz3];clear hnm hz3;go_enter Tryz.func216,Tryz.ntmps216;go_wp2_with (go_at_call 150;go_call (hright) as e w' ⟨rfl,rfl⟩);go_ret;exact⟨rfl,rfl⟩
theorem pG (A B:Option Addr)(n m c d:Nat)(ts l:List Int)(w:World)(ht:RI w A n ts)(hl:RI w B m l)(hn:n<=maxLen)(hm:m<=maxLen) :
 Ca 30 #[.slice A n c,.slice B m d] w fun e w'=>e=.returned (.bool (cB ts l))/\w=w':=by
 have hright:=nV A n c ts w ht hn;unfold maxLen at hn hm;have hlen:=aT ht.1;have hlen2:=aT hl.1;generalize hz:cB ts l=z;have Hz:=aT hz;clear hz
 cases hr:db ts with
 | false=>
   rw[hr] at hright;have hz3:z=false:=by rw[<- Hz.out];unfold cB;rw[hr];rfl
   rw[hz3];clear hz3 hr;go_enter Tryz.func30,Tryz.ntmps30;go_wp2_with (go_at_call 121;go_call (hright) as e w' ⟨rfl,rfl⟩);go_ret;exact⟨rfl,rfl⟩
 | true=>
   rw[hr] at hright;have Hr:=aT hr;clear hr
   by_cases hnm:m=n
   · have Hnm:=aT hnm;subst hnm;have hnn:(((m:Nat):Int) != (m:Int))=false:=by simp
     go_enter Tryz.func30,Tryz.ntmps30;go_wp2_with (go_at_call 121;go_call (hright) as e w' ⟨rfl,rfl⟩);go_loop [5] (fun i=>∃ k:Nat,k<=m/\i=I (k:Nat)/\Hid (∀ i,i<k->okAt (aZ ts i) (aZ l i)=true)) (fun i=>m - (intOf i).toNat)
     case atStart=>exact⟨0,aS,rfl,fun i hi=>absurd hi aS⟩
     case round=>
      obtain⟨k,hk,rfl,hall⟩:=hrel
      by_cases hlt:k<m
      · obtain⟨b,o,rfl,_,hc⟩:=ht.at_ hlt;obtain⟨b2,o2,rfl,_,hc2⟩:=hl.at_ hlt;have hne:¬ (m:Int)<=(k:Int):=aS
        by_cases hok:okAt (aZ ts k) (aZ l k)=true
        · have hall':Hid (∀ i,i<k+1->okAt (aZ ts i) (aZ l i)=true):=fun i hi=>by
           rcases aw i k with h | h
           · exact hall.out i h
           · rw[show i=k from by omega];exact hok
          have h3:=jO.1 hok;clear hok hall
          by_cases h2:aZ ts k=2
          · have h4:=h3 h2;rw[h2] at hc;clear h3 h2;rcases h4 with h4 | h4
            all_goals
             rw[h4] at hc2;clear h4;go_wp2;go_round
             case rel=>exact⟨k+1,aS,by go_num,hall'⟩
             case measure=>simp[intOf];omega
          · have b2:(aZ ts k == 2)=false:=by rw[ae];exact h2
            clear h2 h3;generalize aZ ts k=v at *;go_wp2;go_round
            case rel=>exact⟨k+1,aS,by go_num,hall'⟩
            case measure=>simp[intOf];omega
        · have h3:=mC.1 (by simpa using hok);rw[h3.1] at hc;have b1:(aZ l k != 0)=true:=by rw[af];exact h3.2.1
          have b2:(aZ l k != 1)=true:=by rw[af];exact h3.2.2
          have hz3:Hid (z=false):=by
           show z=false
           rw[<- Hz.out];unfold cB;rw[mB (k:=k) my (by simpa using hok)];simp
          clear h3 hok;generalize aZ l k=v at *;go_wp2;go_ret;exact⟨cO hz3.out.symm,rfl⟩
      · have hge:(m:Int)<=(k:Int):=aS;have hz3:Hid (z=true):=by
         show z=true
         rw[<- Hz.out];unfold cB;rw[jg.2 (fun i hi=>hall.out i (by rw[hlen.out] at hi;omega)),Hr.out,hlen.out,hlen2.out];simp
        go_wp2;go_ret;exact⟨cO hz3.out.symm,rfl⟩
   · have hne:(((m:Nat):Int) != (n:Int))=true:=by rw[af];omega
     have hz3:z=false:=by
      rw[<- Hz.out];unfold cB;rw[show decide (l.length=ts.length)=false from aj (by rw[hlen.out,hlen2.out];exact hnm)];simp
     rw[hz3];clear hnm hz3;go_enter Tryz.func30,Tryz.ntmps30;go_wp2_with (go_at_call 121;go_call (hright) as e w' ⟨rfl,rfl⟩);go_ret;exact⟨rfl,rfl⟩
theorem blk5 {w:World}{g:Nat}{t:TypeId}{v0 v1 v2 v3 v4:Value}(h:Blk w g t [v0,v1,v2,v3,v4]):w.cell? ⟨g,0,none⟩=some v0/\w.cell? ⟨g,1,none⟩=some v1/\w.cell? ⟨g,2,none⟩=some v2/\w.cell? ⟨g,3,none⟩=some v3/\w.cell? ⟨g,4,none⟩=some v4 :=
 ⟨h.cell 0,h.cell 1,h.cell 2,h.cell 3,h.cell 4⟩
theorem j9 (x:PA)(p:PV)(w:World)(h:ca w x p) :
 Ca 153 #[.agg #[.slice x.A1 x.n1 x.c1,.slice x.A2 x.n2 x.c2,I p.regs,.slice x.A3 x.n3 x.c3,.slice x.A4 x.n4 x.c4]] w fun e w'=>e=.returned (.bool (mayB p))/\Below w.heap.size w w':=by
 obtain⟨A1,n1,c1,A2,n2,c2,A3,n3,c3,A4,n4,c4⟩:=x;obtain⟨ins,outs,regs,cells,code⟩:=p;obtain⟨r1,r2,r3,r4,k1,k2,k3,k4⟩:=h;simp only at r1 r2 r3 r4 k1 k2 k3 k4 ⊢;have hr1:=fun w h=>jQ A1 n1 c1 ins w h aS
 have hr2:=fun w h=>jQ A2 n2 c2 outs w h aS
 have e3:=r3.1;have e4:=r4.1;generalize hz:mayB ⟨ins,outs,regs,cells,code⟩=z;have hI:=@dN ⟨ins,outs,regs,cells,code⟩;rw[hz] at hI;simp only[e3,e4] at hI;have HI:=aT hI;clear hz hI e3 e4;have m3:n3<=9223372036854775807:=by have:=k3.1;have:=k3.2;unfold maxLen at this;omega
 have m4:n4<=9223372036854775807:=by have:=k4.1;have:=k4.2;unfold maxLen at this;omega
 clear k1 k2 k3 k4;go_enter Tryz.func153,Tryz.ntmps153;go_wp2;go_loopw [10] (fun i wr=>∃ k:Nat,k<=n3/\i=I (k:Nat)/\Hid (∀ i,i<k->fu (cK cells i).1 (cK cells i).2=true)/\Below w.heap.size w wr/\w.heap.size<wr.heap.size /\
  Blk wr w.heap.size 26 [.slice A1 n1 c1,.slice A2 n2 c2,I regs,.slice A3 n3 c3,.slice A4 n4 c4]) (fun i _=>n3 - (intOf i).toNat)
 case atStart=>exact⟨0,aS,rfl,fun i hi=>absurd hi aS,bc,by simp,bK⟩
 case round=>
  obtain⟨k,hk,rfl,hall,hbel,hsz,hblk⟩:=hrel
  by_cases hlt:k<n3
  · have hne:¬ (n3:Int)<=(k:Int):=aS;obtain⟨b,o,x,rfl,hb,hx,hc⟩:=(r3.below hbel aW).at_ im aS hlt;have h0:wr.cell? ⟨b,o+k * 2,none⟩=some (I x.1):=hc 0 aS;have h1:wr.cell? ⟨b,o+k * 2+1,none⟩=some (I x.2):=hc 1 aS;have hxk:=aT (jp hx);clear hc hx;obtain⟨t,f⟩:=x;simp only at h0 h1;have hv:=fun w=>value_any t f w
    cases hvb:fu t f with
    | true=>
      have hall':Hid (∀ i,i<k+1->fu (cK cells i).1 (cK cells i).2=true):=fun i hi=>by
       rcases aw i k with h | h
       · exact hall.out i h
       · rw[show i=k from by omega,hxk.out];exact hvb
      rw[hvb] at hv;clear hvb hall;go_wp2_with (go_at_call 222;go_call (hv _) as e w1 ⟨rfl,rfl⟩);go_roundw
      case rel=>exact⟨k+1,aS,by go_num,hall',bc,by simp;omega,bK⟩
      case measure=>simp[intOf];omega
    | false=>
      have hz:Hid (z=false):=by
       show z=false
       rw[Bool.eq_false_iff];intro hc;have:=(HI.out.1 hc).2.2.2.2.2.2.1 k hlt;rw[hxk.out,hvb] at this
       cases this
      rw[hvb] at hv;clear hvb hall;go_wp2_with (go_at_call 222;go_call (hv _) as e w1 ⟨rfl,rfl⟩);go_ret;exact⟨cO hz.out.symm,bc⟩
  · have hkn:k=n3:=aS;subst hkn;have hall3:=hall;clear hall;obtain⟨g0,g1,g2,g3,g4⟩:=blk5 hblk;go_wp2;have hsz0:=hsz;have hbel0:=hbel;clear hsz hbel;go_loopw [24] (fun i w2=>∃ j:Nat,j<=n4/\i=I (j:Nat)/\Hid (∀ i,i<j->insB (aY code i)=true)/\Below w.heap.size w w2/\w.heap.size<w2.heap.size /\
     Blk w2 w.heap.size 26 [.slice A1 n1 c1,.slice A2 n2 c2,I regs,.slice A3 k c3,.slice A4 n4 c4]) (fun i _=>n4 - (intOf i).toNat)
    case atStart=>exact⟨0,aS,rfl,fun i hi=>absurd hi aS,hbel0,hsz0,hblk⟩
    case round=>
     clear g0 g1 g2 g3 g4 hblk;obtain⟨j,hj,rfl,hall,hbel,hsz,hblk⟩:=hrel
     by_cases hlt:j<n4
     · have hne:¬ (n4:Int)<=(j:Int):=aS;obtain⟨b,o,x,rfl,hb,hx,hc⟩:=(r4.below hbel aW).at_ gY aS hlt;obtain⟨op,xa,xb,xc,xk⟩:=x;have h0:wr.cell? ⟨b,o+j * 5,none⟩=some (I op):=hc 0 aS;have h1:wr.cell? ⟨b,o+j * 5+1,none⟩=some (I xa):=hc 1 aS;have h2:wr.cell? ⟨b,o+j * 5+2,none⟩=some (I xb):=hc 2 aS;have h3:wr.cell? ⟨b,o+j * 5+3,none⟩=some (I xc):=hc 3 aS;have h4:wr.cell? ⟨b,o+j * 5+4,none⟩=some (I xk):=hc 4 aS;have hxk:=aT (gS hx);clear hc hx;have hv:=fun w=>instr_any op xa xb xc xk w
       cases hvb:insB ⟨op,xa,xb,xc,xk⟩ with
       | true=>
         have hall':Hid (∀ i,i<j+1->insB (aY code i)=true):=fun i hi=>by
          rcases aw i j with h | h
          · exact hall.out i h
          · rw[show i=j from by omega,hxk.out];exact hvb
         rw[hvb] at hv;clear hvb hall;go_wp2_with ((go_at_call 223;go_call (hv _) as e w5 ⟨rfl,hb5⟩);have hbw5:=bH (a:=w) (B:=w.heap.size) bc hb5 cU;have hs5:=hb5.size;have hk5:=Blk.below (w':=w5) (g:=w.heap.size) (t:=26) (cs:=[.slice A1 n1 c1,.slice A2 n2 c2,I regs,.slice A3 k c3,.slice (some ⟨b,o,none⟩) n4 c4]) bK hb5 cU);simp at hs5;go_roundw
         case rel=>exact⟨j+1,aS,by go_num,hall',hbw5,aS,hk5⟩
         case measure=>simp[intOf];omega
       | false=>
         have hz:Hid (z=false):=by
          show z=false
          rw[Bool.eq_false_iff];intro hc;have:=(HI.out.1 hc).2.2.2.2.2.2.2 j hlt;rw[hxk.out,hvb] at this
          cases this
         rw[hvb] at hv;clear hvb hall;go_wp2_with ((go_at_call 223;go_call (hv _) as e w5 ⟨rfl,hb5⟩);have hbw5:=bH (a:=w) (B:=w.heap.size) bc hb5 cU);go_ret;exact⟨cO hz.out.symm,hbw5⟩
     · have hjn:j=n4:=aS;subst hjn;obtain⟨g0,g1,g2,g3,g4⟩:=blk5 hblk;have q1:=r1.below hbel aW;have q2:=r2.below hbel aW;have HZ:Hid (z=true ↔ db ins=true/\db outs=true/\0<=regs/\regs<=1600/\k<=60/\j<=2048):=by
        have h1:=HI.out
        show _ ↔ _
        constructor
        · intro h;obtain⟨a1,a2,a3,a4,a5,a6,_⟩:=h1.1 h;exact⟨a1,a2,a3,a4,a5,a6⟩
        · rintro ⟨a1,a2,a3,a4,a5,a6⟩;exact h1.2 ⟨a1,a2,a3,a4,a5,a6,fun i hi=>hall3.out i hi,fun i hi=>hall.out i hi⟩
       have hne:(j:Int)<=(j:Int):=aS;clear hall hall3 HI r1 r2 r3 r4 hblk hbel0 hsz0;generalize db ins=b1 at *;generalize db outs=b2 at *;have HF:¬ (b1=true/\b2=true/\0<=regs/\regs<=1600/\k<=60/\j<=2048)->Hid (z=false):=fun h=>by
        show z=false
        rw[Bool.eq_false_iff];exact fun hc=>h (HZ.out.1 hc)
       have HF:=aT HF
       cases b1 with
       | false=>
         have hz:=HF.out ba;clear HF HZ;go_wp2_with (go_at_call 150;go_call (hr1 _ q1) as e w1 ⟨rfl,rfl⟩);go_ret;exact⟨cO hz.out.symm,bc⟩
       | true=>
         cases b2 with
         | false=>
           have hz:=HF.out ba;clear HF HZ;go_wp2_with (first | (go_at_call 150;(with_reducible refine (hr1 _ q1).mono ?_);rintro e w1 ⟨rfl,rfl⟩) | (go_at_call 150;(with_reducible refine (hr2 _ q2).mono ?_);rintro e w1 ⟨rfl,rfl⟩));go_ret;exact⟨cO hz.out.symm,bc⟩
         | true=>
           rcases (show regs<0\/(0<=regs/\1600<regs)\/(0<=regs/\regs<=1600/\60<k)\/(0<=regs/\regs<=1600/\k<=60/\2048<j)\/(0<=regs/\regs<=1600/\k<=60/\j<=2048) by omega) with h | h | h | h | h
           case' inr.inr.inr.inr=>
            have hz:Hid (z=true):=HZ.out.2 ⟨rfl,rfl,h⟩;obtain⟨h1,h2,h3,h4⟩:=h
           case' inl=>have hz:=HF.out aS
           case' inr.inl=>
            have hz:=HF.out aS;obtain⟨h1,h2⟩:=h
           case' inr.inr.inl=>
            have hz:=HF.out aS;obtain⟨h1,h2,h3⟩:=h
           case' inr.inr.inr.inl=>
            have hz:=HF.out aS;obtain⟨h1,h2,h3,h4⟩:=h
           all_goals
            clear HF HZ;go_wp2_with (first | (go_at_call 150;(with_reducible refine (hr1 _ q1).mono ?_);rintro e w1 ⟨rfl,rfl⟩) | (go_at_call 150;(with_reducible refine (hr2 _ q2).mono ?_);rintro e w1 ⟨rfl,rfl⟩));go_ret;exact⟨cO nI,bc⟩
theorem pH (x:PA)(p:PV)(w:World)(h:ca w x p) :
 Ca 78 #[.agg #[.slice x.A1 x.n1 x.c1,.slice x.A2 x.n2 x.c2,I p.regs,.slice x.A3 x.n3 x.c3,.slice x.A4 x.n4 x.c4]] w fun e w'=>e=.returned (.bool (mayB p))/\Below w.heap.size w w':=by
 obtain⟨A1,n1,c1,A2,n2,c2,A3,n3,c3,A4,n4,c4⟩:=x;obtain⟨ins,outs,regs,cells,code⟩:=p;obtain⟨r1,r2,r3,r4,k1,k2,k3,k4⟩:=h;simp only at r1 r2 r3 r4 k1 k2 k3 k4 ⊢;have hr1:=fun w h=>nV A1 n1 c1 ins w h aS
 have hr2:=fun w h=>nV A2 n2 c2 outs w h aS
 have e3:=r3.1;have e4:=r4.1;generalize hz:mayB ⟨ins,outs,regs,cells,code⟩=z;have hI:=@dN ⟨ins,outs,regs,cells,code⟩;rw[hz] at hI;simp only[e3,e4] at hI;have HI:=aT hI;clear hz hI e3 e4;have m3:n3<=9223372036854775807:=by have:=k3.1;have:=k3.2;unfold maxLen at this;omega
 have m4:n4<=9223372036854775807:=by have:=k4.1;have:=k4.2;unfold maxLen at this;omega
 clear k1 k2 k3 k4;have q1:RI (w.alloc (.cells #[.slice A1 n1 c1,.slice A2 n2 c2,I regs,.slice A3 n3 c3,.slice A4 n4 c4] 26)) A1 n1 ins:=r1.below ((Below.refl _ _).alloc aW _) aW;have q2:RI (w.alloc (.cells #[.slice A1 n1 c1,.slice A2 n2 c2,I regs,.slice A3 n3 c3,.slice A4 n4 c4] 26)) A2 n2 outs:=r2.below ((Below.refl _ _).alloc aW _) aW;have HF:¬ (db ins=true/\db outs=true/\0<=regs/\regs<=1600/\n3<=60/\n4<=2048)->Hid (z=false):=fun h=>by
  show z=false
  rw[Bool.eq_false_iff];intro hc;obtain⟨a1,a2,a3,a4,a5,a6,_⟩:=HI.out.1 hc;exact h ⟨a1,a2,a3,a4,a5,a6⟩
 have HF:=aT HF;generalize hg1:db ins=b1 at *;generalize hg2:db outs=b2 at *;clear hg1 hg2
 cases b1 with
 | false=>
   have hz:=HF.out ba;clear HF HI;go_enter Tryz.func78,Tryz.ntmps78;go_wp2_with (go_at_call 121;go_call (hr1 _ q1) as e w1 ⟨rfl,rfl⟩);go_ret;exact⟨cO hz.out.symm,bc⟩
 | true=>
   cases b2 with
   | false=>
     have hz:=HF.out ba;clear HF HI;go_enter Tryz.func78,Tryz.ntmps78;go_wp2_with (first | (go_at_call 121;(with_reducible refine (hr1 _ q1).mono ?_);rintro e w1 ⟨rfl,rfl⟩) | (go_at_call 121;(with_reducible refine (hr2 _ q2).mono ?_);rintro e w1 ⟨rfl,rfl⟩));go_ret;exact⟨cO hz.out.symm,bc⟩
   | true=>
     rcases (show regs<0\/(0<=regs/\1600<regs)\/(0<=regs/\regs<=1600/\60<n3)\/(0<=regs/\regs<=1600/\n3<=60/\2048<n4)\/(0<=regs/\regs<=1600/\n3<=60/\n4<=2048) by omega) with h | h | h | h | h
     case inr.inr.inr.inr=>
      obtain⟨h1,h2,h3,h4⟩:=h;have HZ:Hid (z=true ↔ (∀ i,i<n3->fu (cK cells i).1 (cK cells i).2=true)/\(∀ i,i<n4->insB (aY code i)=true)):=by
       have h1:=HI.out
       show _ ↔ _
       constructor
       · intro h;obtain⟨a1,a2,a3,a4,a5,a6,a7,a8⟩:=h1.1 h;exact⟨a7,a8⟩
       · rintro ⟨a7,a8⟩;exact h1.2 ⟨rfl,rfl,aS,by omega,aS,by omega,a7,a8⟩
      clear HF HI;go_enter Tryz.func78,Tryz.ntmps78;go_wp2_with (first | (go_at_call 121;(with_reducible refine (hr1 _ q1).mono ?_);rintro e w1 ⟨rfl,rfl⟩) | (go_at_call 121;(with_reducible refine (hr2 _ q2).mono ?_);rintro e w1 ⟨rfl,rfl⟩));clear q1 q2 hr1 hr2;go_loopw [3] (fun i wr=>∃ k:Nat,k<=n3/\i=I (k:Nat)/\Hid (∀ i,i<k->fu (cK cells i).1 (cK cells i).2=true)/\Below w.heap.size w wr/\w.heap.size<wr.heap.size /\
       Blk wr w.heap.size 26 [.slice A1 n1 c1,.slice A2 n2 c2,I regs,.slice A3 n3 c3,.slice A4 n4 c4]) (fun i _=>n3 - (intOf i).toNat)
      case atStart=>exact⟨0,aS,rfl,fun i hi=>absurd hi aS,bc,by simp,bK⟩
      case round=>
       obtain⟨k,hk,rfl,hall,hbel,hsz,hblk⟩:=hrel;obtain⟨g0,g1,g2,g3,g4⟩:=blk5 hblk
       by_cases hlt:k<n3
       · have hne:¬ (n3:Int)<=(k:Int):=aS;have hi0:(0:Int)<=(k:Int):=aS;have hi1:(k:Int)<(n3:Int):=aS;obtain⟨b,o,x,rfl,hb,hx,hc⟩:=(r3.below hbel aW).at_ im aS hlt;have h0:wr.cell? ⟨b,o+k * 2,none⟩=some (I x.1):=hc 0 aS;have h5:wr.cell? ⟨b,o+k * 2+1,none⟩=some (I x.2):=hc 1 aS;have hxk:=aT (jp hx);clear hc hx;obtain⟨t,f⟩:=x;simp only at h0 h5;have hv:=fun w=>pF t f w
         cases hvb:fu t f with
         | true=>
           have hall':Hid (∀ i,i<k+1->fu (cK cells i).1 (cK cells i).2=true):=fun i hi=>by
            rcases aw i k with h | h
            · exact hall.out i h
            · rw[show i=k from by omega,hxk.out];exact hvb
           rw[hvb] at hv;clear hvb hall;go_wp2;go_quiet ((go_at_call 172;exact Calls.quiet_of_same ((hv _).mono fun e w' ⟨h1,h2⟩=>⟨h1,h2.symm⟩)));go_wp2;go_roundw
           case rel=>exact⟨k+1,aS,by go_num,hall',bc,hsz,hblk⟩
           case measure=>simp[intOf];omega
         | false=>
           have hz:Hid (z=false):=by
            show z=false
            rw[Bool.eq_false_iff];intro hc;have:=(HZ.out.1 hc).1 k hlt;rw[hxk.out,hvb] at this
            cases this
           rw[hvb] at hv;clear hvb hall;go_wp2;go_quiet ((go_at_call 172;exact Calls.quiet_of_same ((hv _).mono fun e w' ⟨h1,h2⟩=>⟨h1,h2.symm⟩)));go_wp2;go_ret;exact⟨cO hz.out.symm,bc⟩
       · have hkn:k=n3:=aS;subst hkn;have hall3:=hall;clear hall;go_wp2;have hsz0:=hsz;have hbel0:=hbel;clear hsz hbel;go_loopw [4] (fun i w2=>∃ j:Nat,j<=n4/\i=I (j:Nat)/\Hid (∀ i,i<j->insB (aY code i)=true)/\Below w.heap.size w w2/\w.heap.size<w2.heap.size /\
          Blk w2 w.heap.size 26 [.slice A1 n1 c1,.slice A2 n2 c2,I regs,.slice A3 k c3,.slice A4 n4 c4]) (fun i _=>n4 - (intOf i).toNat)
         case atStart=>exact⟨0,aS,rfl,fun i hi=>absurd hi aS,hbel0,hsz0,hblk⟩
         case round=>
          clear g0 g1 g2 g3 g4 hblk;obtain⟨j,hj,rfl,hall,hbel,hsz,hblk⟩:=hrel;obtain⟨g0,g1,g2,g3,g4⟩:=blk5 hblk
          by_cases hlt:j<n4
          · have hne:¬ (n4:Int)<=(j:Int):=aS;obtain⟨b,o,x,rfl,hb,hx,hc⟩:=(r4.below hbel aW).at_ gY aS hlt;obtain⟨op,xa,xb,xc,xk⟩:=x;have e0:wr.cell? ⟨b,o+j * 5,none⟩=some (I op):=hc 0 aS;have e1:wr.cell? ⟨b,o+j * 5+1,none⟩=some (I xa):=hc 1 aS;have e2:wr.cell? ⟨b,o+j * 5+2,none⟩=some (I xb):=hc 2 aS;have e3:wr.cell? ⟨b,o+j * 5+3,none⟩=some (I xc):=hc 3 aS;have e4:wr.cell? ⟨b,o+j * 5+4,none⟩=some (I xk):=hc 4 aS;have hxk:=aT (gS hx);clear hc hx;have hall':Hid (insB ⟨op,xa,xb,xc,xk⟩=true->∀ i,i<j+1->insB (aY code i)=true):=fun hvb i hi=>by
             rcases aw i j with h | h
             · exact hall.out i h
             · rw[show i=j from by omega,hxk.out];exact hvb
            have hbad:Hid (insB ⟨op,xa,xb,xc,xk⟩=false->z=false):=fun hvb=>by
             rw[Bool.eq_false_iff];intro hc;have:=(HZ.out.1 hc).2 j hlt;rw[hxk.out,hvb] at this
             cases this
            have hv:=fun w=>has_any op w
            unfold hasN hasK at hv;have hle:=cls_le op;have hI2:insB ⟨op,xa,xb,xc,xk⟩=true ↔ (cls op≠0/\0<=xa/\0<=xb/\0<=xc/\(cls op=1->xb=0)/\(cls op<=2->xc=0)/\(cls op=2\/cls op=3->xk=0)):=by
             unfold insB;rw[decide_eq_true_iff];rfl
            generalize insB ⟨op,xa,xb,xc,xk⟩=zi at *;generalize cls op=q at *;clear hall hxk HZ hall3 r3 r4;rcases (show q=0\/q=1\/q=2\/q=3\/q=4 by omega) with rfl | rfl | rfl | rfl | rfl
            case' inl=>
             have hv':∀ w,Ca 173 #[I op] w fun e w'=>e=.returned (.tuple #[I 0,.bool false])/\w=w':=hv
             have hcs:False\/False\/False\/False\/False\/True:=by simp
            case' inr.inl=>
             have hv':∀ w,Ca 173 #[I op] w fun e w'=>e=.returned (.tuple #[I 1,.bool true])/\w=w':=hv
             have hcs:(xa<0)\/(0<=xa/\xb<0)\/(0<=xa/\0<=xb/\xc<0)\/(0<=xa/\0<xb/\0<=xc)\/(0<=xa/\xb=0/\0<xc)\/(0<=xa/\xb=0/\xc=0):=aS
            case' inr.inr.inl=>
             have hv':∀ w,Ca 173 #[I op] w fun e w'=>e=.returned (.tuple #[I 2,.bool false])/\w=w':=hv
             have hcs:(xa<0)\/(0<=xa/\xb<0)\/(0<=xa/\0<=xb/\xc<0)\/(0<=xa/\0<=xb/\0<xc)\/(0<=xa/\0<=xb/\xc=0/\xk≠0)\/(0<=xa/\0<=xb/\xc=0/\xk=0):=aS
            case' inr.inr.inr.inl=>
             have hv':∀ w,Ca 173 #[I op] w fun e w'=>e=.returned (.tuple #[I 3,.bool false])/\w=w':=hv
             have hcs:(xa<0)\/(0<=xa/\xb<0)\/(0<=xa/\0<=xb/\xc<0)\/(0<=xa/\0<=xb/\0<=xc/\xk≠0)\/(0<=xa/\0<=xb/\0<=xc/\xk=0)\/False:=aS
            case' inr.inr.inr.inr=>
             have hv':∀ w,Ca 173 #[I op] w fun e w'=>e=.returned (.tuple #[I 3,.bool true])/\w=w':=hv
             have hcs:(xa<0)\/(0<=xa/\xb<0)\/(0<=xa/\0<=xb/\xc<0)\/(0<=xa/\0<=xb/\0<=xc)\/False\/False:=aS
            all_goals
             clear hv hle;rcases hcs with hcs | hcs | hcs | hcs | hcs | hcs
             all_goals
              cases zi
              all_goals
               first
               | (exfalso;have h9:=hI2.1 rfl;omega)
               | (exfalso;apply Bool.false_ne_true;apply hI2.2;refine⟨?_,?_,?_,?_,?_,?_,?_⟩ <;> (intros;omega))
               | (exfalso;exact hcs)
               | skip
            all_goals
             clear hI2
             first
             | (obtain⟨h6,rfl,rfl⟩:=hcs)
             | (obtain⟨h6,h7,rfl,rfl⟩:=hcs)
             | (obtain⟨h6,h7,h8,rfl⟩:=hcs)
             | (obtain⟨h6,rfl,h8⟩:=hcs;(have b3:(xc != 0)=true:=by rw[af];omega))
             | (obtain⟨h6,h7,rfl,h9⟩:=hcs;(have b4:(xk != 0)=true:=by rw[af];omega);clear h9)
             | (obtain⟨h6,h7,h8,h9⟩:=hcs;(have b4:(xk != 0)=true:=by rw[af];omega);clear h9)
             | (obtain⟨h6,h7,h8⟩:=hcs;try (have b2:(xb != 0)=true:=by rw[af];omega);try (have b3:(xc != 0)=true:=by rw[af];omega))
             | (obtain⟨h6,h7⟩:=hcs)
             | skip
            all_goals
             first
             | (have hz9:Hid (z=false):=hbad.out rfl;clear hbad hall')
             | (have hall9:Hid (∀ i,i<j+1->insB (aY code i)=true):=hall'.out rfl;clear hbad hall')
             go_wp2_with (go_at_call 173;go_call (hv' _) as e w1 ⟨rfl,rfl⟩)
             first
             | (go_ret;exact⟨cO hz9.out.symm,bc⟩)
             | (go_roundw
                case rel=>exact⟨j+1,aS,by go_num,hall9,bc,by simp;omega,bK⟩
                case measure=>simp[intOf];omega)
          · have hjn:j=n4:=aS;subst hjn;have hge:(j:Int)<=(j:Int):=aS;have hz:Hid (z=true):=HZ.out.2 ⟨hall3.out,hall.out⟩;clear HZ hall hall3 r3 r4;go_wp2;go_ret;exact⟨cO hz.out.symm,bc⟩
     case' inl=>have hz:=HF.out aS
     case' inr.inl=>
      have hz:=HF.out aS;obtain⟨h1,h2⟩:=h
     case' inr.inr.inl=>
      have hz:=HF.out aS;obtain⟨h1,h2,h3⟩:=h
     case' inr.inr.inr.inl=>
      have hz:=HF.out aS;obtain⟨h1,h2,h3,h4⟩:=h
     all_goals
      clear HF HI;go_enter Tryz.func78,Tryz.ntmps78;go_wp2_with (first | (go_at_call 121;(with_reducible refine (hr1 _ q1).mono ?_);rintro e w1 ⟨rfl,rfl⟩) | (go_at_call 121;(with_reducible refine (hr2 _ q2).mono ?_);rintro e w1 ⟨rfl,rfl⟩));go_ret;exact⟨cO nI,bc⟩
