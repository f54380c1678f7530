/- Parts. -/
import Derived.Test.YtmeebofhlilcmaaGreatPr02
set_option linter.unusedVariables false
set_option linter.unusedSimpArgs false
set_option maxRecDepth 100000
set_option maxHeartbeats 0
namespace Go.Proofs.YtmeebofhlilcmaaGreat
variable {n k i:Nat} {t:Int} {l ts:List Int} {b:List UInt8}
open Go.RowKit
def zagE (l:List UInt8):Nat:=if (cE 10 0 l).2≠0 then (cE 10 0 l).2 else if (cE 10 0 l).1=10/\1<bC l 9 then 11 else 0
def zagS (l:List UInt8):Nat:=if zagE l=0 then (cE 10 0 l).1 else 0
def zagV (l:List UInt8):Int:=if zagE l=0 then unzz (sevL (l.take (cE 10 0 l).1)) else 0
theorem zag_err (A:Option Addr)(n c:Nat)(l:List UInt8)(w:World)(hl:RB w A n l)(hn:n<=maxLen)(he:(cE 10 0 l).2≠0) :
 Ca 240 #[.slice A n c] w fun e w'=>e=.returned (.tuple #[I 0,I 0,I ((cE 10 0 l).2:Nat)])/\w=w':=by
 have hd:=fun w=>read_u A n c l w
 generalize km 18446744073709551616 (cE 10 0 l) l=v at *;generalize cE 10 0 l=z at *;have h1:(((z.2:Nat):Int) != 0)=true:=by rw[af];omega
 have h2:(((z.2:Nat):Int) == 0)=false:=by rw[ae];omega
 clear he;go_enter Tryz.func240,Tryz.ntmps240;go_wp2_with (go_at_call 286;go_call (hd _ hl hn) as e w' ⟨rfl,rfl⟩);go_ret3;exact⟨rfl,rfl⟩
theorem zag_big (A:Option Addr)(n c:Nat)(l:List UInt8)(w:World)(hl:RB w A n l)(hn:n<=maxLen)(hz:cE 10 0 l=(10,0))(hb:1<bC l 9) :
 Ca 240 #[.slice A n c] w fun e w'=>e=.returned (.tuple #[I 0,I 0,I 11])/\w=w':=by
 have hd:=fun w=>read_u A n c l w
 rw[hz] at hd;have hle:=(jF 10 l 0 (by rw[hz])).2.2;rw[hz] at hle;have hlen:=hl.1;have h10:10<=n:=by simp at hle;omega
 clear hz hle hlen;obtain⟨b,o,rfl,_,hc⟩:=hl.at_ (k:=9) aS;generalize km 18446744073709551616 (10,0) l=v at *;generalize bC l 9=y at *;go_enter Tryz.func240,Tryz.ntmps240;go_wp2_with (go_at_call 286;go_call (hd _ hl hn) as e w' ⟨rfl,rfl⟩);go_ret3;exact⟨rfl,rfl⟩
theorem i64_flip (a:Nat)(ha:a<9223372036854775808):bits .xor .i64 (a:Int) (-1)=-(a:Int) - 1:=by
 show IntKind.i64.wrap ((BitVec.ofInt 64 (a:Int) ^^^ BitVec.ofInt 64 (-1)).toNat:Int)=_
 have h1:BitVec.ofInt 64 (-1)=BitVec.allOnes 64:=by decide
 rw[h1,BitVec.xor_allOnes,BitVec.toNat_not,kj a aS];simp[IntKind.wrap,IntKind.bits,IntKind.signed];omega
theorem i64_same (a:Nat)(ha:a<9223372036854775808):bits .xor .i64 (a:Int) 0=(a:Int):=by
 show IntKind.i64.wrap ((BitVec.ofInt 64 (a:Int) ^^^ BitVec.ofInt 64 ((0:Nat):Int)).toNat:Int)=_
 rw[BitVec.toNat_xor,kj a aS,kj 0 aS,Nat.xor_zero,IntKind.wrap_i64];omega
theorem zag_bits (v:Nat)(hv:v<18446744073709551616):bits .xor .i64 ((v:Int) / 2) (-((v:Int) % 2))=unzz v:=by
 unfold unzz;have e:(v:Int) / 2=((v / 2:Nat):Int):=aS
 by_cases h:v % 2=0
 · have e2:-((v:Int) % 2)=0:=aS;rw[if_pos h,e,e2,i64_same _ aS]
 · have e2:-((v:Int) % 2)=-1:=aS;rw[if_neg h,e,e2,i64_flip _ aS]
theorem zag_lt {s:Nat}{l:List UInt8}(hlen:l.length=n)(hz:cE 10 0 l=(s,0))(hb:s≠10\/bC l 9<=1):sevL (l.take s)<18446744073709551616:=by
 have hle:=jF 10 l 0 (by rw[hz]);rw[hz] at hle;simp only[aB] at hle
 by_cases h10:s=10
 · subst h10;have hb1:bC l 9<=1:=aS;have h2:=sevL_lt (l.take 9);have h3:(l.take 9).length=9:=by rw[aA];omega
   rw[h3] at h2;rw[sevL_snoc l 9 aS];have:bC l 9 % 128<=1:=aS;have:=Nat.mul_le_mul_left (128 ^ 9) this;omega
 · have h2:=sevL_lt (l.take s);have h3:128 ^ (l.take s).length<=128 ^ 9:=Nat.pow_le_pow_right aS lK;omega
theorem zag_ok (A:Option Addr)(n c s:Nat)(l:List UInt8)(w:World)(hl:RB w A n l)(hn:n<=maxLen)(hz:cE 10 0 l=(s,0))(hb:s≠10\/bC l 9<=1) :
 Ca 240 #[.slice A n c] w fun e w'=>e=.returned (.tuple #[I (unzz (sevL (l.take s))),I s,I 0])/\w=w':=by
 have hd:=fun w=>read_u A n c l w
 have hle:=jF 10 l 0 (by rw[hz]);rw[hz] at hd hle;simp only[aB] at hle;have hlen:=hl.1;have hv:=zag_lt hl.1 hz hb;have hrv:km 18446744073709551616 (s,0) l=sevL (l.take s):=Nat.mod_eq_of_lt hv;rw[hrv] at hd;generalize sevL (l.take s)=v at *;clear hrv;have hand:=and_one_u64 (v:Int) aS aS;have hxor:=zag_bits v hv;generalize unzz v=r at *
 by_cases h10:s=10
 · have hb1:bC l 9<=1:=aS;have h9:10<=n:=aS;have hs:(((s:Nat):Int) == 10)=true:=by rw[beq_iff_eq];omega
   clear hz hle hlen hb h10;obtain⟨b,o,rfl,_,hc⟩:=hl.at_ (k:=9) aS;generalize bC l 9=y at *;go_enter Tryz.func240,Tryz.ntmps240;go_wp2_with (go_at_call 286;go_call (hd _ hl hn) as e w' ⟨rfl,rfl⟩);go_ret3;exact⟨rfl,rfl⟩
 · have hs:(((s:Nat):Int) == 10)=false:=by rw[ae];omega
   clear hz hle hlen hb h10;go_enter Tryz.func240,Tryz.ntmps240;go_wp2_with (go_at_call 286;go_call (hd _ hl hn) as e w' ⟨rfl,rfl⟩);go_ret3;exact⟨rfl,rfl⟩
theorem digL_tab (f:Nat):∀ Z,Z<128 ^ (f+1)->digL f Z=tabB (digL f Z).length (fun i=>if i+1<(digL f Z).length then Z / 128 ^ i % 128+128 else Z / 128 ^ i % 128):=by
 induction f with
 | zero=>intro Z h;simp[digL,tabB,show Z % 128=Z from by omega]
 | succ f ih=>
   intro Z h
   by_cases hz:Z<128
   · have:digL (f+1) Z=[UInt8.ofNat Z]:=mX hz;rw[this];simp[tabB,show Z % 128=Z from by omega]
   · have hl:=(gG f (Z / 128)).2;have e:=ih (Z / 128) (by rw[Nat.pow_succ] at h;omega);have hd:digL (f+1) Z=UInt8.ofNat (Z % 128+128) :: digL f (Z / 128):=by
      conv=>lhs;unfold digL
      rw[if_neg hz]
     rw[hd];simp only[aF]
     conv=>lhs;rw[e]
     unfold tabB;rw[List.range_succ_eq_map,List.map_cons,List.map_map]
     congr 1
     · dsimp only;rw[if_pos aS];simp
     · apply List.map_congr_left;intro i _;simp only[Function.comp,Nat.succ_eq_add_one,Nat.add_lt_add_iff_right];rw[Nat.div_div_eq_div_mul,Nat.pow_succ,Nat.mul_comm 128]
theorem ko {v:Nat}(h:v<256):(UInt8.ofNat v).toNat=v:=UInt8.toNat_ofNat_of_lt' kK
theorem endsL_dig (f:Nat):∀ (i most Z:Nat) (more:List UInt8),i+(digL f Z).length<=most->(0<i->0<Z)->Z<128 ^ (f+1)->cE most i (digL f Z ++ more)=(i+(digL f Z).length,0):=by
 induction f with
 | zero=>
   intro i most Z more h1 h2 h3;simp only[digL,aJ] at h1 ⊢;simp only[List.singleton_append,cE];rw[if_neg aS,ko aS,if_pos aS,if_neg aS]
 | succ f ih=>
   intro i most Z more h1 h2 h3
   by_cases hz:Z<128
   · have e:digL (f+1) Z=[UInt8.ofNat Z]:=by conv=>lhs;unfold digL
                                             rw[if_pos hz]
     rw[e] at h1 ⊢;simp only[aJ] at h1 ⊢;simp only[List.singleton_append,cE];rw[if_neg aS,ko aS,if_pos aS,if_neg aS]
   · have e:digL (f+1) Z=UInt8.ofNat (Z % 128+128) :: digL f (Z / 128):=by conv=>lhs;unfold digL
                                                                           rw[if_neg hz]
     rw[e] at h1 ⊢;simp only[aF] at h1 ⊢;have hp:Z / 128<128 ^ (f+1):=by rw[Nat.pow_succ] at h3;omega
     simp only[List.cons_append,cE];rw[if_neg aS,ko aS,if_neg aS,ih (i+1) most (Z / 128) more aS aS hp]
     congr 1;omega
theorem sevL_dig (f:Nat):∀ Z,Z<128 ^ (f+1)->sevL (digL f Z)=Z:=by
 induction f with
 | zero=>intro Z h;simp only[digL,sevL];rw[ko aS];omega
 | succ f ih=>
   intro Z h
   by_cases hz:Z<128
   · rw[mX hz];simp only[sevL];rw[ko aS];omega
   · have e:digL (f+1) Z=UInt8.ofNat (Z % 128+128) :: digL f (Z / 128):=by conv=>lhs;unfold digL
                                                                           rw[if_neg hz]
     rw[e];simp only[sevL];rw[ko aS,ih _ (by rw[Nat.pow_succ] at h;omega)];omega
theorem dig_sevL (most:Nat)(l:List UInt8):∀ (i k f:Nat),cE most i l=(i+k,0)->k<=f+1->digL f (sevL (l.take k))=l.take k/\(0<i->0<sevL (l.take k)):=by
 induction l with
 | nil=>intro i k f h hk;simp[cE] at h;have:=h.2;split at this <;> omega
 | cons c l ih=>
   intro i k f h hk;have hc:=c.toNat_lt;have hle:=jF most (c :: l) i (by rw[h]);rw[h] at hle;simp only at hle;unfold cE at h
   by_cases h1:most<=i
   · simp[h1] at h
   · rw[if_neg h1] at h
     by_cases h2:c.toNat<128
     · rw[if_pos h2] at h
       by_cases h3:0<i/\c.toNat=0
       · rw[if_pos h3] at h;simp at h
       · rw[if_neg h3] at h;have hk1:k=1:=by have:=congrArg Prod.fst h;simp only at this;omega
         subst hk1;have e:sevL ((c :: l).take 1)=c.toNat:=by simp[sevL];omega
         rw[e,mX h2];refine⟨by simp,fun hi=>by omega⟩
     · rw[if_neg h2] at h;obtain⟨k,rfl⟩:∃ j,k=j+1:=⟨k - 1,aS⟩;have hle2:=jF most l (i+1) (by rw[h]);rw[h] at hle2;simp only at hle2;obtain⟨f,rfl⟩:∃ j,f=j+1:=⟨f - 1,aS⟩;have h4:=ih (i+1) k f (by rw[h];congr 1;omega) aS;have h5:=h4.2 aS;have e:sevL ((c :: l).take (k+1))=c.toNat % 128+128 * sevL (l.take k):=by simp[sevL]
       rw[e];refine⟨?_,fun _=>by omega⟩;have e2:∀ Z,¬ Z<128->digL (f+1) Z=UInt8.ofNat (Z % 128+128) :: digL f (Z / 128):=fun Z hZ=>by
        conv=>lhs;unfold digL
        rw[if_neg hZ]
       rw[e2 _ aS,List.take_succ_cons,show (c.toNat % 128+128 * sevL (l.take k)) / 128=sevL (l.take k) from by omega,h4.1]
       congr 1
       rw[show (c.toNat % 128+128 * sevL (l.take k)) % 128+128=c.toNat from by omega];simp
theorem digL_ten (Z:Nat)(h:Z<18446744073709551616)(more:List UInt8):(digL 9 Z).length≠10\/bC (digL 9 Z ++ more) 9<=1:=by
 by_cases hl:(digL 9 Z).length=10
 · refine .inr ?_;have e:=digL_tab 9 Z aS;rw[hl] at e;have e2:bC (digL 9 Z ++ more) 9=bC (digL 9 Z) 9:=by
    unfold bC;rw[ag,ag,aQ aS]
   rw[e2,e,tabB_at _ aS cO];simp;omega
 · exact .inl hl
def allK (n:Nat)(f:Nat->Bool):Bool:=(List.range n).all f
theorem iM {f:Nat->Bool}:allK n f=true ↔ ∀ i,i<n->f i=true:=by simp[allK,List.all_eq_true]
theorem lO {f:Nat->Bool}(hk:k<n)(h:f k=false):allK n f=false:=by
 rw[Bool.eq_false_iff];intro hc;rw[iM.1 hc k hk] at h;cases h
def tyB (t:Int):Bool:=t == 1 || t == 2
theorem kO :tyB t=true ↔ t=1\/t=2:=by simp[tyB]
def db (l:List Int):Bool:=allK l.length (fun i=>tyB (ba l i)) && (decide (1<=l.length) && decide (l.length<=8))
theorem fD :db l=true ↔ (∀ i,i<l.length->ba l i=1\/ba l i=2)/\1<=l.length/\l.length<=8:=by
 unfold db;simp only[ax,iM,aq,kO]
def okAt (t v:Int):Bool:=!(t == 2) || (v == 0 || v == 1)
theorem jr {v:Int}:okAt t v=true ↔ (t=2->v=0\/v=1):=by
 unfold okAt
 by_cases h:t=2
 · subst h;simp
 · simp[h]
theorem lP {v:Int}:okAt t v=false ↔ (t=2/\v≠0/\v≠1):=by
 unfold okAt
 by_cases h:t=2
 · subst h;simp
 · simp[h]
def cx (ts l:List Int):Bool:=db ts && (decide (l.length=ts.length) && allK ts.length (fun i=>okAt (ba ts i) (ba l i)))
theorem js :cx ts l=true ↔ db ts=true/\l.length=ts.length/\∀ i,i<ts.length->(ba ts i=2->ba l i=0\/ba l i=1):=by
 unfold cx;simp only[ax,iM,aq,jr]
def piece (t v:Int):List UInt8:=if t=2 then [UInt8.ofNat v.toNat] else digL 9 (zz v)
theorem piece_len (t v:Int):(piece t v).length<=if t=2 then 1 else 10:=by
 unfold piece
 split
 · simp
 · exact (gG 9 _).1
def rowB (ts l:List Int):Nat->List UInt8
 | 0=>[]
 | k+1=>rowB ts l k ++ piece (ba ts k) (ba l k)
theorem rowB_len10 (ts l:List Int)(k:Nat):(rowB ts l k).length<=10 * k:=by
 induction k with
 | zero=>simp[rowB]
 | succ k ih=>
   have h2:=piece_len (ba ts k) (ba l k);unfold rowB;rw[az]
   split at h2 <;> omega
theorem rowB_split (ts l:List Int)(k n:Nat)(h:k<=n):∃ more,rowB ts l n=rowB ts l k ++ more:=by
 induction n with
 | zero=>exact⟨[],by rw[show k=0 from by omega];simp⟩
 | succ n ih=>
   by_cases hk:k=n+1
   · exact⟨[],by rw[hk];simp⟩
   · obtain⟨more,hm⟩:=ih aS;exact⟨more ++ piece (ba ts n) (ba l n),by rw[show rowB ts l (n+1)=rowB ts l n ++ piece (ba ts n) (ba l n) from rfl,hm,aN]⟩
theorem oN (ts:List Int){m:List Int}(h:∀ i,i<k->ba l i=ba m i):rowB ts l k=rowB ts m k:=by
 induction k with
 | zero=>rfl
 | succ k ih=>unfold rowB;rw[ih (fun i hi=>h i aS),h k aS]
theorem zag_dig {n:Int}(h0:-9223372036854775808<=n)(h1:n<=9223372036854775807)(more:List UInt8) :
 zagE (digL 9 (zz n) ++ more)=0/\zagS (digL 9 (zz n) ++ more)=(digL 9 (zz n)).length/\zagV (digL 9 (zz n) ++ more)=n:=by
 have hz:=zz_lt h0 h1;have he:cE 10 0 (digL 9 (zz n) ++ more)=((digL 9 (zz n)).length,0):=by
  rw[endsL_dig 9 0 10 _ _ (by have:=(gG 9 (zz n)).1;omega) aS aS,aB]
 have hE:zagE (digL 9 (zz n) ++ more)=0:=by
  unfold zagE;rw[he];have:=digL_ten _ hz more;simp only[ne_eq,not_true_eq_false,if_false];rw[if_neg aS]
 refine⟨hE,?_,?_⟩
 · unfold zagS;rw[if_pos hE,he]
 · unfold zagV;rw[if_pos hE,he]
   show unzz (sevL (List.take _ _))=n
   rw[List.take_left,sevL_dig 9 _ aS,unzz_zz]
theorem zag_of {l:List UInt8}(h:zagE l=0):(cE 10 0 l).2=0/\((cE 10 0 l).1≠10\/bC l 9<=1):=by
 unfold zagE at h
 by_cases h1:(cE 10 0 l).2=0
 · refine⟨h1,?_⟩;rw[if_neg aS] at h
   by_cases h2:(cE 10 0 l).1=10/\1<bC l 9
   · rw[if_pos h2] at h;omega
   · omega
 · rw[if_pos h1] at h;omega
theorem zagS_le (l:List UInt8):zagS l<=l.length:=by
 unfold zagS
 split
 · rename_i h;have:=(jF 10 l 0 (zag_of h).1).2.2;omega
 · omega
theorem zag_ed {l:List UInt8}(h:zagE l=0):digL 9 (zz (zagV l))=l.take (zagS l)/\-9223372036854775808<=zagV l/\zagV l<=9223372036854775807:=by
 obtain⟨h1,h2⟩:=zag_of h;have hz:cE 10 0 l=((cE 10 0 l).1,0):=Prod.ext rfl h1;have hle:=jF 10 l 0 h1;have hS:=zag_lt rfl hz h2;have hbd:=unzz_bd hS;have e1:zagV l=unzz (sevL (l.take (cE 10 0 l).1)):=by unfold zagV;rw[if_pos h]
 have e2:zagS l=(cE 10 0 l).1:=by unfold zagS;rw[if_pos h]
 refine⟨?_,by rw[e1];exact hbd.1,by rw[e1];exact hbd.2⟩;rw[e1,e2,zz_unzz,(dig_sevL 10 l 0 (cE 10 0 l).1 9 (by rw[hz];simp) aS).1]
theorem zagE_cases (l:List UInt8):zagE l=0\/zagE l=10\/zagE l=11:=by
 unfold zagE
 by_cases h:(cE 10 0 l).2=0
 · rw[if_neg aS];split <;> omega
 · rw[if_pos h];right;exact (endsL_err 10 l 0 h).2
def fR (b:List UInt8)(t:Int)(s:List Int × Nat × Nat):List Int × Nat × Nat :=
 if s.2.2≠0 then s
 else if t=1 then
  if zagE (b.drop s.2.1)≠0 then (s.1,s.2.1,zagE (b.drop s.2.1)) else (s.1 ++ [zagV (b.drop s.2.1)],s.2.1+zagS (b.drop s.2.1),0)
 else if b.length<=s.2.1 then (s.1,s.2.1,10)
 else if 1<bC b s.2.1 then (s.1,s.2.1,11)
 else (s.1 ++ [(bC b s.2.1:Int)],s.2.1+1,0)
def rowK (ts:List Int)(b:List UInt8):Nat->List Int × Nat × Nat
 | 0=>([],0,0)
 | k+1=>fR b (ba ts k) (rowK ts b k)
def eK (ts:List Int)(b:List UInt8):List Int × Nat :=
 if db ts=false then ([],2)
 else if (rowK ts b ts.length).2.2≠0 then ([],(rowK ts b ts.length).2.2)
 else if (rowK ts b ts.length).2.1<b.length then ([],12)
 else ((rowK ts b ts.length).1,0)
theorem oO {s:List Int × Nat × Nat}(h:s.2.2≠0):fR b t s=s:=by unfold fR;rw[if_pos h]
theorem mY (h:zagE (b.drop i)=0):fR b 1 (l,i,0)=(l ++ [zagV (b.drop i)],i+zagS (b.drop i),0):=by simp[fR,h]
theorem mZ (h:zagE (b.drop i)≠0):fR b 1 (l,i,0)=(l,i,zagE (b.drop i)):=by simp[fR,h]
theorem m0 (ht:t≠1)(h:b.length<=i):fR b t (l,i,0)=(l,i,10):=by simp[fR,ht,h]
theorem m9 (ht:t≠1)(h:i<b.length)(h2:1<bC b i):fR b t (l,i,0)=(l,i,11):=by simp[fR,ht,h2,Nat.not_le.2 h]
theorem ne (ht:t≠1)(h:i<b.length)(h2:bC b i<=1):fR b t (l,i,0)=(l ++ [(bC b i:Int)],i+1,0):=by
 simp[fR,ht,Nat.not_le.2 h,Nat.not_lt.2 h2]
theorem rdK_bad (hk:k<=n)(h:(rowK ts b k).2.2≠0):rowK ts b n=rowK ts b k:=by
 induction n with
 | zero=>rw[show k=0 from by omega]
 | succ n ih=>
   by_cases e:k=n+1
   · rw[e]
   · have:=ih aS
     show fR b _ (rowK ts b n)=_
     rw[this,oO h]
theorem rdK_inv (ts:List Int)(b:List UInt8)(k:Nat):(rowK ts b k).2.1<=b.length/\(rowK ts b k).1.length<=k/\(rowK ts b k).2.2<=11/\((rowK ts b k).2.2=0 ->
 (rowK ts b k).1.length=k/\(∀ i,i<k->ba ts i=1\/ba ts i=2) ->
  rowB ts (rowK ts b k).1 k=b.take (rowK ts b k).2.1/\(∀ i,i<k->ba ts i=2->ba (rowK ts b k).1 i=0\/ba (rowK ts b k).1 i=1) /\
  (∀ i,i<k->-9223372036854775808<=ba (rowK ts b k).1 i/\ba (rowK ts b k).1 i<=9223372036854775807))/\((rowK ts b k).2.2=0->(rowK ts b k).1.length=k):=by
 induction k with
 | zero=>simp[rowK,rowB]
 | succ k ih=>
   rw[show rowK ts b (k+1)=fR b (ba ts k) (rowK ts b k) from rfl];generalize rowK ts b k=s at *;obtain⟨l,i,e⟩:=s;obtain⟨i1,i2,i3,i4,i5⟩:=ih;simp only at i1 i2 i3 i4 i5
   by_cases he:e=0
   · subst he;have hl:=i5 rfl;have hat:∀ (v:Int) (j:Nat),j<k->ba (l ++ [v]) j=ba l j:=fun v j hj=>by
      unfold ba;rw[ag,aQ aS,ag]
     have hat2:∀ v:Int,ba (l ++ [v]) k=v:=fun v=>by
      unfold ba;rw[ag,aL aS];simp[hl]
     by_cases ht:ba ts k=1
     · rw[ht]
       by_cases hz:zagE (b.drop i)=0
       · rw[mY hz];obtain⟨z1,z2,z3⟩:=zag_ed hz;have hzs:=zagS_le (b.drop i);rw[aG] at hzs;generalize zagV (b.drop i)=v at *;generalize zagS (b.drop i)=sz at *;refine⟨by simp only;omega,by simp[hl],by simp,fun _ hh=>?_,fun _=>by simp[hl]⟩;obtain⟨j1,j2,j3⟩:=i4 rfl ⟨hl,fun j hj=>hh.2 j aS⟩;refine⟨?_,fun j hj h2=>?_,fun j hj=>?_⟩
         · show rowB ts (l ++ [v]) k ++ piece (ba ts k) (ba (l ++ [v]) k)=_
           rw[oN ts (hat v),j1,hat2,ht];unfold piece;rw[if_neg aS,z1,List.take_add]
         · simp only
           by_cases hjk:j=k
           · subst hjk;omega
           · rw[hat v j aS];exact j2 j aS h2
         · simp only
           by_cases hjk:j=k
           · subst hjk;rw[hat2];omega
           · rw[hat v j aS];exact j3 j aS
       · rw[mZ hz];have:=zagE_cases (b.drop i);refine⟨i1,by simp only;omega,by simp only;omega,fun h=>absurd h hz,fun h=>absurd h hz⟩
     · by_cases h1:b.length<=i
       · rw[m0 ht h1];exact⟨i1,by simp only;omega,by simp,fun h=>by simp at h,fun h=>by simp at h⟩
       · by_cases h2:1<bC b i
         · rw[m9 ht aS h2];exact⟨i1,by simp only;omega,by simp,fun h=>by simp at h,fun h=>by simp at h⟩
         · rw[ne ht aS aS];refine⟨by simp only;omega,by simp[hl],by simp,fun _ hh=>?_,fun _=>by simp[hl]⟩;obtain⟨j1,j2,j3⟩:=i4 rfl ⟨hl,fun j hj=>hh.2 j aS⟩;have ht2:ba ts k=2:=by have:=hh.2 k aS;omega
           refine⟨?_,fun j hj h2=>?_,fun j hj=>?_⟩
           · show rowB ts (l ++ [_]) k ++ piece (ba ts k) (ba (l ++ [_]) k)=_
             rw[oN ts (hat _),j1,hat2,ht2];unfold piece;rw[if_pos rfl,List.take_add,aR aS];simp only[List.take_succ_cons,List.take_zero,av]
             congr 2
             unfold bC;simp[ag,Nat.not_le.1 h1]
           · simp only
             by_cases hjk:j=k
             · subst hjk;rw[hat2];omega
             · rw[hat _ j aS];exact j2 j aS h2
           · simp only
             by_cases hjk:j=k
             · subst hjk;rw[hat2];omega
             · rw[hat _ j aS];exact j3 j aS
   · rw[oO (by simpa using he)];exact⟨i1,by simp only;omega,i3,fun h=>absurd h he,fun h=>absurd h he⟩
theorem rdK_rowB (hts:∀ i,i<n->ba ts i=1\/ba ts i=2)(hl:l.length=n)(hfit:∀ i,i<n->ba ts i=2->ba l i=0\/ba l i=1)
 (hb:∀ i,i<n->-9223372036854775808<=ba l i/\ba l i<=9223372036854775807):∀ k,k<=n->rowK ts (rowB ts l n) k=(l.take k,(rowB ts l k).length,0):=by
 intro k
 induction k with
 | zero=>intro _;simp[rowK,rowB]
 | succ k ih=>
   intro hk;rw[show rowK ts (rowB ts l n) (k+1)=fR (rowB ts l n) (ba ts k) (rowK ts (rowB ts l n) k) from rfl,ih aS];obtain⟨more,hm⟩:=rowB_split ts l (k+1) n hk;rw[hm,show rowB ts l (k+1)=rowB ts l k ++ piece (ba ts k) (ba l k) from rfl,aN];have htk:l.take (k+1)=l.take k ++ [ba l k]:=by
    rw[aO aS];unfold ba;simp[ag,show k<l.length from by omega]
   have hd:(rowB ts l k ++ (piece (ba ts k) (ba l k) ++ more)).drop (rowB ts l k).length=piece (ba ts k) (ba l k) ++ more:=by rw[List.drop_left]
   rw[htk,az];rcases hts k aS with h | h
   · rw[h] at hd ⊢;have hp:piece 1 (ba l k)=digL 9 (zz (ba l k)):=by unfold piece;rw[if_neg aS]
     rw[hp] at hd ⊢;obtain⟨z1,z2,z3⟩:=zag_dig (hb k aS).1 (hb k aS).2 more;rw[mY (by rw[hd];exact z1),hd,z2,z3]
   · have hf:=hfit k aS h;rw[h] at hd ⊢;have hp:piece 2 (ba l k)=[UInt8.ofNat (ba l k).toNat]:=by unfold piece;rw[if_pos rfl]
     rw[hp] at hd ⊢;have hby:bC (rowB ts l k ++ ([UInt8.ofNat (ba l k).toNat] ++ more)) (rowB ts l k).length=(ba l k).toNat:=by
      unfold bC;rw[ag,aL aS];simp;rcases hf with e | e <;> rw[e] <;> decide
     rw[ne aS bj (by rw[hby];omega),hby];simp;omega
theorem readR_rowB (hf:cx ts l=true)(hb:∀ i,i<l.length->-9223372036854775808<=ba l i/\ba l i<=9223372036854775807):eK ts (rowB ts l ts.length)=(l,0):=by
 obtain⟨h1,h2,h3⟩:=js.1 hf;have h4:=fD.1 h1;have:=rdK_rowB h4.1 h2 h3 (by rw[<- h2];exact hb) ts.length aV;unfold eK;rw[if_neg (by simp[h1]),this];simp;exact au aS
theorem readR_back (h:(eK ts b).2=0):cx ts (eK ts b).1=true/\rowB ts (eK ts b).1 ts.length=b /\
 (∀ i,i<(eK ts b).1.length->-9223372036854775808<=ba (eK ts b).1 i/\ba (eK ts b).1 i<=9223372036854775807):=by
 have hi:=rdK_inv ts b ts.length;unfold eK at h ⊢
 by_cases h1:db ts=false
 · rw[if_pos h1] at h;simp at h
 · rw[if_neg h1] at h ⊢
   by_cases h2:(rowK ts b ts.length).2.2≠0
   · rw[if_pos h2] at h;exact absurd h h2
   · rw[if_neg h2] at h ⊢
     by_cases h3:(rowK ts b ts.length).2.1<b.length
     · rw[if_pos h3] at h;simp at h
     · rw[if_neg h3];have hr:=fD.1 (by simpa using h1);have hlen:=hi.2.2.2.2 (by simpa using h2);obtain⟨j1,j2,j3⟩:=hi.2.2.2.1 (by simpa using h2) ⟨hlen,hr.1⟩;refine⟨js.2 ⟨by simpa using h1,hlen,j2⟩,?_,fun i hi=>j3 i (by simp only at hi;omega)⟩;simp only;rw[j1,au aS]
