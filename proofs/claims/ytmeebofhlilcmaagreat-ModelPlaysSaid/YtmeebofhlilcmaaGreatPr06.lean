/- Parts. -/
import Derived.Test.YtmeebofhlilcmaaGreatPr01
import Derived.Deep.WholeRow
set_option linter.unusedVariables false
set_option linter.unusedSimpArgs false
set_option maxRecDepth 100000
set_option maxHeartbeats 0
namespace Go.Proofs.YtmeebofhlilcmaaGreat
variable {c y9:Nat} {w w':World} {A:Option Addr} {b K:List UInt8} {kind N:Int}
open Go.RowKit
def kR (x:Nat):Nat:=if x % 2=1 then (x / 2) ^^^ 3988292384 else x / 2
def jW:Nat->Nat->Nat
 | 0,x=>x
 | k+1,x=>jW k (kR x)
def jH (c b:Nat):Nat:=jW 8 (c ^^^ b)
def jf (c:Nat)(l:List UInt8):Nat:=l.foldl (fun c b=>jH c b.toNat) c
def jg (s:Nat)(l:List UInt8):Nat:=4294967295 - jf (4294967295 - s) l
def fv (ls:List (List UInt8)):Nat:=ls.foldl jg 0
theorem me {a b:Nat}(ha:a<4294967296)(hb:b<4294967296):a ^^^ b<4294967296:=Nat.xor_lt_two_pow (n:=32) ha hb
theorem crcBit_lt {x:Nat}(h:x<4294967296):kR x<4294967296:=by
 unfold kR;split
 · exact me (by omega) (by omega)
 · omega
theorem crcBits_lt (k:Nat):∀ {x:Nat},x<4294967296->jW k x<4294967296:=by
 induction k with
 | zero=>intro x h;exact h
 | succ k ih=>intro x h;exact ih (crcBit_lt h)
theorem crcStep_lt {b:Nat}(hc:c<4294967296)(hb:b<256):jH c b<4294967296:=crcBits_lt 8 (me hc (by omega))
theorem pz (s:Nat)(l:List UInt8):jg s l<4294967296:=by unfold jg;omega
theorem crcFold_snoc (c:Nat)(a:List UInt8)(x:UInt8):jf c (a ++ [x])=jH (jf c a) x.toNat:=by simp[jf]
theorem crcSum_take (ls:List (List UInt8))(k:Nat)(h:k<ls.length):fv (ls.take (k+1))=jg (fv (ls.take k)) (ls.getD k []):=by
 unfold fv;rw[aO h,List.foldl_append,ah,ap h];rfl
theorem nM (ls:List (List UInt8)):fv ls<4294967296:=by
 rcases List.eq_nil_or_concat ls with rfl | ⟨l,x,rfl⟩
 · decide
 · have:fv (l ++ [x])=jg (fv l) x:=by simp[fv]
   simp only[List.concat_eq_append,this];exact pz _ _
theorem IntKind.wrap_u32' (n:Int):IntKind.u32.wrap n=n % 4294967296:=by simp[IntKind.wrap,IntKind.bits,IntKind.signed]
theorem ly (a:Nat)(ha:a<4294967296):(BitVec.ofInt 32 (a:Int)).toNat=a:=by
 rw[BitVec.ofInt_natCast,BitVec.toNat_ofNat];exact Nat.mod_eq_of_lt (by omega)
theorem u32_xor (a b:Nat)(ha:a<4294967296)(hb:b<4294967296):bits .xor .u32 (a:Int) (b:Int)=((a ^^^ b:Nat):Int):=by
 have hx:=me ha hb
 show IntKind.u32.wrap ((BitVec.ofInt 32 (a:Int) ^^^ BitVec.ofInt 32 (b:Int)).toNat:Int)=_
 rw[BitVec.toNat_xor,ly a ha,ly b hb,IntKind.wrap_u32'];omega
theorem u32_and_one (a:Nat)(ha:a<4294967296):bits .and .u32 (a:Int) 1=((a % 2:Nat):Int):=by
 show IntKind.u32.wrap ((BitVec.ofInt 32 (a:Int) &&& BitVec.ofInt 32 ((1:Nat):Int)).toNat:Int)=_
 rw[BitVec.toNat_and,ly a ha,ly 1 (by omega),IntKind.wrap_u32',Nat.and_one_is_mod];omega
theorem u32_turn (x:Nat)(hx:x<4294967296):bits .xor .u32 ((x:Int) / 2) 3988292384=((x / 2 ^^^ 3988292384:Nat):Int):=by
 have:=u32_xor (x / 2) 3988292384 (by omega) (by omega);rw[<- this];rfl
theorem u32_not (s:Nat)(hs:s<4294967296):bits .xor .u32 IntKind.u32.max (s:Int)=((4294967295 - s:Nat):Int):=by
 show IntKind.u32.wrap ((BitVec.ofInt 32 IntKind.u32.max ^^^ BitVec.ofInt 32 (s:Int)).toNat:Int)=_
 have h1:BitVec.ofInt 32 IntKind.u32.max=BitVec.allOnes 32:=by decide
 rw[h1,BitVec.allOnes_xor,BitVec.toNat_not,ly s hs,IntKind.wrap_u32'];omega
theorem step_any (c b:Nat)(w:World)(hc:c<4294967296)(hb:b<256) :
 Ca 316 #[.int .u32 c,.int .u8 b] w fun e w'=>e=.returned (.int .u32 (jH c b))/\w=w':=by
 have hx:=u32_xor c b hc (by omega);have hlt:c ^^^ b<4294967296:=me hc (by omega);have hd:jH c b=jW 8 (c ^^^ b):=rfl;generalize hz:jH c b=z at *;generalize hy:c ^^^ b=y at *;have Hd:=Lib.hid hd;clear hd hz hy;go_enter Tryz.func316,Tryz.ntmps316;go_wp2;go_loop [0,9] (fun c i=>∃ k:Nat,∃ x:Nat,k<=8/\x<4294967296/\Hid (z=jW (8 - k) x)/\i=I k/\c=.int .u32 x) (fun _ i=>8 - (intOf i).toNat)
 case atStart=>exact⟨0,y,Nat.zero_le _,hlt,Hd,rfl,rfl⟩
 case round=>
  obtain⟨k,x,hk,hx,HX,rfl,rfl⟩:=hrel;have ha:=u32_and_one x hx;have ht:=u32_turn x hx;have hb:=@crcBit_lt x hx
  by_cases hlt:k<8
  · have HB:Hid (jW (8 - k) x=jW (8 - (k+1)) (kR x)):=by rw[show 8 - k=(8 - (k+1))+1 from by omega];rfl
    by_cases h1:x % 2=1
    · have HC:Hid (kR x=x / 2 ^^^ 3988292384):=if_pos h1;have h2:(((x % 2:Nat):Int) == 1)=true:=by rw[beq_iff_eq];omega
      clear h1;go_wp2;go_round
      case rel=>exact⟨k+1,_,by omega,hb,HX.out.trans HB.out,by go_num,by rw[HC.out]⟩
      case measure=>simp[intOf];omega
    · have HC:Hid (kR x=x / 2):=if_neg h1;have h2:(((x % 2:Nat):Int) == 1)=false:=by rw[af];omega
      clear h1;go_wp2;go_round
      case rel=>exact⟨k+1,_,by omega,hb,HX.out.trans HB.out,by go_num,by rw[HC.out];rfl⟩
      case measure=>simp[intOf];omega
  · go_wp2;go_ret;refine⟨?_,rfl⟩;have e:8 - k=0:=by omega
    rw[HX.out,e];rfl
theorem crcFold_take (c:Nat)(l:List UInt8)(k:Nat)(h:k<l.length):jf c (l.take (k+1))=jH (jf c (l.take k)) (bx l k):=by
 rw[mY l k h,crcFold_snoc];rfl
theorem more_any (s:Nat)(a:Option Addr)(n c:Nat)(l:List UInt8)(w:World)(hs:s<4294967296)(hl:RB w a n l)(hn:n<=maxLen) :
 Ca 294 #[.int .u32 s,.slice a n c] w fun e w'=>e=.returned (.int .u32 (jg s l))/\w=w':=by
 unfold maxLen at hn;have hd:jg s l=4294967295 - jf (4294967295 - s) l:=rfl;have hlen:=hl.1;generalize hz:jg s l=z at *;have HL:=Lib.hid hlen;clear hlen;have Hd:=Lib.hid hd;clear hd hz;have hsg:IntKind.u32.signed=false:=rfl;have hnot:=u32_not s hs;go_enter Tryz.func294,Tryz.ntmps294;go_wp2;go_loop [5,12] (fun c i=>∃ k:Nat,∃ x:Nat,k<=n/\x<4294967296/\Hid (x=jf (4294967295 - s) (l.take k))/\i=I k/\c=.int .u32 x) (fun _ i=>n - (intOf i).toNat)
 case atStart=>exact⟨0,4294967295 - s,Nat.zero_le _,by omega,rfl,rfl,rfl⟩
 case round=>
  obtain⟨k,x,hk,hx,HX,rfl,rfl⟩:=hrel;clear hnot
  by_cases hlt:k<n
  · have HF:Hid (jf (4294967295 - s) (l.take (k+1))=jH x (bx l k)):=by rw[HX.out];exact crcFold_take _ _ _ (by rw[HL.out];exact hlt)
    obtain⟨b,o,rfl,hb,hc⟩:=hl.at_ hlt;have h8:=ij l k;have hy:=crcStep_lt hx h8;go_wp2_with (go_at_call 316;(with_reducible refine (step_any _ _ _ hx h8).mono ?_);rintro e w' ⟨rfl,rfl⟩);go_round
    case rel=>exact⟨k+1,_,by omega,hy,HF.out.symm,by go_num,rfl⟩
    case measure=>simp[intOf];omega
  · have hnot:=u32_not x hx;go_wp2;go_ret;exact⟨kE (by rw[Hd.out,HX.out,au (by rw[HL.out];omega)]),rfl⟩
def RBs (w:World)(a:Option Addr)(n:Nat)(ls:List (List UInt8)):Prop :=
 ls.length=n/\∃ V:Nat->Option Addr × Nat × Nat,Row w a ls.length (fun i=>.slice (V i).1 (V i).2.1 (V i).2.2)/\∀ i,i<ls.length->RB w (V i).1 (V i).2.1 (ls.getD i [])/\(V i).2.1<=maxLen
theorem sum_any (a:Option Addr)(n c:Nat)(ls:List (List UInt8))(w:World)(hl:RBs w a n ls)(hm:n<=maxLen) :
 Ca 256 #[.slice a n c] w fun e w'=>e=.returned (.int .u32 (fv ls))/\w=w':=by
 unfold maxLen at hm;obtain⟨hn,V,hrow,hV⟩:=hl;generalize hz:fv ls=z at *;have Hn:=Lib.hid hn;rw[hn] at hrow;clear hn;have Hz:=Lib.hid hz;clear hz;go_enter Tryz.func256,Tryz.ntmps256;go_wp2;go_loop [3,8] (fun c i=>∃ k:Nat,∃ x:Nat,k<=n/\x<4294967296/\Hid (x=fv (ls.take k))/\i=I k/\c=.int .u32 x) (fun _ i=>n - (intOf i).toNat)
 case atStart=>exact⟨0,0,Nat.zero_le _,by omega,rfl,rfl,rfl⟩
 case round=>
  obtain⟨k,x,hk,hx,HX,rfl,rfl⟩:=hrel
  by_cases hlt:k<n
  · have HF:Hid (fv (ls.take (k+1))=jg x (ls.getD k [])):=by rw[HX.out];exact crcSum_take _ _ (by rw[Hn.out];exact hlt)
    obtain⟨b,o,rfl,hb,hc⟩:=hrow.at_ hlt;obtain⟨hr,hm2⟩:=hV k (by rw[Hn.out];exact hlt);have hy:=pz x (ls.getD k []);generalize ls.getD k []=lk at *;go_wp2_with (go_at_call 294;(with_reducible refine (more_any _ _ _ _ lk _ hx hr hm2).mono ?_);rintro e w' ⟨rfl,rfl⟩);go_round
    case rel=>exact⟨k+1,_,by omega,hy,HF.out.symm,by go_num,rfl⟩
    case measure=>simp[intOf];omega
  · go_wp2;go_ret;exact⟨kE (by rw[HX.out,<- Hz.out,au (by rw[Hn.out];omega)]),rfl⟩
theorem RBs.one {g:Nat}{t:TypeId}{fr:Nat × Nat}{n:Nat}{l:List UInt8}(hg:w.heap[g]?=some (.cells #[.slice A n c] t fr))(h:RB w A n l)(hn:n<=maxLen) :
 RBs w (some ⟨g,0,none⟩) 1 [l] :=
 ⟨rfl,fun _=>(A,n,c),Row.of_block hg 0 (fun i hi=>by
  have:i=0:=by simp at hi;exact hi
  subst this;rfl),fun i hi=>by
  have:i=0:=by simp at hi;exact hi
  subst this;exact⟨h,hn⟩⟩
def bw:List UInt8:=List.replicate 128 0
theorem dI:bw.length=128:=by simp[bw]
def le4 (s:Nat):List UInt8:=tabB 4 (fun i=>s / 256 ^ i % 256)
theorem gV (s:Nat):(le4 s).length=4:=by simp[le4,lq]
def fU (kind n:Nat)(load:List UInt8):List UInt8 :=
 UInt8.ofNat kind :: (putL n ++ (UInt8.ofNat load.length :: (load ++ List.replicate (113 - load.length) 0)))
def bU (kind n:Nat)(load:List UInt8):List UInt8:=fU kind n load ++ (le4 (fv [fU kind n load]) ++ [215])
theorem mf (kind n:Nat)(load:List UInt8)(h:load.length<=113):(fU kind n load).length=123:=by
 simp[fU,iS];omega
theorem jh (kind n:Nat)(load:List UInt8)(h:load.length<=113):(bU kind n load).length=128:=by
 simp[bU,mf kind n load h,gV]
theorem sealL_first (kind n:Nat)(load:List UInt8)(h:kind<256):bx (bU kind n load) 0=kind:=by
 simp only[bU,fU,bx,List.cons_append,List.getD_cons_zero];exact UInt8.toNat_ofNat_of_lt' lW
theorem sealL_last (kind n:Nat)(load:List UInt8)(h:load.length<=113):bx (bU kind n load) 127=215:=by
 have h1:=mf kind n load h;simp only[bU,bx,ah];rw[aM aS,aM (by rw[gV];omega),h1,gV]
 rfl
theorem pA (kind n:Nat)(load:List UInt8)(h:load.length<=113):bx (bU kind n load) 9=load.length:=by
 have h0:=iS n;simp only[bU,fU,bx,List.cons_append,ah,aN];rw[List.getElem?_cons_succ,aM aS,h0];simp only[Nat.sub_self,List.getElem?_cons_zero,Option.getD_some];exact UInt8.toNat_ofNat_of_lt' lW
theorem sealL_num (kind n:Nat)(load:List UInt8):((bU kind n load).drop 1).take 8=putL n:=by
 have h0:=iS n;simp only[bU,fU,List.cons_append,List.drop_succ_cons,aG,aN];rw[List.take_append_of_le_length aS,au aS]
theorem sealL_load (kind n:Nat)(load:List UInt8):((bU kind n load).drop 10).take load.length=load:=by
 have h0:=iS n;simp only[bU,fU,List.cons_append,aN];rw[show 10=9+1 from rfl,List.drop_succ_cons,show 9=(putL n).length+1 from by omega,List.drop_append,aP aS,List.nil_append,show (putL n).length+1 - (putL n).length=1 from by omega,List.drop_succ_cons,aG,List.take_append_of_le_length aS,au aS]
def ef (b:List UInt8):Nat:=getL ((b.drop 1).take 8)
def fe (b:List UInt8):List UInt8:=(b.drop 10).take (bx b 9)
def eV (b:List UInt8)(kind:Int):Bool :=
 decide (1<=kind) && decide (kind<=255) && decide (ef b<9223372036854775808) && decide (bx b 9<=113) && decide (bU kind.toNat (ef b) (fe b)=b)
theorem pC (b:List UInt8):ef b<18446744073709551616:=by
 unfold ef;have h1:=lY ((b.drop 1).take 8);have h2:((b.drop 1).take 8).length<=8:=List.length_take_le _ _;have h3:256 ^ ((b.drop 1).take 8).length<=256 ^ 8:=Nat.pow_le_pow_right aS h2;omega
theorem pD (h:b.length=128)(h9:bx b 9<=113):(fe b).length=bx b 9:=by
 simp[fe,h];omega
theorem nN (h:eV b kind=true):1<=kind/\kind<=255/\ef b<9223372036854775808/\bx b 9<=113/\bU kind.toNat (ef b) (fe b)=b:=by
 simpa [eV,and_assoc] using h
theorem opens_mk (h1:1<=kind)(h2:kind<=255)(h3:ef b<9223372036854775808)(h4:bx b 9<=113)(h5:bU kind.toNat (ef b) (fe b)=b):eV b kind=true:=by
 simp[eV,h1,h2,h3,h4,h5]
theorem nO {n:Nat}{load:List UInt8}(h1:1<=kind)(h2:kind<=255)(h3:n<9223372036854775808)(h4:load.length<=113) :
 eV (bU kind.toNat n load) kind=true/\ef (bU kind.toNat n load)=n/\fe (bU kind.toNat n load)=load:=by
 have e1:ef (bU kind.toNat n load)=n:=by unfold ef;rw[sealL_num,ny _ aS]
 have e2:fe (bU kind.toNat n load)=load:=by unfold fe;rw[pA _ _ _ h4,sealL_load]
 exact⟨opens_mk h1 h2 (by rw[e1];exact h3) (by rw[pA _ _ _ h4];exact h4) (by rw[e1,e2]),e1,e2⟩
theorem mh (h:eV b kind=true):(bx b 0:Int)=kind/\bx b 127=215/\b.length=128:=by
 obtain⟨h1,h2,h3,h4,h5⟩:=nN h
 by_cases hl:(fe b).length<=113
 · rw[<- h5,sealL_first _ _ _ aS,sealL_last _ _ _ hl,jh _ _ _ hl];omega
 · have:=List.length_take_le (bx b 9) (b.drop 10);unfold fe at hl;omega
theorem nP {α:Type}(a b c k:List α)(h:b.length=k.length):splice (a ++ (b ++ c)) a.length k=a ++ (k ++ c):=by
 unfold splice;rw[List.take_left',List.drop_append,aP aS,List.nil_append,show a.length+k.length - a.length=b.length from by omega,List.drop_left']
 · rfl
 · rfl
theorem seal_L3 (a b:UInt8)(p l:List UInt8)(hp:p.length=8)(hl:l.length<=113) :
 splice (splice (((bw.set 0 a).set 9 b).set 127 215) 1 p) 10 l=[a] ++ (p ++ ([b] ++ (l ++ (List.replicate (117 - l.length) 0 ++ [215])))):=by
 have e1:(((bw.set 0 a).set 9 b).set 127 215)=[a] ++ (List.replicate 8 0 ++ ([b] ++ (List.replicate 117 0 ++ [215]))):=rfl;have e2:splice ([a] ++ (List.replicate 8 0 ++ ([b] ++ (List.replicate 117 0 ++ [215])))) 1 p=[a] ++ (p ++ ([b] ++ (List.replicate 117 0 ++ [215]))) :=
  nP [a] (List.replicate 8 0) _ p (by rw[hp];simp)
 have e3:List.replicate 117 (0:UInt8)=List.replicate l.length 0 ++ List.replicate (117 - l.length) 0:=by rw[List.replicate_append_replicate];congr 1;omega
 rw[e1,e2,e3];have e4:[a] ++ (p ++ ([b] ++ (List.replicate l.length 0 ++ List.replicate (117 - l.length) 0 ++ [215])))=([a] ++ (p ++ [b])) ++ (List.replicate l.length 0 ++ (List.replicate (117 - l.length) 0 ++ [215])):=by simp only[aN]
 rw[e4];have:=nP ([a] ++ (p ++ [b])) (List.replicate l.length 0) (List.replicate (117 - l.length) 0 ++ [215]) l aZ;rw[show ([a] ++ (p ++ [b])).length=10 from by simp[hp]] at this;rw[this];simp only[aN]
theorem seal_L3_body (kind n:Nat)(l:List UInt8)(hl:l.length<=113) :
 ([UInt8.ofNat kind] ++ (putL n ++ ([UInt8.ofNat l.length] ++ (l ++ (List.replicate (117 - l.length) 0 ++ [215])))))=fU kind n l ++ ([0,0,0,0] ++ [215]):=by
 have e3:List.replicate (117 - l.length) (0:UInt8)=List.replicate (113 - l.length) 0 ++ [0,0,0,0]:=by
  have h4:([0,0,0,0]:List UInt8)=List.replicate 4 0:=rfl;rw[h4,List.replicate_append_replicate];congr 1;omega
 rw[e3];simp[fU]
theorem seal_L3_take (kind n:Nat)(l:List UInt8)(hl:l.length<=113):(fU kind n l ++ ([0,0,0,0] ++ [215])).take 123=fU kind n l:=by
 have h:=mf kind n l hl;rw[List.take_append_of_le_length aS,au aS]
theorem seal_L4 (kind n:Nat)(l:List UInt8)(hl:l.length<=113):splice (fU kind n l ++ ([0,0,0,0] ++ [215])) 123 (le4 (fv [fU kind n l]))=bU kind n l:=by
 have h:=mf kind n l hl;have:=nP (fU kind n l) [0,0,0,0] [215] (le4 (fv [fU kind n l])) (by rw[gV];rfl);rw[h] at this;rw[this];rfl
theorem dy:(Tryz.prog.info? 205).map (fun i=>(i.zero,i.size))=some (some (aggB bw),128):=by kernel_rfl
def KindOut (kind n:Int):Prop:=kind<1\/(1<=kind/\255<kind)\/(1<=kind/\kind<=255/\n<0)
theorem make_arg (kind n:Int)(A:Option Addr)(m c:Nat)(w:World)(h:kind<1\/255<kind\/n<0) :
 Ca 199 #[I kind,I n,.slice A m c] w fun e w'=>e=.returned (.tuple #[aggB bw,I 2])/\Below w.heap.size w w':=by
 have h':KindOut kind n:=by unfold KindOut;omega
 clear h;have hz:=(zero_of_info dy).1;have hi:=(zero_of_info dy).2;have hl:(bw.map bv).length=128:=by simp[dI]
 have h1:=ew (l:=bw);unfold aggB at *;generalize bw.map bv=Z at *;have Hl:=aT hl;have Hi:=aT hi;have H1:=aT h1;clear hl hi h1;rcases h' with h | ⟨h2,h⟩ | ⟨h2,h3,h⟩
 all_goals
  go_enter Tryz.func199,Tryz.ntmps199;go_wp2_with (first | (refine fi rfl (x:=.tmp 8) rfl rfl (t:=205) (cs:=Z) bI Tryz.underlying205 Hi.out Hl.out (xs:=Z) (by rw[aG,au jO]) ?_) | (refine eu rfl (x:=.tmp 6) (y:=.tmp 21) rfl rfl rfl (t:=205) (cs:=Z) bI Hi.out Hl.out jO H1.out ?_;intro w1 hb1 hg1 hs1));refine bodyPost_ret (v:=.tuple #[.agg Z.toArray,I 2]) (jN Tryz.results199 _ rfl rfl (by rw[dS _ _ rfl] at hb1;exact hb1) Tryz.underlying205 Hi.out Hl.out) rfl ?_;exact⟨rfl,et bc hg1 br aW⟩
theorem make_limit (kind n:Int)(A:Option Addr)(m c:Nat)(w:World)(h1:1<=kind)(h2:kind<=255)(h3:0<=n)(h4:113<m)(hm:m<=maxLen) :
 Ca 199 #[I kind,I n,.slice A m c] w fun e w'=>e=.returned (.tuple #[aggB bw,I 3])/\Below w.heap.size w w':=by
 unfold maxLen at hm;have hz:=(zero_of_info dy).1;have hi:=(zero_of_info dy).2;have hl:(bw.map bv).length=128:=by simp[dI]
 have h1:=ew (l:=bw);unfold aggB at *;generalize bw.map bv=Z at *;have Hl:=aT hl;have Hi:=aT hi;have H1:=aT h1;clear hl hi h1;go_enter Tryz.func199,Tryz.ntmps199;go_wp2_with (first | (refine fi rfl (x:=.tmp 8) rfl rfl (t:=205) (cs:=Z) bI Tryz.underlying205 Hi.out Hl.out (xs:=Z) (by rw[aG,au jO]) ?_) | (refine eu rfl (x:=.tmp 6) (y:=.tmp 26) rfl rfl rfl (t:=205) (cs:=Z) bI Hi.out Hl.out jO H1.out ?_;intro w1 hb1 hg1 hs1));refine bodyPost_ret (v:=.tuple #[.agg Z.toArray,I 3]) (jN Tryz.results199 _ rfl rfl (by rw[dS _ _ rfl] at hb1;exact hb1) Tryz.underlying205 Hi.out Hl.out) rfl ?_;exact⟨rfl,et bc hg1 br aW⟩
theorem le4_cells (s:Nat)(hs:s<4294967296):(le4 s).map bv=[.int .u8 ((s:Int) % 256),.int .u8 ((s:Int) / 256 % 256),.int .u8 ((s:Int) / 65536 % 256),.int .u8 ((s:Int) / 16777216)]:=by
 have e:∀ v:Nat,v<256->bv (UInt8.ofNat v)=.int .u8 (v:Int):=fun v hv=>jB hv
 show [bv (UInt8.ofNat (s / 256 ^ 0 % 256)),bv (UInt8.ofNat (s / 256 ^ 1 % 256)),bv (UInt8.ofNat (s / 256 ^ 2 % 256)),bv (UInt8.ofNat (s / 256 ^ 3 % 256))]=_
 rw[e _ aS,e _ aS,e _ aS,e _ aS];have h0:((s / 256 ^ 0 % 256:Nat):Int)=(s:Int) % 256:=aS;have h1:((s / 256 ^ 1 % 256:Nat):Int)=(s:Int) / 256 % 256:=aS;have h2:((s / 256 ^ 2 % 256:Nat):Int)=(s:Int) / 65536 % 256:=aS;have h3:((s / 256 ^ 3 % 256:Nat):Int)=(s:Int) / 16777216:=aS;rw[h0,h1,h2,h3]
theorem lz (s:Nat)(w:World)(hs:s<4294967296):Ca 255 #[.int .u32 s] w fun e w'=>e=.returned (aggB (le4 s))/\Below w.heap.size w w':=by
 have H:=aT (le4_cells s hs);go_enter Tryz.func255,Tryz.ntmps255;go_wp2;refine bodyPost_ret (v:=.agg #[.int .u8 ((s:Int) % 256),.int .u8 ((s:Int) / 256 % 256),.int .u8 ((s:Int) / 65536 % 256),.int .u8 ((s:Int) / 16777216)]) (by simp[results,Tryz.results255,go_sem]) rfl ?_;refine⟨?_,bc⟩;unfold aggB;rw[H.out]
theorem size4:(Tryz.prog.info? 358).map (·.size)=some 4:=by kernel_rfl
theorem make_ok (kind n:Int)(A:Option Addr)(m c:Nat)(l:List UInt8)(w:World)(h1:1<=kind)(h2:kind<=255)(h3:0<=n)(h4:m<=113)(hl:RB w A m l) :
 Ca 199 #[I kind,I n,.slice A m c] w fun e w'=>e=.returned (.tuple #[aggB (bU kind.toNat (un n) l),I 0])/\Below w.heap.size w w':=by
 have hz:=(zero_of_info dy).1;have hi:=(zero_of_info dy).2;have hlz:(bw.map bv).length=128:=by simp[dI]
 have h1:=ew (l:=bw);have c0:(bw.map bv)[0]?=some (.int .u8 0):=rfl;have c9:(bw.map bv)[9]?=some (.int .u8 0):=rfl;have c127:(bw.map bv)[127]?=some (.int .u8 0):=rfl;generalize hR:aggB (bU kind.toNat (un n) l)=R;have HR:=aT hR;clear hR;unfold aggB at *;generalize hZ:bw.map bv=Z at *;have HZ:=aT hZ.symm;clear hZ;have Hl:=aT hlz;have Hi:=aT hi;have H1:=aT h1;clear hlz hi h1;obtain⟨L1,hL1⟩:∃ L1:List UInt8,L1=((bw.set 0 (UInt8.ofNat kind.toNat)).set 9 (UInt8.ofNat m)).set 127 215:=⟨_,rfl⟩;have hZ1:Hid (((Z.set 0 (.int .u8 kind)).set 9 (.int .u8 (m:Int))).set 127 (.int .u8 215)=L1.map bv):=by
  show _=_
  rw[hL1,HZ.out,List.map_set,List.map_set,List.map_set]
  congr 2
  · congr 1
    rw[jB aS];congr 1;omega
  · rw[jB aS]
 have hlen1:Hid (L1.length=128):=by show _=_;rw[hL1];simp[dI]
 obtain⟨L2,hL2'⟩:∃ L2:List UInt8,L2=splice L1 1 (putL (un n)):=⟨_,rfl⟩;have hL2:Hid (splice L1 1 ((putL (un n)).take 8)=L2):=by show _=_;rw[hL2',au (by rw[iS];omega)]
 have hlen2:Hid (L2.length=128):=by show _=_;rw[hL2',length_splice _ _ _ (by rw[iS,hlen1.out];omega),hlen1.out]
 obtain⟨L3,hL3'⟩:∃ L3:List UInt8,L3=splice L2 10 l:=⟨_,rfl⟩;have hL3:Hid (splice L2 10 (l.take 113)=L3):=by show _=_;rw[hL3',au (by rw[hl.1];omega)]
 have hlen3:Hid (L3.length=128):=by show _=_;rw[hL3',length_splice _ _ _ (by rw[hl.1,hlen2.out];omega),hlen2.out]
 have hL3b:L3=fU kind.toNat (un n) l ++ ([0,0,0,0] ++ [215]):=by
  have h4':l.length<=113:=by rw[hl.1];exact h4
  rw[hL3',hL2',hL1,seal_L3 _ _ _ _ (iS _) h4',<- seal_L3_body _ _ _ h4',hl.1]
 have hL4:Hid (splice L3 123 (le4 (fv [L3.take 123]))=bU kind.toNat (un n) l):=by
  show _=_
  have h4':l.length<=113:=by rw[hl.1];exact h4
  rw[hL3b,seal_L3_take _ _ _ h4',seal_L4 _ _ _ h4']
 have hlen4:Hid ((bU kind.toNat (un n) l).length=128):=jh _ _ _ (by rw[hl.1];exact h4);clear hL3b;have hsum:=nM [L3.take 123];clear hL1 hL2' hL3';have hsumc:=fun a n c w=>sum_any a n c [L3.take 123] w
 generalize fv [L3.take 123]=S at *;go_enter Tryz.func199,Tryz.ntmps199;go_wp2_with fail;refine eG (fun W=>Blk W w.heap.size 205 Z/\BlkB W (w.heap.size+1) 205 L1/\Below w.heap.size w W/\W.heap.size=w.heap.size+2) ⟨bI,by unfold BlkB;rw[<- hZ1.out];exact bI,bc,by simp⟩ ?_;rintro W1 ⟨hb6,hb8,hB1,hs1⟩;go_region_held3 (fun _=>True) (trivial) (first | ((go_at_call 254;go_call (lZ _ _) as e w2 ⟨B,d,rfl,hown2,hB2⟩)) | (refine lf rfl (d:=.tmp 35) (s:=.tmp 37) rfl cH dg (g:=w.heap.size+1) (off:=1) (l:=L1) (k:=putL (un n)) rfl rfl (fun _=>rfl) (hb8.drew.below hB2 hb8.lt) hown2.rd (by rw[hlen1.out];omega) hL2.out ?_;intro w3 hb3 hg3 hs3));have hs2:w.heap.size+2<=w2.heap.size:=by have:=hB2.size;simp at this;omega
 have hB3:=et (iO hB1.drew hB2 cR) hg3 aS aS;have hb6':=(hb6.drew.below hB2 hb6.lt).grown hg3 aZ;have hl3:=hl.below hB3 aW;replace hs3:w.heap.size+2<=w3.heap.size:=aS;replace hb3:BlkB w3 (w.heap.size+1) 205 L2:=hb3;clear hb6 hb8 hB1 hB2 hown2 hg3;go_wp2_with (first | (refine wpList_copy_rd rfl (d:=.tmp 39) (s:=.tmp 40) rfl cH dg (g:=w.heap.size+1) (off:=10) (l:=L2) (k:=l) rfl rfl (fun _=>rfl) hb3 hl3.rd (by rw[hlen2.out];omega) hL3.out ?_;intro w4 hb4 hg4 hs4) | (go_at_call 256;go_call (hsumc _ _ _ _ (RBs.one (dP _ _ aS) (BlkB.rb (off:=0) (hb4.alloc _) rfl (by rw[hlen3.out];omega)) aU) aU) as e w5 ⟨rfl,rfl⟩) | (go_at_call 255;go_call (lz S _ hsum) as e w6 ⟨rfl,hB6⟩) | (refine eu rfl (x:=.tmp 9) (y:=.tmp 45) rfl rfl rfl (t:=358) (cs:=[.int .u8 0,.int .u8 0,.int .u8 0,.int .u8 0]) (xs:=(le4 S).map bv) (Blk.top _ rfl rfl) size4 iR aZ ew ?_;intro w7 hb7 hg7 hs7));have hs6:=hB6.size;simp only[World.size_alloc] at hs6 hs7;have e4:BlkB w7 w6.heap.size 358 (le4 S):=by
  unfold BlkB;have:=hb7
  rwa [dS _ _ iR] at this
 have e5:Rd bv w7 (some ⟨w6.heap.size,0,none⟩) 4 (le4 S):=(e4.rb (off:=0) (by rw[aG,au (by rw[gV];omega)]) (by rw[gV];omega)).rd;have hL5:Hid (splice L3 123 ((le4 S).take 4)=bU kind.toNat (un n) l):=by show _=_;rw[au (by rw[gV];omega),hL4.out]
 have k8:BlkB w7 (w.heap.size+1) 205 L3:=(((hb4.alloc _).below hB6 cR).alloc _).grown hg7 cR;have k6:Blk w7 w.heap.size 205 Z:=((((hb6'.grown hg4 aZ).alloc _).below hB6 cR).alloc _).grown hg7 cR;have hB7:Below w.heap.size w w7:=by
  refine et (Below.alloc (bO (et hB3 hg4 aS aS) (w':=w6) (C:=w.heap.size) ?_ aW) aS _) hg7 cR aS;exact Below.trans ((Below.refl _ _).alloc aS _) (hB6.mono cR)
 have hs7':w.heap.size+2<w7.heap.size:=aS;clear hb7 hg7 hs7 hB6 hg4 hb4 hs4 hb3 hl3 hb6' hB3 hsumc hs6;go_region_held3 (fun _=>True) (trivial) ((refine lf rfl (d:=.tmp 46) (s:=.tmp 47) rfl cH dg (g:=w.heap.size+1) (off:=123) (l:=L3) (k:=le4 S) rfl rfl (fun _=>rfl) k8.drew e5.drew' (by rw[hlen3.out];omega) hL5.out ?_;intro w8 hb8 hg8 hs8));replace hB7:Below w.heap.size w w8:=et hB7.drew hg8 cR aS;have k6':=k6.drew.grown hg8 aZ;generalize bU kind.toNat (un n) l=L4 at *;have hlen4':Hid ((L4.map bv).length=128):=by show _=_;rw[az,hlen4.out]
 have hm4:=aT (ew (l:=L4));generalize L4.map bv=C4 at *;replace hs8:w.heap.size+2<w8.heap.size:=by have:w7.drew.heap.size=w7.heap.size:=rfl;omega
 clear k6 k8 hg8 e4 e5 hL4 hL5 hL2 hL3 hZ1 HZ c0 c9 c127;go_wp2_with (first | (refine fi rfl (x:=.tmp 8) rfl rfl (t:=205) (cs:=C4) hb8 Tryz.underlying205 Hi.out hlen4'.out (xs:=C4) (by rw[aG,au (by rw[hlen4'.out];omega)]) ?_) | (refine eu rfl (x:=.tmp 6) (y:=.tmp 49) rfl rfl rfl (t:=205) (cs:=Z) (xs:=C4) k6' Hi.out hlen4'.out jO hm4.out ?_;intro w9 hb9 hg9 hs9));refine bodyPost_ret (v:=.tuple #[.agg C4.toArray,I 0]) (jN Tryz.results199 _ rfl rfl (by rw[dS _ _ (by rw[Hl.out,hlen4'.out])] at hb9;exact hb9) Tryz.underlying205 Hi.out hlen4'.out) rfl ?_;exact⟨by rw[HR.out],et hB7 hg9 aS aW⟩
theorem eq128 (l k:List UInt8)(hl:l.length=128)(hk:k.length=128)(w:World):(Op.equalIn 10000 205 (.agg (l.map bv).toArray) (.agg (k.map bv).toArray)).run Tryz.prog w=.ok (decide (l=k)) w :=
 run_eq_bytes Tryz.underlying205 Tryz.underlying5 bM bM bM l k hl hk
theorem cellB {l:List UInt8}(i:Nat)(hi:i<l.length):(l.map bv)[i]?=some (.int .u8 (bx l i)):=by
 unfold bx bv;simp[ah,hi]
def jX (l:List UInt8)(kind:Int):Prop:=bx l 127≠215\/(bx l 127=215/\(bx l 0:Int)≠kind)\/(bx l 127=215/\(bx l 0:Int)=kind/\113<bx l 9)
theorem open_bad (l:List UInt8)(kind:Int)(w:World)(hl:l.length=128)(h:jX l kind) :
 Ca 163 #[aggB l,I kind] w fun e w'=>e=.returned (.tuple #[I 0,.slice none 0 0,I 53])/\Below w.heap.size w w':=by
 have c0:=cellB (l:=l) 0 aS;have c9:=cellB (l:=l) 9 aS;have c127:=cellB (l:=l) 127 aS;have b0:=ij l 0;have b9:=ij l 9;unfold jX at h;unfold aggB;generalize l.map bv=C at *;generalize bx l 0=y0 at *;generalize bx l 9=y9 at *;generalize bx l 127=y127 at *;clear hl;rcases h with h | ⟨h,h2⟩ | ⟨h,h2,h3⟩
 · have e1:(((y127:Nat):Int) != 215)=true:=by rw[ag];omega
   clear h;go_enter Tryz.func163,Tryz.ntmps163;go_wp2;go_ret3;exact⟨rfl,bc⟩
 · have e1:(((y127:Nat):Int) != 215)=false:=by rw[h];rfl
   have e2:(((y0:Nat):Int) != kind)=true:=by rw[ag];exact h2
   clear h h2;go_enter Tryz.func163,Tryz.ntmps163;go_wp2;go_ret3;exact⟨rfl,bc⟩
 · have e1:(((y127:Nat):Int) != 215)=false:=by rw[h];rfl
   have e2:(((y0:Nat):Int) != kind)=false:=by rw[h2];simp
   have e3:decide ((113:Int)<((y9:Nat):Int))=true:=by simp;omega
   clear h h2;go_enter Tryz.func163,Tryz.ntmps163;go_wp2;go_ret3;exact⟨rfl,bc⟩
theorem RB.nil_of (h:K.length=0):RB w A 0 K:=⟨h,Row.nil _ _ _⟩
def im (y9:Nat)(K:List UInt8)(q:Bool)(N:Int)(w:World)(e:Ending)(w':World):Prop :=
 (q=false/\e=.returned (.tuple #[I 0,.slice none 0 0,I 53])/\Below w.heap.size w w') \/
 (q=true/\∃ A c,e=.returned (.tuple #[I N,.slice A y9 c,I 0])/\OB w' w.heap.size 5 A y9 c K/\Below w.heap.size w w')
theorem im.no (h:Below w.heap.size w w'):im y9 K false N w (.returned (.tuple #[I 0,.slice none 0 0,I 53])) w':=.inl ⟨rfl,rfl,h⟩
theorem im.yes (h:Below w.heap.size w w')(ho:OB w' w.heap.size 5 A y9 c K):im y9 K true N w (.returned (.tuple #[I N,.slice A y9 c,I 0])) w':=.inr ⟨rfl,A,c,rfl,ho,h⟩
theorem im.yes0 (h:Below w.heap.size w w')(hK:K.length=0):im 0 K true N w (.returned (.tuple #[I N,.slice none 0 0,I 0])) w':=by
 obtain rfl:=List.eq_nil_of_length_eq_zero hK;exact .inr ⟨rfl,none,0,rfl,Ow.nil _ _ _ _,h⟩
theorem open_main (l M:List UInt8)(kind r:Int)(w:World)(q:Bool)(hl:l.length=128)(h127:bx l 127=215)(h0:(bx l 0:Int)=kind)(h9:bx l 9<=113)(hM:M.length=128)
 (hq:(((r != 0)=true/\q=false)\/((r != 0)=false/\q=decide (M=l))))
 (hmk:∀ (A:Option Addr) (c:Nat) (w:World),RB w A (bx l 9) (fe l)->Ca 199 #[I kind,I (sg (ef l)),.slice A (bx l 9) c] w fun e w'=>e=.returned (.tuple #[aggB M,I r])/\Below w.heap.size w w') :
 Ca 163 #[aggB l,I kind] w (im (bx l 9) (fe l) q (sg (ef l)) w):=by
 have c0:=cellB (l:=l) 0 aS;have c9:=cellB (l:=l) 9 aS;have c127:=cellB (l:=l) 127 aS;have b0:=ij l 0;have b127:=ij l 127;have e1:(((bx l 127:Nat):Int) != 215)=false:=by rw[h127];rfl
 have e2:(((bx l 0:Nat):Int) != kind)=false:=by rw[h0];simp
 have e3:decide ((113:Int)<((bx l 9:Nat):Int))=false:=by simp;omega
 have hb:∀ (W:World) (g:Nat),W.heap[g]?=some (.cells (l.map bv).toArray 205 (0,0))->BlkB W g 205 l:=fun _ _ h=>h
 have hneq:=fun w=>eq128 M l hM hl w
 have hload:(l.drop 10).take (bx l 9)=fe l:=rfl;have hnum:getL ((l.drop 1).take 8)=ef l:=rfl;have hlo:=pD hl h9;have hz:=(zero_of_info dy).1;have hi:=(zero_of_info dy).2;have hzl:(bw.map bv).length=128:=by simp[dI]
 have HM:=aT (show (M.map bv).length=128 by simpa using hM);have HL:=aT (show (l.map bv).length=128 by simpa using hl);have HM1:=aT (ew (l:=M));have Hl:=aT hl;have Hi:=aT hi;have Hlo:=aT hlo;have Hload:=aT hload;have Hnum:=aT hnum;have H0:=aT h0;generalize decide (M=l)=b at *;unfold aggB at *;generalize bw.map bv=Z at *;have Hz:=aT hzl;generalize bx l 0=y0 at *;generalize bx l 9=y9 at *;generalize bx l 127=y127 at *;generalize ef l=N at *;generalize fe l=K at *;clear hl h127 h0 hM hload hnum hlo hi hzl;have hget:∀ (A:Option Addr) (c:Nat) (w:World),RB w A 8 ((l.drop 1).take 8)->Ca 237 #[.slice A 8 c] w fun e w'=>e=.returned (.tuple #[I (sg N),I 0])/\w=w':=fun A c w h=>by
  have:=np A c _ w h
  rwa [Hnum.out] at this
 have hc1:(10:Int)+(y9:Int)<=128:=aS;have Hmk:=aT hmk;clear hmk;have hy:y9=0\/¬ y9=0:=aS;have hsl:y9≠0->∀ W:World,(Instr.sliceAt 205 (.pointer (some ⟨w.heap.size,0,none⟩)) (some (I 10)) (some (I ((10:Int)+(y9:Int)))) (some (I ((10:Int)+(y9:Int))))).run Tryz.prog W=.ok (.slice (some ⟨w.heap.size,10,none⟩) y9 y9) W :=
  fun h W=>run_slice3 Tryz.underlying205 bM _ _ _ 10 y9 rfl aS aS aS W
 have hq':((r != 0)=true/\q=false)\/((r != 0)=false/\b=false/\q=false)\/((r != 0)=false/\b=true/\q=true):=by
  rcases hq with h | ⟨h,h2⟩
  · exact .inl h
  · cases b
    · exact .inr (.inl ⟨h,rfl,h2⟩)
    · exact .inr (.inr ⟨h,rfl,h2⟩)
 clear hq;rcases hy with hy | hy
 case' inl=>(clear hsl;subst hy)
 case' inr=>replace hsl:=hsl hy
 all_goals
  rcases hq' with ⟨hr,rfl⟩ | ⟨hr,rfl,rfl⟩ | ⟨hr,rfl,rfl⟩
 all_goals
  go_enter Tryz.func163,Tryz.ntmps163;go_wp2_with (first | (go_at_call 237;go_call (hget _ _ _ (BlkB.rb (off:=1) (hb _ _ (dP _ _ rfl)) rfl jO)) as e w1 ⟨rfl,rfl⟩) | (at_builtin;refine dR rfl rfl cH dg (s:=.tmp 34) (N:=y9) (L:=K) rfl (Ow.nil bv _ w.heap.size _) rfl (k:=K) (BlkB.rb (off:=10) (hb _ _ (dP _ _ rfl)) Hload.out jO).rd aS rfl bQ aS br ?_;intro A2 c2 w2 hown2 hg2 hat2 hb2) | (go_at_call 199;(with_reducible refine (Hmk.out _ _ _ hown2.rd.rb).mono ?_);rintro e w3 ⟨rfl,hB3⟩) | (go_at_call 199;(with_reducible refine (Hmk.out none 0 _ (RB.nil_of Hlo.out)).mono ?_);rintro e w3 ⟨rfl,hB3⟩) | (refine eu rfl (x:=.tmp 8) (y:=.tmp 46) rfl rfl rfl (t:=205) (cs:=Z) (xs:=M.map bv) (Blk.top _ rfl rfl) Hi.out HM.out (by rw[Hz.out];omega) HM1.out ?_;intro w4 hb4 hg4 hs4;rw[dS _ _ (by rw[Hz.out,HM.out])] at hb4) | (refine fi rfl (x:=.tmp 8) rfl rfl (t:=205) (cs:=M.map bv) hb4 Tryz.underlying205 Hi.out HM.out (xs:=M.map bv) (by rw[aG,au (by rw[HM.out];omega)]) ?_) | (refine fi rfl (x:=.tmp 2) rfl rfl (t:=205) (cs:=l.map bv) ((((hb _ _ ((dP _ _ rfl))).grown hg2 aZ).below hB3 (by have:=hg2.size;simp at this;omega)).alloc _ |>.grown hg4 (by have:=hg2.size;have:=hB3.size;simp at *;omega)) Tryz.underlying205 Hi.out HL.out (xs:=l.map bv) nm ?_) | (refine fi rfl (x:=.tmp 2) rfl rfl (t:=205) (cs:=l.map bv) ((((hb _ _ ((dP _ _ rfl))).below hB3 aZ).alloc _).grown hg4 (by have:=hB3.size;simp at this;simp;omega)) Tryz.underlying205 Hi.out HL.out (xs:=l.map bv) nm ?_))
 all_goals
  have h34:=et ((Below.refl _ _).alloc aW _) hg4 aZ aW
  first
   | (have hBel:Below w.heap.size w w4:=iO (iO (bO ((Below.refl _ _).alloc aW _) hb2 aW) hB3 (by have:=hb2.size;simp at this;omega)) h34 (by have:=hb2.size;have:=hB3.size;simp at *;omega)
      have own4:=(hown2.below hB3 aW).below h34 aW;go_ret3;exact (im.yes hBel own4))
   | (have hBel:Below w.heap.size w w4:=iO (iO ((Below.refl _ _).alloc aW _) hB3 aZ) h34 (by have:=hB3.size;simp at *;omega)
      go_ret3;exact (im.yes0 hBel Hlo.out))
   | (have hBel:Below w.heap.size w w4:=iO (iO (bO ((Below.refl _ _).alloc aW _) hb2 aW) hB3 (by have:=hb2.size;simp at this;omega)) h34 (by have:=hb2.size;have:=hB3.size;simp at *;omega)
      go_ret3;exact (im.no hBel))
   | (have hBel:Below w.heap.size w w4:=iO (iO ((Below.refl _ _).alloc aW _) hB3 aZ) h34 (by have:=hB3.size;simp at *;omega)
      go_ret3;exact (im.no hBel))
theorem open_any (l:List UInt8)(kind:Int)(w:World)(hl:l.length=128) :
 Ca 163 #[aggB l,I kind] w (im (bx l 9) (fe l) (eV l kind) (sg (ef l)) w):=by
 by_cases hbad:jX l kind
 · have hf:eV l kind=false:=by
    cases ho:eV l kind with
    | false=>rfl
    | true=>
      have h1:=mh ho;have h2:=nN ho;unfold jX at hbad;omega
   rw[hf];exact (open_bad l kind w hl hbad).mono fun e w' ⟨he,hb⟩=>.inl ⟨rfl,he,hb⟩
 · have h127:bx l 127=215:=by unfold jX at hbad;omega
   have h0:(bx l 0:Int)=kind:=by unfold jX at hbad;omega
   have h9:bx l 9<=113:=by unfold jX at hbad;omega
   have hk:=ij l 0;have hN:=pC l;have hlo:=pD hl h9
   by_cases hok:1<=kind/\ef l<9223372036854775808
   · have hsg:sg (ef l)=(ef l:Int):=by unfold sg;rw[if_pos hok.2]
     have hun:=un_sg hN;have hq:eV l kind=decide (bU kind.toNat (ef l) (fe l)=l):=by
      have e1:kind<=255:=aS;simp[eV,hok.1,e1,hok.2,h9]
     refine open_main l (bU kind.toNat (ef l) (fe l)) kind 0 w _ hl h127 h0 h9 (jh _ _ _ aS) (.inr ⟨rfl,hq⟩) (fun A c w hr=>?_);have:=make_ok kind (sg (ef l)) A (bx l 9) c (fe l) w hok.1 aS aS h9 hr
     rwa [hun] at this
   · have hq:eV l kind=false:=by
      cases ho:eV l kind with
      | false=>rfl
      | true=>
        have h2:=nN ho;omega
     refine open_main l bw kind 2 w _ hl h127 h0 h9 dI (.inl ⟨rfl,hq⟩) (fun A c w hr=>?_);refine make_arg kind _ A _ c w ?_;have:1<=kind->sg (ef l)<0:=fun h=>by
      have:¬ ef l<9223372036854775808:=fun h2=>hok ⟨h,h2⟩
      unfold sg;rw[if_neg this];omega
     omega
def fO (kind n:Int)(l:List UInt8):List UInt8 × Int :=
 if kind<1\/255<kind\/n<0 then (bw,2) else if 113<l.length then (bw,3) else (bU kind.toNat n.toNat l,0)
theorem makeL_len (kind n:Int)(l:List UInt8):(fO kind n l).1.length=128:=by
 unfold fO
 split
 · exact dI
 · split
   · exact dI
   · exact jh _ _ _ aS
theorem un_nat {n:Int}(h0:0<=n)(h1:n<=9223372036854775807):un n=n.toNat:=by unfold un;omega
theorem make_any (kind n:Int)(A:Option Addr)(m c:Nat)(l:List UInt8)(w:World)(hn:n<=9223372036854775807)(hm:m<=maxLen)(hl:RB w A m l) :
 Ca 199 #[I kind,I n,.slice A m c] w fun e w'=>e=.returned (.tuple #[aggB (fO kind n l).1,I (fO kind n l).2])/\Below w.heap.size w w':=by
 unfold fO
 by_cases h:kind<1\/255<kind\/n<0
 · rw[if_pos h];exact make_arg kind n A m c w h
 · rw[if_neg h]
   by_cases h2:113<l.length
   · rw[if_pos h2];exact make_limit kind n A m c w aS aS aS (by rw[<- hl.1];exact h2) hm
   · rw[if_neg h2];have:=make_ok kind n A m c l w aS aS aS (by rw[<- hl.1];omega) hl
     rwa [un_nat aS hn] at this
theorem blank_any (l:List UInt8)(w:World)(hl:l.length=128):Ca 164 #[aggB l] w fun e w'=>e=.returned (.bool (decide (l=bw)))/\Below w.heap.size w w':=by
 have hq:=fun w=>eq128 l bw hl dI w
 have hbu:∀ w:World,(Instr.build 205 #[]).run Tryz.prog w=.ok (aggB bw) w:=fun w=>run_build w _ _ _ bM
 have HL:=aT (show (l.map bv).length=128 by simpa using hl);generalize decide (l=bw)=b at *;have hz:=(zero_of_info dy).1;have Hi:=aT (zero_of_info dy).2;have Hz:=aT (show (bw.map bv).length=128 by simp[dI]);unfold aggB at hz;generalize bw.map bv=Z at *;unfold aggB at *;generalize bw.map bv=Z at *;generalize hC:l.map bv=C at *;clear hC hl;go_enter Tryz.func164,Tryz.ntmps164;go_wp2_with (refine fi rfl (x:=.tmp 1) rfl rfl (t:=205) (cs:=C) (Blk.top _ rfl rfl) Tryz.underlying205 Hi.out HL.out (xs:=C) nm ?_);go_ret;exact⟨rfl,bc⟩
