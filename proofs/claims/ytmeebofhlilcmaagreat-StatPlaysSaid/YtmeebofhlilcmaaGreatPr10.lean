/- Parts: PlainA, Crc, PlainSeal, SealA. -/
import Derived.Test.YtmeebofhlilcmaaGreatPr02
import Derived.Deep.WholeRow
set_option linter.unusedVariables false
set_option linter.unusedSimpArgs false
set_option maxRecDepth 100000
set_option maxHeartbeats 0
namespace Go.Proofs.YtmeebofhlilcmaaGreat
variable {b:List UInt8} {kind:Int}
open Go.RowKit
def km (x:Nat):Nat:=if x % 2=1 then (x / 2) ^^^ 3988292384 else x / 2
def jC:Nat->Nat->Nat
 | 0,x=>x
 | k+1,x=>jC k (km x)
def jm (c b:Nat):Nat:=jC 8 (c ^^^ b)
def iP (c:Nat)(l:List UInt8):Nat:=l.foldl (fun c b=>jm c b.toNat) c
def iQ (s:Nat)(l:List UInt8):Nat:=4294967295 - iP (4294967295 - s) l
def fp (ls:List (List UInt8)):Nat:=ls.foldl iQ 0
theorem lL {a b:Nat}(ha:a<4294967296)(hb:b<4294967296):a ^^^ b<4294967296:=Nat.xor_lt_two_pow (n:=32) ha hb
theorem crcBit_lt {x:Nat}(h:x<4294967296):km x<4294967296:=by
 unfold km;split
 · exact lL (by omega) (by omega)
 · omega
theorem crcBits_lt (k:Nat):∀ {x:Nat},x<4294967296->jC k x<4294967296:=by
 induction k with
 | zero=>intro x h;exact h
 | succ k ih=>intro x h;exact ih (crcBit_lt h)
theorem crcStep_lt {c b:Nat}(hc:c<4294967296)(hb:b<256):jm c b<4294967296:=crcBits_lt 8 (lL hc (by omega))
theorem ph (s:Nat)(l:List UInt8):iQ s l<4294967296:=by unfold iQ;omega
theorem crcFold_snoc (c:Nat)(a:List UInt8)(x:UInt8):iP c (a ++ [x])=jm (iP c a) x.toNat:=by simp[iP]
theorem crcSum_take (ls:List (List UInt8))(k:Nat)(h:k<ls.length):fp (ls.take (k+1))=iQ (fp (ls.take k)) (ls.getD k []):=by
 unfold fp;rw[aP h,List.foldl_append,ag,ap h];rfl
theorem nm (ls:List (List UInt8)):fp ls<4294967296:=by
 rcases List.eq_nil_or_concat ls with rfl | ⟨l,x,rfl⟩
 · decide
 · have:fp (l ++ [x])=iQ (fp l) x:=by simp[fp]
   simp only[List.concat_eq_append,this];exact ph _ _
theorem IntKind.wrap_u32' (n:Int):IntKind.u32.wrap n=n % 4294967296:=by simp[IntKind.wrap,IntKind.bits,IntKind.signed]
theorem kM (a:Nat)(ha:a<4294967296):(BitVec.ofInt 32 (a:Int)).toNat=a:=by
 rw[BitVec.ofInt_natCast,BitVec.toNat_ofNat];exact Nat.mod_eq_of_lt (by omega)
theorem u32_xor (a b:Nat)(ha:a<4294967296)(hb:b<4294967296):bits .xor .u32 (a:Int) (b:Int)=((a ^^^ b:Nat):Int):=by
 have hx:=lL ha hb
 show IntKind.u32.wrap ((BitVec.ofInt 32 (a:Int) ^^^ BitVec.ofInt 32 (b:Int)).toNat:Int)=_
 rw[BitVec.toNat_xor,kM a ha,kM b hb,IntKind.wrap_u32'];omega
theorem u32_and_one (a:Nat)(ha:a<4294967296):bits .and .u32 (a:Int) 1=((a % 2:Nat):Int):=by
 show IntKind.u32.wrap ((BitVec.ofInt 32 (a:Int) &&& BitVec.ofInt 32 ((1:Nat):Int)).toNat:Int)=_
 rw[BitVec.toNat_and,kM a ha,kM 1 (by omega),IntKind.wrap_u32',Nat.and_one_is_mod];omega
theorem u32_turn (x:Nat)(hx:x<4294967296):bits .xor .u32 ((x:Int) / 2) 3988292384=((x / 2 ^^^ 3988292384:Nat):Int):=by
 have:=u32_xor (x / 2) 3988292384 (by omega) (by omega);rw[<- this];rfl
theorem u32_not (s:Nat)(hs:s<4294967296):bits .xor .u32 IntKind.u32.max (s:Int)=((4294967295 - s:Nat):Int):=by
 show IntKind.u32.wrap ((BitVec.ofInt 32 IntKind.u32.max ^^^ BitVec.ofInt 32 (s:Int)).toNat:Int)=_
 have h1:BitVec.ofInt 32 IntKind.u32.max=BitVec.allOnes 32:=by decide
 rw[h1,BitVec.allOnes_xor,BitVec.toNat_not,kM s hs,IntKind.wrap_u32'];omega
theorem step_any (c b:Nat)(w:World)(hc:c<4294967296)(hb:b<256) :
 Ca 316 #[.int .u32 c,.int .u8 b] w fun e w'=>e=.returned (.int .u32 (jm c b))/\w=w':=by
 have hx:=u32_xor c b hc (by omega);have hlt:c ^^^ b<4294967296:=lL hc (by omega);have hd:jm c b=jC 8 (c ^^^ b):=rfl;generalize hz:jm c b=z at *;generalize hy:c ^^^ b=y at *;have Hd:=Lib.hid hd;clear hd hz hy;go_enter Tryz.func316,Tryz.ntmps316;go_wp2;go_loop [0,9] (fun c i=>∃ k:Nat,∃ x:Nat,k<=8/\x<4294967296/\Hid (z=jC (8 - k) x)/\i=I k/\c=.int .u32 x) (fun _ i=>8 - (intOf i).toNat)
 case atStart=>exact⟨0,y,Nat.zero_le _,hlt,Hd,rfl,rfl⟩
 case round=>
  obtain⟨k,x,hk,hx,HX,rfl,rfl⟩:=hrel;have ha:=u32_and_one x hx;have ht:=u32_turn x hx;have hb:=@crcBit_lt x hx
  by_cases hlt:k<8
  · have HB:Hid (jC (8 - k) x=jC (8 - (k+1)) (km x)):=by rw[show 8 - k=(8 - (k+1))+1 from by omega];rfl
    by_cases h1:x % 2=1
    · have HC:Hid (km x=x / 2 ^^^ 3988292384):=if_pos h1;have h2:(((x % 2:Nat):Int) == 1)=true:=by rw[beq_iff_eq];omega
      clear h1;go_wp2;go_round
      case rel=>exact⟨k+1,_,by omega,hb,HX.out.trans HB.out,by go_num,by rw[HC.out]⟩
      case measure=>simp[intOf];omega
    · have HC:Hid (km x=x / 2):=if_neg h1;have h2:(((x % 2:Nat):Int) == 1)=false:=by rw[af];omega
      clear h1;go_wp2;go_round
      case rel=>exact⟨k+1,_,by omega,hb,HX.out.trans HB.out,by go_num,by rw[HC.out];rfl⟩
      case measure=>simp[intOf];omega
  · go_wp2;go_ret;refine⟨?_,rfl⟩;have e:8 - k=0:=by omega
    rw[HX.out,e];rfl
theorem crcFold_take (c:Nat)(l:List UInt8)(k:Nat)(h:k<l.length):iP c (l.take (k+1))=jm (iP c (l.take k)) (bw l k):=by
 rw[mC l k h,crcFold_snoc];rfl
theorem more_any (s:Nat)(a:Option Addr)(n c:Nat)(l:List UInt8)(w:World)(hs:s<4294967296)(hl:RB w a n l)(hn:n<=maxLen) :
 Ca 294 #[.int .u32 s,.slice a n c] w fun e w'=>e=.returned (.int .u32 (iQ s l))/\w=w':=by
 unfold maxLen at hn;have hd:iQ s l=4294967295 - iP (4294967295 - s) l:=rfl;have hlen:=hl.1;generalize hz:iQ s l=z at *;have HL:=Lib.hid hlen;clear hlen;have Hd:=Lib.hid hd;clear hd hz;have hsg:IntKind.u32.signed=false:=rfl;have hnot:=u32_not s hs;go_enter Tryz.func294,Tryz.ntmps294;go_wp2;go_loop [5,12] (fun c i=>∃ k:Nat,∃ x:Nat,k<=n/\x<4294967296/\Hid (x=iP (4294967295 - s) (l.take k))/\i=I k/\c=.int .u32 x) (fun _ i=>n - (intOf i).toNat)
 case atStart=>exact⟨0,4294967295 - s,Nat.zero_le _,by omega,rfl,rfl,rfl⟩
 case round=>
  obtain⟨k,x,hk,hx,HX,rfl,rfl⟩:=hrel;clear hnot
  by_cases hlt:k<n
  · have HF:Hid (iP (4294967295 - s) (l.take (k+1))=jm x (bw l k)):=by rw[HX.out];exact crcFold_take _ _ _ (by rw[HL.out];exact hlt)
    obtain⟨b,o,rfl,hb,hc⟩:=hl.at_ hlt;have h8:=gQ l k;have hy:=crcStep_lt hx h8;go_wp2_with (go_at_call 316;(with_reducible refine (step_any _ _ _ hx h8).mono ?_);rintro e w' ⟨rfl,rfl⟩);go_round
    case rel=>exact⟨k+1,_,by omega,hy,HF.out.symm,by go_num,rfl⟩
    case measure=>simp[intOf];omega
  · have hnot:=u32_not x hx;go_wp2;go_ret;exact⟨jX (by rw[Hd.out,HX.out,au (by rw[HL.out];omega)]),rfl⟩
def RBs (w:World)(a:Option Addr)(n:Nat)(ls:List (List UInt8)):Prop :=
 ls.length=n/\∃ V:Nat->Option Addr × Nat × Nat,Row w a ls.length (fun i=>.slice (V i).1 (V i).2.1 (V i).2.2)/\∀ i,i<ls.length->RB w (V i).1 (V i).2.1 (ls.getD i [])/\(V i).2.1<=maxLen
theorem sum_any (a:Option Addr)(n c:Nat)(ls:List (List UInt8))(w:World)(hl:RBs w a n ls)(hm:n<=maxLen) :
 Ca 256 #[.slice a n c] w fun e w'=>e=.returned (.int .u32 (fp ls))/\w=w':=by
 unfold maxLen at hm;obtain⟨hn,V,hrow,hV⟩:=hl;generalize hz:fp ls=z at *;have Hn:=Lib.hid hn;rw[hn] at hrow;clear hn;have Hz:=Lib.hid hz;clear hz;go_enter Tryz.func256,Tryz.ntmps256;go_wp2;go_loop [3,8] (fun c i=>∃ k:Nat,∃ x:Nat,k<=n/\x<4294967296/\Hid (x=fp (ls.take k))/\i=I k/\c=.int .u32 x) (fun _ i=>n - (intOf i).toNat)
 case atStart=>exact⟨0,0,Nat.zero_le _,by omega,rfl,rfl,rfl⟩
 case round=>
  obtain⟨k,x,hk,hx,HX,rfl,rfl⟩:=hrel
  by_cases hlt:k<n
  · have HF:Hid (fp (ls.take (k+1))=iQ x (ls.getD k [])):=by rw[HX.out];exact crcSum_take _ _ (by rw[Hn.out];exact hlt)
    obtain⟨b,o,rfl,hb,hc⟩:=hrow.at_ hlt;obtain⟨hr,hm2⟩:=hV k (by rw[Hn.out];exact hlt);have hy:=ph x (ls.getD k []);generalize ls.getD k []=lk at *;go_wp2_with (go_at_call 294;(with_reducible refine (more_any _ _ _ _ lk _ hx hr hm2).mono ?_);rintro e w' ⟨rfl,rfl⟩);go_round
    case rel=>exact⟨k+1,_,by omega,hy,HF.out.symm,by go_num,rfl⟩
    case measure=>simp[intOf];omega
  · go_wp2;go_ret;exact⟨jX (by rw[HX.out,<- Hz.out,au (by rw[Hn.out];omega)]),rfl⟩
theorem RBs.one {w:World}{g:Nat}{t:TypeId}{fr:Nat × Nat}{A:Option Addr}{n c:Nat}{l:List UInt8}(hg:w.heap[g]?=some (.cells #[.slice A n c] t fr))(h:RB w A n l)(hn:n<=maxLen) :
 RBs w (some ⟨g,0,none⟩) 1 [l] :=
 ⟨rfl,fun _=>(A,n,c),Row.of_block hg 0 (fun i hi=>by
  have:i=0:=by simp at hi;exact hi
  subst this;rfl),fun i hi=>by
  have:i=0:=by simp at hi;exact hi
  subst this;exact⟨h,hn⟩⟩
def br:List UInt8:=List.replicate 128 0
theorem dJ:br.length=128:=by simp[br]
def le4 (s:Nat):List UInt8:=tabB 4 (fun i=>s / 256 ^ i % 256)
theorem gI (s:Nat):(le4 s).length=4:=by simp[le4,kK]
def fS (kind n:Nat)(load:List UInt8):List UInt8 :=
 UInt8.ofNat kind :: (putL n ++ (UInt8.ofNat load.length :: (load ++ List.replicate (113 - load.length) 0)))
def bQ (kind n:Nat)(load:List UInt8):List UInt8:=fS kind n load ++ (le4 (fp [fS kind n load]) ++ [215])
theorem lM (kind n:Nat)(load:List UInt8)(h:load.length<=113):(fS kind n load).length=123:=by
 simp[fS,iE];omega
theorem iR (kind n:Nat)(load:List UInt8)(h:load.length<=113):(bQ kind n load).length=128:=by
 simp[bQ,lM kind n load h,gI]
theorem sealL_first (kind n:Nat)(load:List UInt8)(h:kind<256):bw (bQ kind n load) 0=kind:=by
 simp only[bQ,fS,bw,List.cons_append,List.getD_cons_zero];exact UInt8.toNat_ofNat_of_lt' kG
theorem sealL_last (kind n:Nat)(load:List UInt8)(h:load.length<=113):bw (bQ kind n load) 127=215:=by
 have h1:=lM kind n load h;simp only[bQ,bw,ag];rw[aJ aS,aJ (by rw[gI];omega),h1,gI]
 rfl
theorem pj (kind n:Nat)(load:List UInt8)(h:load.length<=113):bw (bQ kind n load) 9=load.length:=by
 have h0:=iE n;simp only[bQ,fS,bw,List.cons_append,ag,aN];rw[List.getElem?_cons_succ,aJ aS,h0];simp only[Nat.sub_self,List.getElem?_cons_zero,Option.getD_some];exact UInt8.toNat_ofNat_of_lt' kG
theorem sealL_num (kind n:Nat)(load:List UInt8):((bQ kind n load).drop 1).take 8=putL n:=by
 have h0:=iE n;simp only[bQ,fS,List.cons_append,List.drop_succ_cons,aI,aN];rw[List.take_append_of_le_length aS,au aS]
theorem sealL_load (kind n:Nat)(load:List UInt8):((bQ kind n load).drop 10).take load.length=load:=by
 have h0:=iE n;simp only[bQ,fS,List.cons_append,aN];rw[show 10=9+1 from rfl,List.drop_succ_cons,show 9=(putL n).length+1 from by omega,List.drop_append,aQ aS,List.nil_append,show (putL n).length+1 - (putL n).length=1 from by omega,List.drop_succ_cons,aI,List.take_append_of_le_length aS,au aS]
def ej (b:List UInt8):Nat:=getL ((b.drop 1).take 8)
def eV (b:List UInt8):List UInt8:=(b.drop 10).take (bw b 9)
def eK (b:List UInt8)(kind:Int):Bool :=
 decide (1<=kind) && decide (kind<=255) && decide (ej b<9223372036854775808) && decide (bw b 9<=113) && decide (bQ kind.toNat (ej b) (eV b)=b)
theorem pl (b:List UInt8):ej b<18446744073709551616:=by
 unfold ej;have h1:=lE ((b.drop 1).take 8);have h2:((b.drop 1).take 8).length<=8:=List.length_take_le _ _;have h3:256 ^ ((b.drop 1).take 8).length<=256 ^ 8:=Nat.pow_le_pow_right aS h2;omega
theorem pn (h:b.length=128)(h9:bw b 9<=113):(eV b).length=bw b 9:=by
 simp[eV,h];omega
theorem np (h:eK b kind=true):1<=kind/\kind<=255/\ej b<9223372036854775808/\bw b 9<=113/\bQ kind.toNat (ej b) (eV b)=b:=by
 simpa [eK,and_assoc] using h
theorem opens_mk (h1:1<=kind)(h2:kind<=255)(h3:ej b<9223372036854775808)(h4:bw b 9<=113)(h5:bQ kind.toNat (ej b) (eV b)=b):eK b kind=true:=by
 simp[eK,h1,h2,h3,h4,h5]
theorem lN {n:Nat}{load:List UInt8}(h1:1<=kind)(h2:kind<=255)(h3:n<9223372036854775808)(h4:load.length<=113) :
 eK (bQ kind.toNat n load) kind=true/\ej (bQ kind.toNat n load)=n/\eV (bQ kind.toNat n load)=load:=by
 have e1:ej (bQ kind.toNat n load)=n:=by unfold ej;rw[sealL_num,mQ _ aS]
 have e2:eV (bQ kind.toNat n load)=load:=by unfold eV;rw[pj _ _ _ h4,sealL_load]
 exact⟨opens_mk h1 h2 (by rw[e1];exact h3) (by rw[pj _ _ _ h4];exact h4) (by rw[e1,e2]),e1,e2⟩
theorem ko (h:eK b kind=true):(bw b 0:Int)=kind/\bw b 127=215/\b.length=128:=by
 obtain⟨h1,h2,h3,h4,h5⟩:=np h
 by_cases hl:(eV b).length<=113
 · rw[<- h5,sealL_first _ _ _ aS,sealL_last _ _ _ hl,iR _ _ _ hl];omega
 · have:=List.length_take_le (bw b 9) (b.drop 10);unfold eV at hl;omega
theorem ns {α:Type}(a b c k:List α)(h:b.length=k.length):splice (a ++ (b ++ c)) a.length k=a ++ (k ++ c):=by
 unfold splice;rw[List.take_left',List.drop_append,aQ aS,List.nil_append,show a.length+k.length - a.length=b.length from by omega,List.drop_left']
 · rfl
 · rfl
theorem seal_L3 (a b:UInt8)(p l:List UInt8)(hp:p.length=8)(hl:l.length<=113) :
 splice (splice (((br.set 0 a).set 9 b).set 127 215) 1 p) 10 l=[a] ++ (p ++ ([b] ++ (l ++ (List.replicate (117 - l.length) 0 ++ [215])))):=by
 have e1:(((br.set 0 a).set 9 b).set 127 215)=[a] ++ (List.replicate 8 0 ++ ([b] ++ (List.replicate 117 0 ++ [215]))):=rfl;have e2:splice ([a] ++ (List.replicate 8 0 ++ ([b] ++ (List.replicate 117 0 ++ [215])))) 1 p=[a] ++ (p ++ ([b] ++ (List.replicate 117 0 ++ [215]))) :=
  ns [a] (List.replicate 8 0) _ p (by rw[hp];simp)
 have e3:List.replicate 117 (0:UInt8)=List.replicate l.length 0 ++ List.replicate (117 - l.length) 0:=by rw[List.replicate_append_replicate];congr 1;omega
 rw[e1,e2,e3];have e4:[a] ++ (p ++ ([b] ++ (List.replicate l.length 0 ++ List.replicate (117 - l.length) 0 ++ [215])))=([a] ++ (p ++ [b])) ++ (List.replicate l.length 0 ++ (List.replicate (117 - l.length) 0 ++ [215])):=by simp only[aN]
 rw[e4];have:=ns ([a] ++ (p ++ [b])) (List.replicate l.length 0) (List.replicate (117 - l.length) 0 ++ [215]) l aZ;rw[show ([a] ++ (p ++ [b])).length=10 from by simp[hp]] at this;rw[this];simp only[aN]
theorem seal_L3_body (kind n:Nat)(l:List UInt8)(hl:l.length<=113) :
 ([UInt8.ofNat kind] ++ (putL n ++ ([UInt8.ofNat l.length] ++ (l ++ (List.replicate (117 - l.length) 0 ++ [215])))))=fS kind n l ++ ([0,0,0,0] ++ [215]):=by
 have e3:List.replicate (117 - l.length) (0:UInt8)=List.replicate (113 - l.length) 0 ++ [0,0,0,0]:=by
  have h4:([0,0,0,0]:List UInt8)=List.replicate 4 0:=rfl;rw[h4,List.replicate_append_replicate];congr 1;omega
 rw[e3];simp[fS]
theorem seal_L3_take (kind n:Nat)(l:List UInt8)(hl:l.length<=113):(fS kind n l ++ ([0,0,0,0] ++ [215])).take 123=fS kind n l:=by
 have h:=lM kind n l hl;rw[List.take_append_of_le_length aS,au aS]
theorem seal_L4 (kind n:Nat)(l:List UInt8)(hl:l.length<=113):splice (fS kind n l ++ ([0,0,0,0] ++ [215])) 123 (le4 (fp [fS kind n l]))=bQ kind n l:=by
 have h:=lM kind n l hl;have:=ns (fS kind n l) [0,0,0,0] [215] (le4 (fp [fS kind n l])) (by rw[gI];rfl);rw[h] at this;rw[this];rfl
theorem dm:(Tryz.prog.info? 205).map (fun i=>(i.zero,i.size))=some (some (aggB br),128):=by kernel_rfl
def KindOut (kind n:Int):Prop:=kind<1\/(1<=kind/\255<kind)\/(1<=kind/\kind<=255/\n<0)
theorem make_arg (kind n:Int)(A:Option Addr)(m c:Nat)(w:World)(h:kind<1\/255<kind\/n<0) :
 Ca 199 #[I kind,I n,.slice A m c] w fun e w'=>e=.returned (.tuple #[aggB br,I 2])/\Below w.heap.size w w':=by
 have h':KindOut kind n:=by unfold KindOut;omega
 clear h;have hz:=(zero_of_info dm).1;have hi:=(zero_of_info dm).2;have hl:(br.map bv).length=128:=by simp[dJ]
 have h1:=ew (l:=br);unfold aggB at *;generalize br.map bv=Z at *;have Hl:=aT hl;have Hi:=aT hi;have H1:=aT h1;clear hl hi h1;rcases h' with h | ⟨h2,h⟩ | ⟨h2,h3,h⟩
 all_goals
  go_enter Tryz.func199,Tryz.ntmps199;go_wp2_with (first | (refine ff rfl (x:=.tmp 8) rfl rfl (t:=205) (cs:=Z) bH Tryz.underlying205 Hi.out Hl.out (xs:=Z) (by rw[aI,au ju]) ?_) | (refine ev rfl (x:=.tmp 6) (y:=.tmp 21) rfl rfl rfl (t:=205) (cs:=Z) bH Hi.out Hl.out ju H1.out ?_;intro w1 hb1 hg1 hs1));refine bodyPost_ret (v:=.tuple #[.agg Z.toArray,I 2]) (js Tryz.results199 _ rfl rfl (by rw[dR _ _ rfl] at hb1;exact hb1) Tryz.underlying205 Hi.out Hl.out) rfl ?_;exact⟨rfl,eu ba hg1 bq aX⟩
theorem make_limit (kind n:Int)(A:Option Addr)(m c:Nat)(w:World)(h1:1<=kind)(h2:kind<=255)(h3:0<=n)(h4:113<m)(hm:m<=maxLen) :
 Ca 199 #[I kind,I n,.slice A m c] w fun e w'=>e=.returned (.tuple #[aggB br,I 3])/\Below w.heap.size w w':=by
 unfold maxLen at hm;have hz:=(zero_of_info dm).1;have hi:=(zero_of_info dm).2;have hl:(br.map bv).length=128:=by simp[dJ]
 have h1:=ew (l:=br);unfold aggB at *;generalize br.map bv=Z at *;have Hl:=aT hl;have Hi:=aT hi;have H1:=aT h1;clear hl hi h1;go_enter Tryz.func199,Tryz.ntmps199;go_wp2_with (first | (refine ff rfl (x:=.tmp 8) rfl rfl (t:=205) (cs:=Z) bH Tryz.underlying205 Hi.out Hl.out (xs:=Z) (by rw[aI,au ju]) ?_) | (refine ev rfl (x:=.tmp 6) (y:=.tmp 26) rfl rfl rfl (t:=205) (cs:=Z) bH Hi.out Hl.out ju H1.out ?_;intro w1 hb1 hg1 hs1));refine bodyPost_ret (v:=.tuple #[.agg Z.toArray,I 3]) (js Tryz.results199 _ rfl rfl (by rw[dR _ _ rfl] at hb1;exact hb1) Tryz.underlying205 Hi.out Hl.out) rfl ?_;exact⟨rfl,eu ba hg1 bq aX⟩
end Go.Proofs.YtmeebofhlilcmaaGreat
