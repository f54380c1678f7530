/- Parts: Frame, ArgsProg, StateLawA, PlainState, MeterB, PlainA, Crc, PlainSeal, SealA. -/
import Derived.Test.YtmeebofhlilcmaaGreatRows
import Derived.Lib.SmallJoins
import Derived.Deep.Slices
import Derived.Deep.Fields
import Derived.Test.YtmeebofhlilcmaaGreatPr06
import Derived.Laws.LoneSync
import Derived.Deep.WholeRow
set_option linter.unusedVariables false
set_option linter.unusedSimpArgs false
set_option maxRecDepth 100000
set_option maxHeartbeats 0
namespace Go.Proofs.YtmeebofhlilcmaaGreat
variable {w:World} {t e:TypeId} {k:IntKind} {fuel n g:Nat} {l:List Int} {kind:Int} {b:List UInt8}
open Go.RowKit Go.WideShapes Go.ChangeShapes
theorem spot_none {a:Addr}{v:Value}(h:w.cell? a=some v):a.spot=none:=by
 unfold World.cell? at h
 split at h
 · split at h
   · cases h
   · rename_i hs;simpa using hs
 · cases h
section
variable {H:Type} {enc:TypeId × Value→H} {P:Program} {w:World} {base b0:Nat} {spare:Nat→Bool} {held:Bool} {r:Reach} {v:Value} {d:DataW H} {ps:List MemPlace}
theorem args_int (ht:P.underlying t=some (.int k))(hval:Value.okWide P w r b0 t v)(hd:DataW.Trod enc P w base spare held t v d ps) :
 ∃ n,v=.int k n/\(Lit.int k n).wf=true:=by
 obtain⟨n,h,_,_,hw⟩:=open_int ht hval hd;exact⟨n,h,hw⟩
theorem ot {x:Addr}{len:Nat}{zs:List Int}(hz:len<=zs.length)(hcell:∀ i,i<zs.length->w.cell? (x.add i)=some (.int k (zs.getD i 0))) :
 Row w (some x) len (fun i=>.int k (zs.getD i 0)):=by
 intro h0;have h:=hcell 0 aS;have hs:=spot_none (a:=x) (by simpa [Addr.add] using h);obtain⟨b,o,s⟩:=x;simp only at hs;subst hs;refine⟨b,o,rfl,?_,fun i hi=>?_⟩
 · exact World.block_lt_of_cell? w ⟨b,o,none⟩ (by simpa [Addr.add] using h)
 · have:=hcell i aS;have hadd:(⟨b,o,none⟩:Addr).add i=⟨b,o+i,none⟩:=by unfold Addr.add;split <;> simp_all
   rwa [hadd] at this
theorem args_ints_of (ht:P.underlying t=some (.slice e))(he:P.underlying e=some (.int k))(hc:P.cellsOf e=1)(hval:Value.okWide P w r b0 t v)
 (hd:DataW.Trod enc P w base (fun _=>true) held t v d ps) :
 ∃ A n c,∃ zs:List Int,v=.slice A n c/\zs.length=n/\Row w A n (fun i=>.int k (zs.getD i 0))/\n<=c/\c<=maxLen/\(∀ z ∈ zs,(Lit.int k z).wf=true):=by
 obtain⟨a0,len,cap,rfl⟩:=okWide_slice ht hval;obtain⟨fuel,hf⟩:=hd;rcases open_ints ht he hc hf with ⟨hcs,_⟩ | ⟨x,l,c,zs,hcs,_,hl,hm,hz,_,hcell,hwz⟩
 · simp[Value.cells] at hcs;obtain⟨rfl,rfl,rfl⟩:=hcs;exact⟨none,0,0,[],rfl,rfl,Row.nil _ _ _,Nat.le_refl _,by unfold maxLen;omega,by simp⟩
 · simp[Value.cells] at hcs;obtain⟨rfl,rfl,rfl⟩:=hcs;simp only[if_true] at hz;refine⟨some x,len,cap,zs.take len,rfl,by simp;omega,(ot aS hcell).congr fun i hi=>?_,hl,hm,fun z hzm=>hwz z (List.mem_of_mem_take hzm)⟩;simp[af,hi]
theorem args_bytes (ht:P.underlying t=some (.slice e))(he:P.underlying e=some (.int .u8))(hc:P.cellsOf e=1)(hval:Value.okWide P w r b0 t v)
 (hd:DataW.Trod enc P w base (fun _=>true) held t v d ps) :
 ∃ A n c l,v=.slice A n c/\RB w A n l/\n<=c/\c<=maxLen:=by
 obtain⟨A,n,c,zs,rfl,hlen,hrow,hnc,hm,hwf⟩:=args_ints_of ht he hc hval hd;refine⟨A,n,c,zs.map fun z=>UInt8.ofNat z.toNat,rfl,⟨by simpa using hlen,hrow.congr fun i hi=>?_⟩,hnc,hm⟩;have hi':i<zs.length:=aS;have hb:=bounds_u8 (hwf _ (List.getElem_mem hi'));simp only[bj,af,List.getElem?_map,ap hi',Option.map_some,Option.getD_some]
 congr 1
 rw[UInt8.toNat_ofNat_of_lt' jW];omega
end
open Go.RowKit Go.WideShapes Go.ChangeShapes Go.Deep
open Go.RowKit Go.WideShapes Go.ChangeShapes Go.Deep Go.Joins
section
variable {H:Type} {enc:TypeId × Value→H} {P:Program} {w:World} {base b0:Nat} {held:Bool} {r:Reach} {v:Value} {d:DataW H} {ps:List MemPlace}
theorem slice_of_trod {spare:Nat->Bool}{y:DataW H × List MemPlace}(ht:P.underlying t=some (.slice e))(hf:DataW.trod enc P w base spare held fuel t [v]=some y):∃ a len cap,v=.slice a len cap:=by
 rcases DataW.trod_slice ht hf with ⟨h,_⟩ | ⟨a,len,cap,_,_,_,_,h,_⟩
 · exact⟨none,0,0,by simpa using h⟩
 · exact⟨some a,len,cap,by simpa using h⟩
theorem trod_ints_of (ht:P.underlying t=some (.slice e))(he:P.underlying e=some (.int k))(hc:P.cellsOf e=1) 
  {y:DataW H × List MemPlace} (hf:DataW.trod enc P w base (fun _=>true) held fuel t [v]=some y) :
 ∃ A n c,∃ zs:List Int,v=.slice A n c/\zs.length=n/\Row w A n (fun i=>.int k (zs.getD i 0))/\n<=c/\c<=maxLen/\(∀ z ∈ zs,(Lit.int k z).wf=true):=by
 obtain⟨a0,len,cap,rfl⟩:=slice_of_trod ht hf;rcases open_ints ht he hc hf with ⟨hcs,_⟩ | ⟨x,l,c,zs,hcs,_,hl,hm,hz,_,hcell,hwz⟩
 · simp at hcs;obtain⟨rfl,rfl,rfl⟩:=hcs;exact⟨none,0,0,[],rfl,rfl,Row.nil _ _ _,Nat.le_refl _,by unfold maxLen;omega,by simp⟩
 · simp at hcs;obtain⟨rfl,rfl,rfl⟩:=hcs;simp only[if_true] at hz;refine⟨some x,len,cap,zs.take len,rfl,by simp;omega,(ot aS hcell).congr fun i hi=>?_,hl,hm,fun z hzm=>hwz z (List.mem_of_mem_take hzm)⟩;simp[af,hi]
theorem trod_ints (ht:P.underlying t=some (.slice e))(he:P.underlying e=some (.int .i64))(hc:P.cellsOf e=1) 
  {y:DataW H × List MemPlace} (hf:DataW.trod enc P w base (fun _=>true) held fuel t [v]=some y) :
 ∃ A n c l,v=.slice A n c/\RI w A n l/\n<=c/\c<=maxLen/\(∀ z ∈ l,-9223372036854775808<=z/\z<=9223372036854775807):=by
 obtain⟨A,n,c,zs,rfl,hlen,hrow,hnc,hm,hwf⟩:=trod_ints_of ht he hc hf;exact⟨A,n,c,zs,rfl,⟨hlen,hrow⟩,hnc,hm,fun z hz=>bounds_i64 (hwf z hz)⟩
end
open Go.RowKit Go.WideShapes Go.ChangeShapes Go.Deep Go.Joins
theorem list_of {α:Type}{P:Nat->α->Prop}(h:∀ i,i<n->∃ x,P i x):∃ l:List α,l.length=n/\∀ k x,l[k]?=some x->P k x:=by
 induction n with
 | zero=>exact⟨[],rfl,fun k x hx=>by simp at hx⟩
 | succ n ih=>
   obtain⟨l,hl,hp⟩:=ih (fun i hi=>h i aS);obtain⟨x,hx⟩:=h n aS;refine⟨l ++ [x],by simp[hl],fun k y hy=>?_⟩;rcases az k n with hk | hk
   · rw[aP aS] at hy;exact hp k y hy
   · rw[aK aS] at hy;have:k - l.length=0:=by
      rcases aI (k - l.length) with q | q
      · exact q
      · rw[aE cI] at hy;cases hy
     rw[this] at hy;simp only[List.getElem?_cons_zero,Option.some.injEq] at hy;have e:k=n:=aS;subst e hy;exact hx
open Go.ChangeShapes Go.WideShapes Go.RowKit Go.Deep
def I64 (z:Int):Prop:=-9223372036854775808<=z/\z<=9223372036854775807
open Go.ChangeShapes Go.WideShapes Go.RowKit Go.Deep
section
variable {H:Type} {enc:TypeId × Value→H} {w:World} {base b0:Nat} {held:Bool} {r:Reach} {v:Value} {d:DataW H} {ps:List MemPlace}
structure lI (s:SV):Prop where
 tick:I64 s.tick
 hash:I64 s.hash
 cells:∀ z ∈ s.cells,I64 z
end
open Go.RowKit
theorem mU {n:Int}(hn:-9223372036854775808<=n/\n<=9223372036854775807)(a b:List UInt8):fA (a ++ (nBs n ++ b)) a.length=n:=by
 unfold fA;rw[List.drop_left,List.take_left' (jq n)];unfold nBs;rw[mK _ (un_lt n),sg_un hn.1 hn.2]
theorem flat_len8 (l:List Int):(l.flatMap nBs).length=8 * l.length:=by
 induction l with
 | nil=>rfl
 | cons a l ih=>rw[List.flatMap_cons,ay,ih,jq,aF];omega
theorem stBs_len (s:SV):(stBs s).length=16+8 * s.cells.length:=by
 unfold stBs;rw[ay,ay,jq,jq,flat_len8]
theorem numAt_flat (l:List Int)(hl:∀ z ∈ l,-9223372036854775808<=z/\z<=9223372036854775807)(a:List UInt8)(k:Nat)(hk:k<l.length):fA (a ++ l.flatMap nBs) (a.length+8 * k)=l[k]:=by
 induction l generalizing a k with
 | nil=>simp at hk
 | cons z l ih=>
   rw[List.flatMap_cons]
   cases k with
   | zero=>exact mU (hl z a8) a _
   | succ k=>
     have:=ih (fun y hy=>hl y (by simp[hy])) (a ++ nBs z) k (by simpa using hk);rw[ay,jq,aM] at this;rw[show a.length+8 * (k+1)=a.length+8+8 * k by omega,this];rfl
theorem snapOf_stBs {s:SV}(ht:I64 s.tick)(hh:I64 s.hash)(hc:∀ z ∈ s.cells,I64 z):snapOf s.cells.length (stBs s)=s:=by
 have e1:fA (stBs s) 0=s.tick:=by
  have:=mU (n:=s.tick) ht [] (nBs s.hash ++ s.cells.flatMap nBs);rw[List.nil_append,<- aM] at this;exact this
 have e2:fA (stBs s) 8=s.hash:=by
  have:=mU (n:=s.hash) hh (nBs s.tick) (s.cells.flatMap nBs);rw[<- aM,jq] at this;exact this
 have e3:fV (stBs s) s.cells.length=s.cells:=by
  apply List.ext_getElem
  · simp[fV]
  intro k h1 h2;have:=numAt_flat s.cells hc (nBs s.tick ++ nBs s.hash) k h2;rw[ay,jq,jq] at this;have e:(fV (stBs s) s.cells.length)[k]=fA (stBs s) (16+8 * k):=by
   simp only[fV,List.getElem_map,List.getElem_range]
  rw[e];exact this
 obtain⟨t,h,c⟩:=s;unfold snapOf;simp only at e1 e2 e3;rw[e1,e2,e3]
theorem aadd_any (g k:Nat)(x y:Int)(w:World)(hc:w.cell? ⟨g,k,none⟩=some (I x))(hz:w.frozen? ⟨g,k,none⟩=false) :
 Ca 305 #[.pointer (some ⟨g,k,none⟩),I y] w fun e w'=>e=.returned (I (wrap64 (x+y)))/\w.setCell ⟨g,k,none⟩ (I (wrap64 (x+y)))=w':=by
 have hl:=run_call_add (P:=Tryz.prog) Tryz.func320 bO bO bO .i64 bO (y:=y) (s:=wrap64 (x+y)) hc hz (by simp[go_sem,wrap64,IntKind.wrap_i64]);generalize wrap64 (x+y)=z at *;go_enter Tryz.func305,Tryz.ntmps305;go_wp2;go_ret;exact⟨rfl,rfl⟩
theorem has_yes (g:Nat)(kind:Int)(w:World)(h1:1<=kind)(h2:kind<=6):Ca 304 #[.pointer (some ⟨g,0,none⟩),I kind] w fun e w'=>e=.returned (.bool true)/\w=w':=by
 go_enter Tryz.func304,Tryz.ntmps304;go_wp2;go_ret;exact⟨rfl,rfl⟩
theorem has_no (g:Nat)(kind:Int)(w:World)(h:¬ (1<=kind/\kind<=6)):Ca 304 #[.pointer (some ⟨g,0,none⟩),I kind] w fun e w'=>e=.returned (.bool false)/\w=w':=by
 have h':kind<1\/(1<=kind/\6<kind):=aS;clear h;rcases h' with h | ⟨h1,h2⟩
 all_goals
  go_enter Tryz.func304,Tryz.ntmps304;go_wp2;go_ret;exact⟨dn (by first | (simp;done) | (simp;omega)),rfl⟩
theorem has_nil (kind:Int)(w:World):Ca 304 #[.pointer none,I kind] w fun e w'=>e=.returned (.bool false)/\w=w':=by
 go_enter Tryz.func304,Tryz.ntmps304;go_wp2;go_ret;exact⟨rfl,rfl⟩
def eK (w:World)(g:Nat)(l:List Int):Prop:=l.length=6/\Blk w g 300 (l.map iv)
def mPut (l:List Int)(kind x:Int):List Int:=l.set (kind - 1).toNat x
def mGet (l:List Int)(kind:Int):Int:=l.getD (kind - 1).toNat 0
theorem mPut_len (l:List Int)(kind x:Int):(mPut l kind x).length=l.length:=by simp[mPut]
theorem eK.cell (h:eK w g l)(k:Nat)(hk:k<6):w.cell? ⟨g,k,none⟩=some (I (mGet l ((k:Int)+1))):=by
 rw[h.2.cell];have:k<l.length:=by rw[h.1];exact hk
 unfold mGet iv;rw[show ((k:Int)+1 - 1).toNat=k from by omega];simp[af,this]
theorem eK.put (h:eK w g l)(k:Nat)(x:Int):eK (w.setCell ⟨g,k,none⟩ (I x)) g (mPut l ((k:Int)+1) x):=by
 refine⟨by rw[mPut_len];exact h.1,?_⟩;unfold mPut;rw[show ((k:Int)+1 - 1).toNat=k from by omega,List.map_set];exact h.2.set_ k _
theorem newmeter_any (w:World):Ca 117 #[] w fun e w'=>e=.returned (.pointer (some ⟨w.heap.size,0,none⟩))/\eK w' w.heap.size [0,0,0,0,0,0]/\Below w.heap.size w w'/\w'.heap.size=w.heap.size+1:=by
 have hbu:∀ w:World,(Instr.build 300 #[]).run Tryz.prog w=.ok (.agg #[I 0,I 0,I 0,I 0,I 0,I 0]) w:=fun w=>run_build w _ _ _ bO
 go_enter Tryz.func117,Tryz.ntmps117;go_wp2;go_ret;exact⟨rfl,⟨rfl,Blk.top _ rfl rfl⟩,a9,by simp⟩
theorem add_yes (g:Nat)(l:List Int)(kind n:Int)(w:World)(hm:eK w g l)(h1:1<=kind)(h2:kind<=6) :
 Ca 285 #[.pointer (some ⟨g,0,none⟩),I kind,I n] w fun e w'=>e=.returned (.bool true)/\eK w' g (mPut l kind (wrap64 (mGet l kind+n)))/\w.grownBy w' (some g)/\w'.heap.size=w.heap.size:=by
 obtain⟨k,rfl⟩:∃ k:Nat,kind=(k:Int)+1:=⟨(kind - 1).toNat,aS⟩;have hk:k<6:=aS;have hc:=hm.cell k hk;have hz:=hm.2.frozen k;have hp:=fun x=>aT (hm.put k x)
 generalize mGet l ((k:Int)+1)=x at *;have hput:=hp;clear hp;go_enter Tryz.func285,Tryz.ntmps285;go_wp2_with (first | (go_at_call 304;go_call (has_yes _ _ _ h1 h2) as e w1 ⟨rfl,rfl⟩) | (go_at_call 305;go_call (aadd_any _ _ _ _ _ hc hz) as e w1 ⟨rfl,rfl⟩));go_ret;exact⟨rfl,(hput _).out,dW _,by simp[World.setCell]⟩
def NoKind (A:Option Addr)(kind:Int):Prop:=(∃ g,A=some ⟨g,0,none⟩/\¬ (1<=kind/\kind<=6))\/A=none
theorem has_not (A:Option Addr)(kind:Int)(w:World)(h:NoKind A kind):Ca 304 #[.pointer A,I kind] w fun e w'=>e=.returned (.bool false)/\w=w':=by
 rcases h with ⟨g,rfl,h⟩ | rfl
 · exact has_no g kind w h
 · exact has_nil kind w
theorem add_no (A:Option Addr)(kind n:Int)(w:World)(h:NoKind A kind):Ca 285 #[.pointer A,I kind,I n] w fun e w'=>e=.returned (.bool false)/\w=w':=by
 go_enter Tryz.func285,Tryz.ntmps285;go_wp2_with (go_at_call 304;go_call (has_not _ _ _ h) as e w1 ⟨rfl,rfl⟩);go_ret;exact⟨rfl,rfl⟩
theorem eK.alloc (h:eK w g l)(o:Obj):eK (w.alloc o) g l:=⟨h.1,h.2.alloc o⟩
def inK (kind:Int):Bool:=decide (1<=kind/\kind<=6)
def mAdd (l:List Int)(kind n:Int):List Int:=if inK kind then mPut l kind (wrap64 (mGet l kind+n)) else l
theorem inK_yes (h:inK kind=true):1<=kind/\kind<=6:=by simpa [inK] using h
theorem inK_no (h:inK kind=false):NoKind (some ⟨g,0,none⟩) kind:=.inl ⟨g,rfl,by simpa [inK] using h⟩
theorem add_any (g:Nat)(l:List Int)(kind n:Int)(w:World)(hm:eK w g l) :
 Ca 285 #[.pointer (some ⟨g,0,none⟩),I kind,I n] w fun e w'=>e=.returned (.bool (inK kind))/\eK w' g (mAdd l kind n)/\w.grownBy w' (some g)/\w'.heap.size=w.heap.size:=by
 cases h:inK kind with
 | true=>unfold mAdd;rw[if_pos h];exact add_yes g l kind n w hm (inK_yes h).1 (inK_yes h).2
 | false=>unfold mAdd;rw[if_neg (by simp[h])];exact (add_no _ kind n w (inK_no h)).mono fun e w' ⟨he,hw⟩=>by subst hw;exact⟨he,hm,World.grownBy.refl _ _,rfl⟩
def ki (x:Nat):Nat:=if x % 2=1 then (x / 2) ^^^ 3988292384 else x / 2
def jD:Nat->Nat->Nat
 | 0,x=>x
 | k+1,x=>jD k (ki x)
def jr (c b:Nat):Nat:=jD 8 (c ^^^ b)
def iQ (c:Nat)(l:List UInt8):Nat:=l.foldl (fun c b=>jr c b.toNat) c
def iR (s:Nat)(l:List UInt8):Nat:=4294967295 - iQ (4294967295 - s) l
def fh (ls:List (List UInt8)):Nat:=ls.foldl iR 0
theorem lJ {a b:Nat}(ha:a<4294967296)(hb:b<4294967296):a ^^^ b<4294967296:=Nat.xor_lt_two_pow (n:=32) ha hb
theorem crcBit_lt {x:Nat}(h:x<4294967296):ki x<4294967296:=by
 unfold ki;split
 · exact lJ (by omega) (by omega)
 · omega
theorem crcBits_lt (k:Nat):∀ {x:Nat},x<4294967296->jD k x<4294967296:=by
 induction k with
 | zero=>intro x h;exact h
 | succ k ih=>intro x h;exact ih (crcBit_lt h)
theorem crcStep_lt {c b:Nat}(hc:c<4294967296)(hb:b<256):jr c b<4294967296:=crcBits_lt 8 (lJ hc (by omega))
theorem ox (s:Nat)(l:List UInt8):iR s l<4294967296:=by unfold iR;omega
theorem crcFold_snoc (c:Nat)(a:List UInt8)(x:UInt8):iQ c (a ++ [x])=jr (iQ c a) x.toNat:=by simp[iQ]
theorem crcSum_take (ls:List (List UInt8))(k:Nat)(h:k<ls.length):fh (ls.take (k+1))=iR (fh (ls.take k)) (ls.getD k []):=by
 unfold fh;rw[aQ h,List.foldl_append,af,ap h];rfl
theorem mV (ls:List (List UInt8)):fh ls<4294967296:=by
 rcases List.eq_nil_or_concat ls with rfl | ⟨l,x,rfl⟩
 · decide
 · have:fh (l ++ [x])=iR (fh l) x:=by simp[fh]
   simp only[List.concat_eq_append,this];exact ox _ _
theorem IntKind.wrap_u32' (n:Int):IntKind.u32.wrap n=n % 4294967296:=by simp[IntKind.wrap,IntKind.bits,IntKind.signed]
theorem kE (a:Nat)(ha:a<4294967296):(BitVec.ofInt 32 (a:Int)).toNat=a:=by
 rw[BitVec.ofInt_natCast,BitVec.toNat_ofNat];exact Nat.mod_eq_of_lt (by omega)
theorem u32_xor (a b:Nat)(ha:a<4294967296)(hb:b<4294967296):bits .xor .u32 (a:Int) (b:Int)=((a ^^^ b:Nat):Int):=by
 have hx:=lJ ha hb
 show IntKind.u32.wrap ((BitVec.ofInt 32 (a:Int) ^^^ BitVec.ofInt 32 (b:Int)).toNat:Int)=_
 rw[BitVec.toNat_xor,kE a ha,kE b hb,IntKind.wrap_u32'];omega
theorem u32_and_one (a:Nat)(ha:a<4294967296):bits .and .u32 (a:Int) 1=((a % 2:Nat):Int):=by
 show IntKind.u32.wrap ((BitVec.ofInt 32 (a:Int) &&& BitVec.ofInt 32 ((1:Nat):Int)).toNat:Int)=_
 rw[BitVec.toNat_and,kE a ha,kE 1 (by omega),IntKind.wrap_u32',Nat.and_one_is_mod];omega
theorem u32_turn (x:Nat)(hx:x<4294967296):bits .xor .u32 ((x:Int) / 2) 3988292384=((x / 2 ^^^ 3988292384:Nat):Int):=by
 have:=u32_xor (x / 2) 3988292384 (by omega) (by omega);rw[<- this];rfl
theorem u32_not (s:Nat)(hs:s<4294967296):bits .xor .u32 IntKind.u32.max (s:Int)=((4294967295 - s:Nat):Int):=by
 show IntKind.u32.wrap ((BitVec.ofInt 32 IntKind.u32.max ^^^ BitVec.ofInt 32 (s:Int)).toNat:Int)=_
 have h1:BitVec.ofInt 32 IntKind.u32.max=BitVec.allOnes 32:=by decide
 rw[h1,BitVec.allOnes_xor,BitVec.toNat_not,kE s hs,IntKind.wrap_u32'];omega
theorem step_any (c b:Nat)(w:World)(hc:c<4294967296)(hb:b<256) :
 Ca 316 #[.int .u32 c,.int .u8 b] w fun e w'=>e=.returned (.int .u32 (jr c b))/\w=w':=by
 have hx:=u32_xor c b hc (by omega);have hlt:c ^^^ b<4294967296:=lJ hc (by omega);have hd:jr c b=jD 8 (c ^^^ b):=rfl;generalize hz:jr c b=z at *;generalize hy:c ^^^ b=y at *;have Hd:=Lib.hid hd;clear hd hz hy;go_enter Tryz.func316,Tryz.ntmps316;go_wp2;go_loop [0,9] (fun c i=>∃ k:Nat,∃ x:Nat,k<=8/\x<4294967296/\Hid (z=jD (8 - k) x)/\i=I k/\c=.int .u32 x) (fun _ i=>8 - (intOf i).toNat)
 case atStart=>exact⟨0,y,Nat.zero_le _,hlt,Hd,rfl,rfl⟩
 case round=>
  obtain⟨k,x,hk,hx,HX,rfl,rfl⟩:=hrel;have ha:=u32_and_one x hx;have ht:=u32_turn x hx;have hb:=@crcBit_lt x hx
  by_cases hlt:k<8
  · have HB:Hid (jD (8 - k) x=jD (8 - (k+1)) (ki x)):=by rw[show 8 - k=(8 - (k+1))+1 from by omega];rfl
    by_cases h1:x % 2=1
    · have HC:Hid (ki x=x / 2 ^^^ 3988292384):=if_pos h1;have h2:(((x % 2:Nat):Int) == 1)=true:=by rw[beq_iff_eq];omega
      clear h1;go_wp2;go_round
      case rel=>exact⟨k+1,_,by omega,hb,HX.out.trans HB.out,by go_num,by rw[HC.out]⟩
      case measure=>simp[intOf];omega
    · have HC:Hid (ki x=x / 2):=if_neg h1;have h2:(((x % 2:Nat):Int) == 1)=false:=by rw[ae];omega
      clear h1;go_wp2;go_round
      case rel=>exact⟨k+1,_,by omega,hb,HX.out.trans HB.out,by go_num,by rw[HC.out];rfl⟩
      case measure=>simp[intOf];omega
  · go_wp2;go_ret;refine⟨?_,rfl⟩;have e:8 - k=0:=by omega
    rw[HX.out,e];rfl
theorem crcFold_take (c:Nat)(l:List UInt8)(k:Nat)(h:k<l.length):iQ c (l.take (k+1))=jr (iQ c (l.take k)) (bj l k):=by
 rw[mA l k h,crcFold_snoc];rfl
theorem more_any (s:Nat)(a:Option Addr)(n c:Nat)(l:List UInt8)(w:World)(hs:s<4294967296)(hl:RB w a n l)(hn:n<=maxLen) :
 Ca 294 #[.int .u32 s,.slice a n c] w fun e w'=>e=.returned (.int .u32 (iR s l))/\w=w':=by
 unfold maxLen at hn;have hd:iR s l=4294967295 - iQ (4294967295 - s) l:=rfl;have hlen:=hl.1;generalize hz:iR s l=z at *;have HL:=Lib.hid hlen;clear hlen;have Hd:=Lib.hid hd;clear hd hz;have hsg:IntKind.u32.signed=false:=rfl;have hnot:=u32_not s hs;go_enter Tryz.func294,Tryz.ntmps294;go_wp2;go_loop [5,12] (fun c i=>∃ k:Nat,∃ x:Nat,k<=n/\x<4294967296/\Hid (x=iQ (4294967295 - s) (l.take k))/\i=I k/\c=.int .u32 x) (fun _ i=>n - (intOf i).toNat)
 case atStart=>exact⟨0,4294967295 - s,Nat.zero_le _,by omega,rfl,rfl,rfl⟩
 case round=>
  obtain⟨k,x,hk,hx,HX,rfl,rfl⟩:=hrel;clear hnot
  by_cases hlt:k<n
  · have HF:Hid (iQ (4294967295 - s) (l.take (k+1))=jr x (bj l k)):=by rw[HX.out];exact crcFold_take _ _ _ (by rw[HL.out];exact hlt)
    obtain⟨b,o,rfl,hb,hc⟩:=hl.at_ hlt;have h8:=gY l k;have hy:=crcStep_lt hx h8;go_wp2_with (go_at_call 316;(with_reducible refine (step_any _ _ _ hx h8).mono ?_);rintro e w' ⟨rfl,rfl⟩);go_round
    case rel=>exact⟨k+1,_,by omega,hy,HF.out.symm,by go_num,rfl⟩
    case measure=>simp[intOf];omega
  · have hnot:=u32_not x hx;go_wp2;go_ret;exact⟨jS (by rw[Hd.out,HX.out,au (by rw[HL.out];omega)]),rfl⟩
def RBs (w:World)(a:Option Addr)(n:Nat)(ls:List (List UInt8)):Prop :=
 ls.length=n/\∃ V:Nat->Option Addr × Nat × Nat,Row w a ls.length (fun i=>.slice (V i).1 (V i).2.1 (V i).2.2)/\∀ i,i<ls.length->RB w (V i).1 (V i).2.1 (ls.getD i [])/\(V i).2.1<=maxLen
theorem sum_any (a:Option Addr)(n c:Nat)(ls:List (List UInt8))(w:World)(hl:RBs w a n ls)(hm:n<=maxLen) :
 Ca 256 #[.slice a n c] w fun e w'=>e=.returned (.int .u32 (fh ls))/\w=w':=by
 unfold maxLen at hm;obtain⟨hn,V,hrow,hV⟩:=hl;generalize hz:fh ls=z at *;have Hn:=Lib.hid hn;rw[hn] at hrow;clear hn;have Hz:=Lib.hid hz;clear hz;go_enter Tryz.func256,Tryz.ntmps256;go_wp2;go_loop [3,8] (fun c i=>∃ k:Nat,∃ x:Nat,k<=n/\x<4294967296/\Hid (x=fh (ls.take k))/\i=I k/\c=.int .u32 x) (fun _ i=>n - (intOf i).toNat)
 case atStart=>exact⟨0,0,Nat.zero_le _,by omega,rfl,rfl,rfl⟩
 case round=>
  obtain⟨k,x,hk,hx,HX,rfl,rfl⟩:=hrel
  by_cases hlt:k<n
  · have HF:Hid (fh (ls.take (k+1))=iR x (ls.getD k [])):=by rw[HX.out];exact crcSum_take _ _ (by rw[Hn.out];exact hlt)
    obtain⟨b,o,rfl,hb,hc⟩:=hrow.at_ hlt;obtain⟨hr,hm2⟩:=hV k (by rw[Hn.out];exact hlt);have hy:=ox x (ls.getD k []);generalize ls.getD k []=lk at *;go_wp2_with (go_at_call 294;(with_reducible refine (more_any _ _ _ _ lk _ hx hr hm2).mono ?_);rintro e w' ⟨rfl,rfl⟩);go_round
    case rel=>exact⟨k+1,_,by omega,hy,HF.out.symm,by go_num,rfl⟩
    case measure=>simp[intOf];omega
  · go_wp2;go_ret;exact⟨jS (by rw[HX.out,<- Hz.out,au (by rw[Hn.out];omega)]),rfl⟩
theorem RBs.one {fr:Nat × Nat}{A:Option Addr}{c:Nat}{l:List UInt8}(hg:w.heap[g]?=some (.cells #[.slice A n c] t fr))(h:RB w A n l)(hn:n<=maxLen) :
 RBs w (some ⟨g,0,none⟩) 1 [l] :=
 ⟨rfl,fun _=>(A,n,c),Row.of_block hg 0 (fun i hi=>by
  have:i=0:=by simp at hi;exact hi
  subst this;rfl),fun i hi=>by
  have:i=0:=by simp at hi;exact hi
  subst this;exact⟨h,hn⟩⟩
def be:List UInt8:=List.replicate 128 0
theorem dJ:be.length=128:=by simp[be]
def le4 (s:Nat):List UInt8:=tabB 4 (fun i=>s / 256 ^ i % 256)
theorem gD (s:Nat):(le4 s).length=4:=by simp[le4,kB]
def fR (kind n:Nat)(load:List UInt8):List UInt8 :=
 UInt8.ofNat kind :: (putL n ++ (UInt8.ofNat load.length :: (load ++ List.replicate (113 - load.length) 0)))
def bQ (kind n:Nat)(load:List UInt8):List UInt8:=fR kind n load ++ (le4 (fh [fR kind n load]) ++ [215])
theorem lK (kind n:Nat)(load:List UInt8)(h:load.length<=113):(fR kind n load).length=123:=by
 simp[fR,iD];omega
theorem iS (kind n:Nat)(load:List UInt8)(h:load.length<=113):(bQ kind n load).length=128:=by
 simp[bQ,lK kind n load h,gD]
theorem sealL_first (kind n:Nat)(load:List UInt8)(h:kind<256):bj (bQ kind n load) 0=kind:=by
 simp only[bQ,fR,bj,List.cons_append,List.getD_cons_zero];exact UInt8.toNat_ofNat_of_lt' jW
theorem sealL_last (kind n:Nat)(load:List UInt8)(h:load.length<=113):bj (bQ kind n load) 127=215:=by
 have h1:=lK kind n load h;simp only[bQ,bj,af];rw[aK aS,aK (by rw[gD];omega),h1,gD]
 rfl
theorem oy (kind n:Nat)(load:List UInt8)(h:load.length<=113):bj (bQ kind n load) 9=load.length:=by
 have h0:=iD n;simp only[bQ,fR,bj,List.cons_append,af,aM];rw[List.getElem?_cons_succ,aK aS,h0];simp only[Nat.sub_self,List.getElem?_cons_zero,Option.getD_some];exact UInt8.toNat_ofNat_of_lt' jW
theorem sealL_num (kind n:Nat)(load:List UInt8):((bQ kind n load).drop 1).take 8=putL n:=by
 have h0:=iD n;simp only[bQ,fR,List.cons_append,List.drop_succ_cons,aJ,aM];rw[List.take_append_of_le_length aS,au aS]
theorem sealL_load (kind n:Nat)(load:List UInt8):((bQ kind n load).drop 10).take load.length=load:=by
 have h0:=iD n;simp only[bQ,fR,List.cons_append,aM];rw[show 10=9+1 from rfl,List.drop_succ_cons,show 9=(putL n).length+1 from by omega,List.drop_append,aO aS,List.nil_append,show (putL n).length+1 - (putL n).length=1 from by omega,List.drop_succ_cons,aJ,List.take_append_of_le_length aS,au aS]
def ed (b:List UInt8):Nat:=getL ((b.drop 1).take 8)
def eP (b:List UInt8):List UInt8:=(b.drop 10).take (bj b 9)
def eL (b:List UInt8)(kind:Int):Bool :=
 decide (1<=kind) && decide (kind<=255) && decide (ed b<9223372036854775808) && decide (bj b 9<=113) && decide (bQ kind.toNat (ed b) (eP b)=b)
theorem oz (b:List UInt8):ed b<18446744073709551616:=by
 unfold ed;have h1:=lA ((b.drop 1).take 8);have h2:((b.drop 1).take 8).length<=8:=List.length_take_le _ _;have h3:256 ^ ((b.drop 1).take 8).length<=256 ^ 8:=Nat.pow_le_pow_right aS h2;omega
theorem oA (h:b.length=128)(h9:bj b 9<=113):(eP b).length=bj b 9:=by
 simp[eP,h];omega
theorem mW (h:eL b kind=true):1<=kind/\kind<=255/\ed b<9223372036854775808/\bj b 9<=113/\bQ kind.toNat (ed b) (eP b)=b:=by
 simpa [eL,and_assoc] using h
theorem opens_mk (h1:1<=kind)(h2:kind<=255)(h3:ed b<9223372036854775808)(h4:bj b 9<=113)(h5:bQ kind.toNat (ed b) (eP b)=b):eL b kind=true:=by
 simp[eL,h1,h2,h3,h4,h5]
theorem mX {load:List UInt8}(h1:1<=kind)(h2:kind<=255)(h3:n<9223372036854775808)(h4:load.length<=113) :
 eL (bQ kind.toNat n load) kind=true/\ed (bQ kind.toNat n load)=n/\eP (bQ kind.toNat n load)=load:=by
 have e1:ed (bQ kind.toNat n load)=n:=by unfold ed;rw[sealL_num,mK _ aS]
 have e2:eP (bQ kind.toNat n load)=load:=by unfold eP;rw[oy _ _ _ h4,sealL_load]
 exact⟨opens_mk h1 h2 (by rw[e1];exact h3) (by rw[oy _ _ _ h4];exact h4) (by rw[e1,e2]),e1,e2⟩
theorem lL (h:eL b kind=true):(bj b 0:Int)=kind/\bj b 127=215/\b.length=128:=by
 obtain⟨h1,h2,h3,h4,h5⟩:=mW h
 by_cases hl:(eP b).length<=113
 · rw[<- h5,sealL_first _ _ _ aS,sealL_last _ _ _ hl,iS _ _ _ hl];omega
 · have:=List.length_take_le (bj b 9) (b.drop 10);unfold eP at hl;omega
theorem mY {α:Type}(a b c k:List α)(h:b.length=k.length):splice (a ++ (b ++ c)) a.length k=a ++ (k ++ c):=by
 unfold splice;rw[List.take_left',List.drop_append,aO aS,List.nil_append,show a.length+k.length - a.length=b.length from by omega,List.drop_left']
 · rfl
 · rfl
theorem seal_L3 (a b:UInt8)(p l:List UInt8)(hp:p.length=8)(hl:l.length<=113) :
 splice (splice (((be.set 0 a).set 9 b).set 127 215) 1 p) 10 l=[a] ++ (p ++ ([b] ++ (l ++ (List.replicate (117 - l.length) 0 ++ [215])))):=by
 have e1:(((be.set 0 a).set 9 b).set 127 215)=[a] ++ (List.replicate 8 0 ++ ([b] ++ (List.replicate 117 0 ++ [215]))):=rfl;have e2:splice ([a] ++ (List.replicate 8 0 ++ ([b] ++ (List.replicate 117 0 ++ [215])))) 1 p=[a] ++ (p ++ ([b] ++ (List.replicate 117 0 ++ [215]))) :=
  mY [a] (List.replicate 8 0) _ p (by rw[hp];simp)
 have e3:List.replicate 117 (0:UInt8)=List.replicate l.length 0 ++ List.replicate (117 - l.length) 0:=by rw[List.replicate_append_replicate];congr 1;omega
 rw[e1,e2,e3];have e4:[a] ++ (p ++ ([b] ++ (List.replicate l.length 0 ++ List.replicate (117 - l.length) 0 ++ [215])))=([a] ++ (p ++ [b])) ++ (List.replicate l.length 0 ++ (List.replicate (117 - l.length) 0 ++ [215])):=by simp only[aM]
 rw[e4];have:=mY ([a] ++ (p ++ [b])) (List.replicate l.length 0) (List.replicate (117 - l.length) 0 ++ [215]) l a8;rw[show ([a] ++ (p ++ [b])).length=10 from by simp[hp]] at this;rw[this];simp only[aM]
theorem seal_L3_body (kind n:Nat)(l:List UInt8)(hl:l.length<=113) :
 ([UInt8.ofNat kind] ++ (putL n ++ ([UInt8.ofNat l.length] ++ (l ++ (List.replicate (117 - l.length) 0 ++ [215])))))=fR kind n l ++ ([0,0,0,0] ++ [215]):=by
 have e3:List.replicate (117 - l.length) (0:UInt8)=List.replicate (113 - l.length) 0 ++ [0,0,0,0]:=by
  have h4:([0,0,0,0]:List UInt8)=List.replicate 4 0:=rfl;rw[h4,List.replicate_append_replicate];congr 1;omega
 rw[e3];simp[fR]
theorem seal_L3_take (kind n:Nat)(l:List UInt8)(hl:l.length<=113):(fR kind n l ++ ([0,0,0,0] ++ [215])).take 123=fR kind n l:=by
 have h:=lK kind n l hl;rw[List.take_append_of_le_length aS,au aS]
theorem seal_L4 (kind n:Nat)(l:List UInt8)(hl:l.length<=113):splice (fR kind n l ++ ([0,0,0,0] ++ [215])) 123 (le4 (fh [fR kind n l]))=bQ kind n l:=by
 have h:=lK kind n l hl;have:=mY (fR kind n l) [0,0,0,0] [215] (le4 (fh [fR kind n l])) (by rw[gD];rfl);rw[h] at this;rw[this];rfl
theorem dq:(Tryz.prog.info? 205).map (fun i=>(i.zero,i.size))=some (some (aggB be),128):=by kernel_rfl
def KindOut (kind n:Int):Prop:=kind<1\/(1<=kind/\255<kind)\/(1<=kind/\kind<=255/\n<0)
theorem make_arg (kind n:Int)(A:Option Addr)(m c:Nat)(w:World)(h:kind<1\/255<kind\/n<0) :
 Ca 199 #[I kind,I n,.slice A m c] w fun e w'=>e=.returned (.tuple #[aggB be,I 2])/\Below w.heap.size w w':=by
 have h':KindOut kind n:=by unfold KindOut;omega
 clear h;have hz:=(zero_of_info dq).1;have hi:=(zero_of_info dq).2;have hl:(be.map bv).length=128:=by simp[dJ]
 have h1:=eh (l:=be);unfold aggB at *;generalize be.map bv=Z at *;have Hl:=aT hl;have Hi:=aT hi;have H1:=aT h1;clear hl hi h1;rcases h' with h | ⟨h2,h⟩ | ⟨h2,h3,h⟩
 all_goals
  go_enter Tryz.func199,Tryz.ntmps199;go_wp2_with (first | (refine eX rfl (x:=.tmp 8) rfl rfl (t:=205) (cs:=Z) bH Tryz.underlying205 Hi.out Hl.out (xs:=Z) (by rw[aJ,au jz]) ?_) | (refine el rfl (x:=.tmp 6) (y:=.tmp 21) rfl rfl rfl (t:=205) (cs:=Z) bH Hi.out Hl.out jz H1.out ?_;intro w1 hb1 hg1 hs1));refine bodyPost_ret (v:=.tuple #[.agg Z.toArray,I 2]) (jy Tryz.results199 _ rfl rfl (by rw[dM _ _ rfl] at hb1;exact hb1) Tryz.underlying205 Hi.out Hl.out) rfl ?_;exact⟨rfl,ej a9 hg1 ba aW⟩
theorem make_limit (kind n:Int)(A:Option Addr)(m c:Nat)(w:World)(h1:1<=kind)(h2:kind<=255)(h3:0<=n)(h4:113<m)(hm:m<=maxLen) :
 Ca 199 #[I kind,I n,.slice A m c] w fun e w'=>e=.returned (.tuple #[aggB be,I 3])/\Below w.heap.size w w':=by
 unfold maxLen at hm;have hz:=(zero_of_info dq).1;have hi:=(zero_of_info dq).2;have hl:(be.map bv).length=128:=by simp[dJ]
 have h1:=eh (l:=be);unfold aggB at *;generalize be.map bv=Z at *;have Hl:=aT hl;have Hi:=aT hi;have H1:=aT h1;clear hl hi h1;go_enter Tryz.func199,Tryz.ntmps199;go_wp2_with (first | (refine eX rfl (x:=.tmp 8) rfl rfl (t:=205) (cs:=Z) bH Tryz.underlying205 Hi.out Hl.out (xs:=Z) (by rw[aJ,au jz]) ?_) | (refine el rfl (x:=.tmp 6) (y:=.tmp 26) rfl rfl rfl (t:=205) (cs:=Z) bH Hi.out Hl.out jz H1.out ?_;intro w1 hb1 hg1 hs1));refine bodyPost_ret (v:=.tuple #[.agg Z.toArray,I 3]) (jy Tryz.results199 _ rfl rfl (by rw[dM _ _ rfl] at hb1;exact hb1) Tryz.underlying205 Hi.out Hl.out) rfl ?_;exact⟨rfl,ej a9 hg1 ba aW⟩
end Go.Proofs.YtmeebofhlilcmaaGreat
