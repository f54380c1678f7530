/- Parts: PlainA, Crc, PlainSeal, SealA. -/
import Derived.WalkKit
import Derived.Test.YtmeebofhlilcmaaGreatPr00
import Derived.Test.YtmeebofhlilcmaaGreatPr02
import Derived.Laws.CopyOwn
import Derived.Test.YtmeebofhlilcmaaGreatPr01
import Derived.Deep.WholeRow
import Derived.Deep.RegionHeld3
set_option linter.unusedVariables false
set_option linter.unusedSimpArgs false
set_option maxRecDepth 100000
set_option maxHeartbeats 40000000
namespace Go.Proofs.YtmeebofhlilcmaaGreat
open Go.RowKit
def vp5 (x:Nat):Nat:=if x % 2=1 then (x / 2) ^^^ 3988292384 else x / 2
def vd9:Nat→Nat→Nat
  | 0,x => x
  | k+1,x => vd9 k (vp5 x)
def va5 (c b:Nat):Nat:=vd9 8 (c ^^^ b)
def qy5 (c:Nat) (l:List UInt8):Nat:=l.foldl (fun c b => va5 c b.toNat) c
def qy4 (s:Nat) (l:List UInt8):Nat:=4294967295 - qy5 (4294967295 - s) l
def qn3 (ls:List (List UInt8)):Nat:=ls.foldl qy4 0
theorem vb0 {a b:Nat} (ha:a<4294967296) (hb:b<4294967296):a ^^^ b<4294967296:=Nat.xor_lt_two_pow (n:=32) ha hb
theorem crcBit_lt {x:Nat} (h:x<4294967296):vp5 x<4294967296:=by
  unfold vp5;split
  · exact vb0 (by omega) (by omega)
  · omega
theorem crcBits_lt (k:Nat):∀ {x:Nat},x<4294967296→vd9 k x<4294967296:=by
  induction k with
  | zero => intro x h;exact h
  | succ k ih => intro x h;exact ih (crcBit_lt h)
theorem crcStep_lt {c b:Nat} (hc:c<4294967296) (hb:b<256):va5 c b<4294967296:=crcBits_lt 8 (vb0 hc (by omega))
theorem vp4 (s:Nat) (l:List UInt8):qy4 s l<4294967296:=by unfold qy4;omega
theorem crcFold_snoc (c:Nat) (a:List UInt8) (x:UInt8):qy5 c (a ++ [x])=va5 (qy5 c a) x.toNat:=by simp [qy5]
theorem crcSum_take (ls:List (List UInt8)) (k:Nat) (h:k<ls.length):qn3 (ls.take (k+1))=qy4 (qn3 (ls.take k)) (ls.getD k []):=by
  unfold qn3;rw [List.take_succ_eq_append_getElem h,List.foldl_append,List.getD_eq_getElem?_getD,List.getElem?_eq_getElem h];rfl
theorem vl5 (ls:List (List UInt8)):qn3 ls<4294967296:=by
  rcases List.eq_nil_or_concat ls with rfl | ⟨l,x,rfl⟩
  · decide
  · have:qn3 (l ++ [x])=qy4 (qn3 l) x:=by simp [qn3]
    simp only [List.concat_eq_append,this];exact vp4 _ _
theorem IntKind.wrap_u32' (n:Int):IntKind.u32.wrap n=n % 4294967296:=by simp [IntKind.wrap,IntKind.bits,IntKind.signed]
theorem qz5 (a:Nat) (ha:a<4294967296):(BitVec.ofInt 32 (a:Int)).toNat=a:=by
  rw [BitVec.ofInt_natCast,BitVec.toNat_ofNat];exact Nat.mod_eq_of_lt (by omega)
theorem u32_xor (a b:Nat) (ha:a<4294967296) (hb:b<4294967296):bits .xor .u32 (a:Int) (b:Int)=((a ^^^ b:Nat):Int):=by
  have hx:=vb0 ha hb
  show IntKind.u32.wrap ((BitVec.ofInt 32 (a:Int) ^^^ BitVec.ofInt 32 (b:Int)).toNat:Int)=_
  rw [BitVec.toNat_xor,qz5 a ha,qz5 b hb,IntKind.wrap_u32'];omega
theorem u32_and_one (a:Nat) (ha:a<4294967296):bits .and .u32 (a:Int) 1=((a % 2:Nat):Int):=by
  show IntKind.u32.wrap ((BitVec.ofInt 32 (a:Int) &&& BitVec.ofInt 32 ((1:Nat):Int)).toNat:Int)=_
  rw [BitVec.toNat_and,qz5 a ha,qz5 1 (by omega),IntKind.wrap_u32',Nat.and_one_is_mod];omega
theorem u32_turn (x:Nat) (hx:x<4294967296):bits .xor .u32 ((x:Int) / 2) 3988292384=((x / 2 ^^^ 3988292384:Nat):Int):=by
  have:=u32_xor (x / 2) 3988292384 (by omega) (by omega);rw [← this];rfl
theorem u32_not (s:Nat) (hs:s<4294967296):bits .xor .u32 IntKind.u32.max (s:Int)=((4294967295 - s:Nat):Int):=by
  show IntKind.u32.wrap ((BitVec.ofInt 32 IntKind.u32.max ^^^ BitVec.ofInt 32 (s:Int)).toNat:Int)=_
  have h1:BitVec.ofInt 32 IntKind.u32.max=BitVec.allOnes 32:=by decide
  rw [h1,BitVec.allOnes_xor,BitVec.toNat_not,qz5 s hs,IntKind.wrap_u32'];omega
theorem step_any (c b:Nat) (w:World) (hc:c<4294967296) (hb:b<256) :
    Calls Tryz.prog 316 #[.int .u32 c,.int .u8 b] w fun e w' => e=.returned (.int .u32 (va5 c b))∧w=w':=by
  have hx:=u32_xor c b hc (by omega);have hlt:c ^^^ b<4294967296:=vb0 hc (by omega);have hd:va5 c b=vd9 8 (c ^^^ b):=rfl;generalize hz:va5 c b=z at *;generalize hy:c ^^^ b=y at *;have Hd:=Lib.hid hd;clear hd hz hy;go_enter Tryz.func316,Tryz.ntmps316;go_wp2;go_loop [0,9] (fun c i => ∃ k:Nat,∃ x:Nat,k≤8∧x<4294967296∧Hid (z=vd9 (8 - k) x)∧i=.int .i64 k∧c=.int .u32 x) (fun _ i => 8 - (intOf i).toNat)
  case atStart => exact ⟨0,y,Nat.zero_le _,hlt,Hd,rfl,rfl⟩
  case round =>
    obtain ⟨k,x,hk,hx,HX,rfl,rfl⟩:=hrel;have ha:=u32_and_one x hx;have ht:=u32_turn x hx;have hb:=@crcBit_lt x hx
    by_cases hlt:k<8
    · have HB:Hid (vd9 (8 - k) x=vd9 (8 - (k+1)) (vp5 x)):=by rw [show 8 - k=(8 - (k+1))+1 from by omega];rfl
      by_cases h1:x % 2=1
      · have HC:Hid (vp5 x=x / 2 ^^^ 3988292384):=if_pos h1;have h2:(((x % 2:Nat):Int) == 1)=true:=by rw [beq_iff_eq];omega
        clear h1;go_wp2;go_round
        case rel => exact ⟨k+1,_,by omega,hb,HX.out.trans HB.out,by go_num,by rw [HC.out]⟩
        case measure => simp [intOf];omega
      · have HC:Hid (vp5 x=x / 2):=if_neg h1;have h2:(((x % 2:Nat):Int) == 1)=false:=by rw [beq_eq_false_iff_ne];omega
        clear h1;go_wp2;go_round
        case rel => exact ⟨k+1,_,by omega,hb,HX.out.trans HB.out,by go_num,by rw [HC.out];rfl⟩
        case measure => simp [intOf];omega
    · go_wp2;go_ret;refine ⟨?_,rfl⟩;have e:8 - k=0:=by omega
      rw [HX.out,e];rfl
theorem crcFold_take (c:Nat) (l:List UInt8) (k:Nat) (h:k<l.length):qy5 c (l.take (k+1))=va5 (qy5 c (l.take k)) (qa4 l k):=by
  rw [qv0 l k h,crcFold_snoc];rfl
theorem more_any (s:Nat) (a:Option Addr) (n c:Nat) (l:List UInt8) (w:World) (hs:s<4294967296) (hl:RB w a n l) (hn:n≤maxLen) :
    Calls Tryz.prog 294 #[.int .u32 s,.slice a n c] w fun e w' => e=.returned (.int .u32 (qy4 s l))∧w=w':=by
  unfold maxLen at hn;have hd:qy4 s l=4294967295 - qy5 (4294967295 - s) l:=rfl;have hlen:l.length=n:=hl.1;generalize hz:qy4 s l=z at *;have HL:=Lib.hid hlen;clear hlen;have Hd:=Lib.hid hd;clear hd hz;have hsg:IntKind.u32.signed=false:=rfl;have hnot:=u32_not s hs;go_enter Tryz.func294,Tryz.ntmps294;go_wp2;go_loop [5,12] (fun c i => ∃ k:Nat,∃ x:Nat,k≤n∧x<4294967296∧Hid (x=qy5 (4294967295 - s) (l.take k))∧i=.int .i64 k∧c=.int .u32 x) (fun _ i => n - (intOf i).toNat)
  case atStart => exact ⟨0,4294967295 - s,Nat.zero_le _,by omega,rfl,rfl,rfl⟩
  case round =>
    obtain ⟨k,x,hk,hx,HX,rfl,rfl⟩:=hrel;clear hnot
    by_cases hlt:k<n
    · have HF:Hid (qy5 (4294967295 - s) (l.take (k+1))=va5 x (qa4 l k)):=by rw [HX.out];exact crcFold_take _ _ _ (by rw [HL.out];exact hlt)
      obtain ⟨b,o,rfl,hb,hc⟩:=hl.at_ hlt;have h8:=qk5 l k;have hy:=crcStep_lt hx h8;go_wp2_with (go_at_call 316;(with_reducible refine (step_any _ _ _ hx h8).mono ?_);rintro e w' ⟨rfl,rfl⟩);go_round
      case rel => exact ⟨k+1,_,by omega,hy,HF.out.symm,by go_num,rfl⟩
      case measure => simp [intOf];omega
    · have hnot:=u32_not x hx;go_wp2;go_ret;exact ⟨vg4 (by rw [Hd.out,HX.out,List.take_of_length_le (by rw [HL.out];omega)]),rfl⟩
def RBs (w:World) (a:Option Addr) (n:Nat) (ls:List (List UInt8)):Prop :=
  ls.length=n∧∃ V:Nat→Option Addr × Nat × Nat,Row w a ls.length (fun i => .slice (V i).1 (V i).2.1 (V i).2.2)∧∀ i,i<ls.length→RB w (V i).1 (V i).2.1 (ls.getD i [])∧(V i).2.1≤maxLen
theorem sum_any (a:Option Addr) (n c:Nat) (ls:List (List UInt8)) (w:World) (hl:RBs w a n ls) (hm:n≤maxLen) :
    Calls Tryz.prog 256 #[.slice a n c] w fun e w' => e=.returned (.int .u32 (qn3 ls))∧w=w':=by
  unfold maxLen at hm;obtain ⟨hn,V,hrow,hV⟩:=hl;generalize hz:qn3 ls=z at *;have Hn:=Lib.hid hn;rw [hn] at hrow;clear hn;have Hz:=Lib.hid hz;clear hz;go_enter Tryz.func256,Tryz.ntmps256;go_wp2;go_loop [3,8] (fun c i => ∃ k:Nat,∃ x:Nat,k≤n∧x<4294967296∧Hid (x=qn3 (ls.take k))∧i=.int .i64 k∧c=.int .u32 x) (fun _ i => n - (intOf i).toNat)
  case atStart => exact ⟨0,0,Nat.zero_le _,by omega,rfl,rfl,rfl⟩
  case round =>
    obtain ⟨k,x,hk,hx,HX,rfl,rfl⟩:=hrel
    by_cases hlt:k<n
    · have HF:Hid (qn3 (ls.take (k+1))=qy4 x (ls.getD k [])):=by rw [HX.out];exact crcSum_take _ _ (by rw [Hn.out];exact hlt)
      obtain ⟨b,o,rfl,hb,hc⟩:=hrow.at_ hlt;obtain ⟨hr,hm2⟩:=hV k (by rw [Hn.out];exact hlt);have hy:=vp4 x (ls.getD k []);generalize ls.getD k []=lk at *;go_wp2_with (go_at_call 294;(with_reducible refine (more_any _ _ _ _ lk _ hx hr hm2).mono ?_);rintro e w' ⟨rfl,rfl⟩);go_round
      case rel => exact ⟨k+1,_,by omega,hy,HF.out.symm,by go_num,rfl⟩
      case measure => simp [intOf];omega
    · go_wp2;go_ret;exact ⟨vg4 (by rw [HX.out,← Hz.out,List.take_of_length_le (by rw [Hn.out];omega)]),rfl⟩
theorem RBs.one {w:World} {g:Nat} {t:TypeId} {fr:Nat × Nat} {A:Option Addr} {n c:Nat} {l:List UInt8} (hg:w.heap[g]?=some (.cells #[.slice A n c] t fr)) (h:RB w A n l) (hn:n≤maxLen) :
    RBs w (some ⟨g,0,none⟩) 1 [l] :=
  ⟨rfl,fun _ => (A,n,c),Row.of_block hg 0 (fun i hi => by
    have:i=0:=by simp at hi;exact hi
    subst this;rfl),fun i hi => by
    have:i=0:=by simp at hi;exact hi
    subst this;exact ⟨h,hn⟩⟩
def qa3:List UInt8:=List.replicate 128 0
theorem qc0:qa3.length=128:=by simp [qa3]
def le4 (s:Nat):List UInt8:=tabB 4 (fun i => s / 256 ^ i % 256)
theorem qj4 (s:Nat):(le4 s).length=4:=by simp [le4,ve4]
def qj7 (kind n:Nat) (load:List UInt8):List UInt8 :=
  UInt8.ofNat kind :: (putL n ++ (UInt8.ofNat load.length :: (load ++ List.replicate (113 - load.length) 0)))
def qe2 (kind n:Nat) (load:List UInt8):List UInt8:=qj7 kind n load ++ (le4 (qn3 [qj7 kind n load]) ++ [215])
theorem qu4 (kind n:Nat) (load:List UInt8) (h:load.length≤113):(qj7 kind n load).length=123:=by
  simp [qj7,qq3];omega
theorem qo6 (kind n:Nat) (load:List UInt8) (h:load.length≤113):(qe2 kind n load).length=128:=by
  simp [qe2,qu4 kind n load h,qj4]
theorem sealL_first (kind n:Nat) (load:List UInt8) (h:kind<256):qa4 (qe2 kind n load) 0=kind:=by
  simp only [qe2,qj7,qa4,List.cons_append,List.getD_cons_zero];exact UInt8.toNat_ofNat_of_lt' (by simp [UInt8.size];omega)
theorem sealL_last (kind n:Nat) (load:List UInt8) (h:load.length≤113):qa4 (qe2 kind n load) 127=215:=by
  have h1:=qu4 kind n load h;simp only [qe2,qa4,List.getD_eq_getElem?_getD];rw [List.getElem?_append_right omg,List.getElem?_append_right (by rw [qj4];omega),h1,qj4]
  rfl
theorem vn3 (kind n:Nat) (load:List UInt8) (h:load.length≤113):qa4 (qe2 kind n load) 9=load.length:=by
  have h0:=qq3 n;simp only [qe2,qj7,qa4,List.cons_append,List.getD_eq_getElem?_getD,List.append_assoc];rw [List.getElem?_cons_succ,List.getElem?_append_right omg,h0];simp only [Nat.sub_self,List.getElem?_cons_zero,Option.getD_some];exact UInt8.toNat_ofNat_of_lt' (by simp [UInt8.size];omega)
theorem sealL_num (kind n:Nat) (load:List UInt8):((qe2 kind n load).drop 1).take 8=putL n:=by
  have h0:=qq3 n;simp only [qe2,qj7,List.cons_append,List.drop_succ_cons,List.drop_zero,List.append_assoc];rw [List.take_append_of_le_length omg,List.take_of_length_le omg]
theorem sealL_load (kind n:Nat) (load:List UInt8):((qe2 kind n load).drop 10).take load.length=load:=by
  have h0:=qq3 n;simp only [qe2,qj7,List.cons_append,List.append_assoc];rw [show 10=9+1 from rfl,List.drop_succ_cons,show 9=(putL n).length+1 from by omega,List.drop_append,List.drop_of_length_le omg,List.nil_append,show (putL n).length+1 - (putL n).length=1 from by omega,List.drop_succ_cons,List.drop_zero,List.take_append_of_le_length omg,List.take_of_length_le omg]
def qg0 (b:List UInt8):Nat:=getL ((b.drop 1).take 8)
def qg6 (b:List UInt8):List UInt8:=(b.drop 10).take (qa4 b 9)
def qs0 (b:List UInt8) (kind:Int):Bool :=
  decide (1≤kind) && decide (kind≤255) && decide (qg0 b<9223372036854775808) && decide (qa4 b 9≤113) && decide (qe2 kind.toNat (qg0 b) (qg6 b)=b)
theorem vn8 (b:List UInt8):qg0 b<18446744073709551616:=by
  unfold qg0;have h1:=vr2 ((b.drop 1).take 8);have h2:((b.drop 1).take 8).length≤8:=List.length_take_le _ _;have h3:256 ^ ((b.drop 1).take 8).length≤256 ^ 8:=Nat.pow_le_pow_right omg h2;omega
theorem vi0 {b:List UInt8} (h:b.length=128) (h9:qa4 b 9≤113):(qg6 b).length=qa4 b 9:=by
  simp [qg6,h];omega
theorem vd2 {b:List UInt8} {kind:Int} (h:qs0 b kind=true):1≤kind∧kind≤255∧qg0 b<9223372036854775808∧qa4 b 9≤113∧qe2 kind.toNat (qg0 b) (qg6 b)=b:=by
  simpa [qs0,and_assoc] using h
theorem opens_mk {b:List UInt8} {kind:Int} (h1:1≤kind) (h2:kind≤255) (h3:qg0 b<9223372036854775808) (h4:qa4 b 9≤113) (h5:qe2 kind.toNat (qg0 b) (qg6 b)=b):qs0 b kind=true:=by
  simp [qs0,h1,h2,h3,h4,h5]
theorem vg8 {kind:Int} {n:Nat} {load:List UInt8} (h1:1≤kind) (h2:kind≤255) (h3:n<9223372036854775808) (h4:load.length≤113) :
    qs0 (qe2 kind.toNat n load) kind=true∧qg0 (qe2 kind.toNat n load)=n∧qg6 (qe2 kind.toNat n load)=load:=by
  have e1:qg0 (qe2 kind.toNat n load)=n:=by unfold qg0;rw [sealL_num,vk8 _ omg]
  have e2:qg6 (qe2 kind.toNat n load)=load:=by unfold qg6;rw [vn3 _ _ _ h4,sealL_load]
  exact ⟨opens_mk h1 h2 (by rw [e1];exact h3) (by rw [vn3 _ _ _ h4];exact h4) (by rw [e1,e2]),e1,e2⟩
theorem vb4 {b:List UInt8} {kind:Int} (h:qs0 b kind=true):(qa4 b 0:Int)=kind∧qa4 b 127=215∧b.length=128:=by
  obtain ⟨h1,h2,h3,h4,h5⟩:=vd2 h
  by_cases hl:(qg6 b).length≤113
  · rw [← h5,sealL_first _ _ _ omg,sealL_last _ _ _ hl,qo6 _ _ _ hl];omega
  · have:=List.length_take_le (qa4 b 9) (b.drop 10);unfold qg6 at hl;omega
theorem vg3 {α:Type} (a b c k:List α) (h:b.length=k.length):splice (a ++ (b ++ c)) a.length k=a ++ (k ++ c):=by
  unfold splice;rw [List.take_left',List.drop_append,List.drop_of_length_le omg,List.nil_append,show a.length+k.length - a.length=b.length from by omega,List.drop_left']
  · rfl
  · rfl
theorem seal_L3 (a b:UInt8) (p l:List UInt8) (hp:p.length=8) (hl:l.length≤113) :
    splice (splice (((qa3.set 0 a).set 9 b).set 127 215) 1 p) 10 l=[a] ++ (p ++ ([b] ++ (l ++ (List.replicate (117 - l.length) 0 ++ [215])))):=by
  have e1:(((qa3.set 0 a).set 9 b).set 127 215)=[a] ++ (List.replicate 8 0 ++ ([b] ++ (List.replicate 117 0 ++ [215]))):=rfl;have e2:splice ([a] ++ (List.replicate 8 0 ++ ([b] ++ (List.replicate 117 0 ++ [215])))) 1 p=[a] ++ (p ++ ([b] ++ (List.replicate 117 0 ++ [215]))) :=
    vg3 [a] (List.replicate 8 0) _ p (by rw [hp];simp)
  have e3:List.replicate 117 (0:UInt8)=List.replicate l.length 0 ++ List.replicate (117 - l.length) 0:=by rw [List.replicate_append_replicate];congr 1;omega
  rw [e1,e2,e3];have e4:[a] ++ (p ++ ([b] ++ (List.replicate l.length 0 ++ List.replicate (117 - l.length) 0 ++ [215])))=([a] ++ (p ++ [b])) ++ (List.replicate l.length 0 ++ (List.replicate (117 - l.length) 0 ++ [215])):=by simp only [List.append_assoc]
  rw [e4];have:=vg3 ([a] ++ (p ++ [b])) (List.replicate l.length 0) (List.replicate (117 - l.length) 0 ++ [215]) l smp;rw [show ([a] ++ (p ++ [b])).length=10 from by simp [hp]] at this;rw [this];simp only [List.append_assoc]
theorem seal_L3_body (kind n:Nat) (l:List UInt8) (hl:l.length≤113) :
    ([UInt8.ofNat kind] ++ (putL n ++ ([UInt8.ofNat l.length] ++ (l ++ (List.replicate (117 - l.length) 0 ++ [215])))))=qj7 kind n l ++ ([0,0,0,0] ++ [215]):=by
  have e3:List.replicate (117 - l.length) (0:UInt8)=List.replicate (113 - l.length) 0 ++ [0,0,0,0]:=by
    have h4:([0,0,0,0]:List UInt8)=List.replicate 4 0:=rfl;rw [h4,List.replicate_append_replicate];congr 1;omega
  rw [e3];simp [qj7]
theorem seal_L3_take (kind n:Nat) (l:List UInt8) (hl:l.length≤113):(qj7 kind n l ++ ([0,0,0,0] ++ [215])).take 123=qj7 kind n l:=by
  have h:=qu4 kind n l hl;rw [List.take_append_of_le_length omg,List.take_of_length_le omg]
theorem seal_L4 (kind n:Nat) (l:List UInt8) (hl:l.length≤113):splice (qj7 kind n l ++ ([0,0,0,0] ++ [215])) 123 (le4 (qn3 [qj7 kind n l]))=qe2 kind n l:=by
  have h:=qu4 kind n l hl;have:=vg3 (qj7 kind n l) [0,0,0,0] [215] (le4 (qn3 [qj7 kind n l])) (by rw [qj4];rfl);rw [h] at this;rw [this];rfl
theorem qe1:(Tryz.prog.info? 205).map (fun i => (i.zero,i.size))=some (some (aggB qa3),128):=by kernel_rfl
def KindOut (kind n:Int):Prop:=kind<1∨(1≤kind∧255<kind)∨(1≤kind∧kind≤255∧n<0)
theorem make_arg (kind n:Int) (A:Option Addr) (m c:Nat) (w:World) (h:kind<1∨255<kind∨n<0) :
    Calls Tryz.prog 199 #[.int .i64 kind,.int .i64 n,.slice A m c] w fun e w' => e=.returned (.tuple #[aggB qa3,.int .i64 2])∧Below w.heap.size w w':=by
  have h':KindOut kind n:=by unfold KindOut;omega
  clear h;have hz:=(zero_of_info qe1).1;have hi:=(zero_of_info qe1).2;have hl:(qa3.map bv).length=128:=by simp [qc0]
  have h1:=qk1 (l:=qa3);unfold aggB at *;generalize qa3.map bv=Z at *;have Hl:=hdd hl;have Hi:=hdd hi;have H1:=hdd h1;clear hl hi h1;rcases h' with h | ⟨h2,h⟩ | ⟨h2,h3,h⟩
  all_goals
    go_enter Tryz.func199,Tryz.ntmps199;go_wp2_with (first | (refine qb8 rfl (x:=.tmp 8) rfl rfl (t:=205) (cs:=Z) blq Tryz.underlying205 Hi.out Hl.out (xs:=Z) (by rw [List.drop_zero,List.take_of_length_le (by rw [Hl.out];omega)]) ?_) | (refine qb2 rfl (x:=.tmp 6) (y:=.tmp 21) rfl rfl rfl (t:=205) (cs:=Z) blq Hi.out Hl.out (by rw [Hl.out];omega) H1.out ?_;intro w1 hb1 hg1 hs1));refine bodyPost_ret (v:=.tuple #[.agg Z.toArray,.int .i64 2]) (qi6 Tryz.results199 _ rfl rfl (by rw [qc1 _ _ rfl] at hb1;exact hb1) Tryz.underlying205 Hi.out Hl.out) rfl ?_;exact ⟨rfl,qb6 gwn hg1 szz nlr⟩
theorem make_limit (kind n:Int) (A:Option Addr) (m c:Nat) (w:World) (h1:1≤kind) (h2:kind≤255) (h3:0≤n) (h4:113<m) (hm:m≤maxLen) :
    Calls Tryz.prog 199 #[.int .i64 kind,.int .i64 n,.slice A m c] w fun e w' => e=.returned (.tuple #[aggB qa3,.int .i64 3])∧Below w.heap.size w w':=by
  unfold maxLen at hm;have hz:=(zero_of_info qe1).1;have hi:=(zero_of_info qe1).2;have hl:(qa3.map bv).length=128:=by simp [qc0]
  have h1:=qk1 (l:=qa3);unfold aggB at *;generalize qa3.map bv=Z at *;have Hl:=hdd hl;have Hi:=hdd hi;have H1:=hdd h1;clear hl hi h1;go_enter Tryz.func199,Tryz.ntmps199;go_wp2_with (first | (refine qb8 rfl (x:=.tmp 8) rfl rfl (t:=205) (cs:=Z) blq Tryz.underlying205 Hi.out Hl.out (xs:=Z) (by rw [List.drop_zero,List.take_of_length_le (by rw [Hl.out];omega)]) ?_) | (refine qb2 rfl (x:=.tmp 6) (y:=.tmp 26) rfl rfl rfl (t:=205) (cs:=Z) blq Hi.out Hl.out (by rw [Hl.out];omega) H1.out ?_;intro w1 hb1 hg1 hs1));refine bodyPost_ret (v:=.tuple #[.agg Z.toArray,.int .i64 3]) (qi6 Tryz.results199 _ rfl rfl (by rw [qc1 _ _ rfl] at hb1;exact hb1) Tryz.underlying205 Hi.out Hl.out) rfl ?_;exact ⟨rfl,qb6 gwn hg1 szz nlr⟩
end Go.Proofs.YtmeebofhlilcmaaGreat
