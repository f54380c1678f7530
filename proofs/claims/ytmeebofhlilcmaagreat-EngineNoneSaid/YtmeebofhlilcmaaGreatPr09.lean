/- Parts: SealB. -/
import Derived.Test.YtmeebofhlilcmaaGreatPr02
import Derived.Test.YtmeebofhlilcmaaGreatPr08
import Derived.Test.YtmeebofhlilcmaaGreatPr01
set_option linter.unusedVariables false
set_option linter.unusedSimpArgs false
set_option maxRecDepth 100000
set_option maxHeartbeats 40000000
namespace Go.Proofs.YtmeebofhlilcmaaGreat
open Go.RowKit
theorem le4_cells (s:Nat) (hs:s<4294967296):(le4 s).map bv=[.int .u8 ((s:Int) % 256),.int .u8 ((s:Int) / 256 % 256),.int .u8 ((s:Int) / 65536 % 256),.int .u8 ((s:Int) / 16777216)]:=by
  have e:∀ v:Nat,v<256→bv (UInt8.ofNat v)=.int .u8 (v:Int):=fun v hv => qu6 hv
  show [bv (UInt8.ofNat (s / 256 ^ 0 % 256)),bv (UInt8.ofNat (s / 256 ^ 1 % 256)),bv (UInt8.ofNat (s / 256 ^ 2 % 256)),bv (UInt8.ofNat (s / 256 ^ 3 % 256))]=_
  rw [e _ omg,e _ omg,e _ omg,e _ omg];have h0:((s / 256 ^ 0 % 256:Nat):Int)=(s:Int) % 256:=omg;have h1:((s / 256 ^ 1 % 256:Nat):Int)=(s:Int) / 256 % 256:=omg;have h2:((s / 256 ^ 2 % 256:Nat):Int)=(s:Int) / 65536 % 256:=omg;have h3:((s / 256 ^ 3 % 256:Nat):Int)=(s:Int) / 16777216:=omg;rw [h0,h1,h2,h3]
theorem vg0 (s:Nat) (w:World) (hs:s<4294967296):Calls Tryz.prog 255 #[.int .u32 s] w fun e w' => e=.returned (aggB (le4 s))∧Below w.heap.size w w':=by
  have H:=hdd (le4_cells s hs);go_enter Tryz.func255,Tryz.ntmps255;go_wp2;refine bodyPost_ret (v:=.agg #[.int .u8 ((s:Int) % 256),.int .u8 ((s:Int) / 256 % 256),.int .u8 ((s:Int) / 65536 % 256),.int .u8 ((s:Int) / 16777216)]) (by simp [results,Tryz.results255,go_sem]) rfl ?_;refine ⟨?_,gwn⟩;unfold aggB;rw [H.out]
theorem size4:(Tryz.prog.info? 358).map (·.size)=some 4:=by kernel_rfl
theorem make_ok (kind n:Int) (A:Option Addr) (m c:Nat) (l:List UInt8) (w:World) (h1:1≤kind) (h2:kind≤255) (h3:0≤n) (h4:m≤113) (hl:RB w A m l) :
    Calls Tryz.prog 199 #[.int .i64 kind,.int .i64 n,.slice A m c] w fun e w' => e=.returned (.tuple #[aggB (qe2 kind.toNat (un n) l),.int .i64 0])∧Below w.heap.size w w':=by
  have hz:=(zero_of_info qe1).1;have hi:=(zero_of_info qe1).2;have hlz:(qa3.map bv).length=128:=by simp [qc0]
  have h1:=qk1 (l:=qa3);have c0:(qa3.map bv)[0]?=some (.int .u8 0):=rfl;have c9:(qa3.map bv)[9]?=some (.int .u8 0):=rfl;have c127:(qa3.map bv)[127]?=some (.int .u8 0):=rfl;generalize hR:aggB (qe2 kind.toNat (un n) l)=R;have HR:=hdd hR;clear hR;unfold aggB at *;generalize hZ:qa3.map bv=Z at *;have HZ:=hdd hZ.symm;clear hZ;have Hl:=hdd hlz;have Hi:=hdd hi;have H1:=hdd h1;clear hlz hi h1;obtain ⟨L1,hL1⟩:∃ L1:List UInt8,L1=((qa3.set 0 (UInt8.ofNat kind.toNat)).set 9 (UInt8.ofNat m)).set 127 215:=⟨_,rfl⟩;have hZ1:Hid (((Z.set 0 (.int .u8 kind)).set 9 (.int .u8 (m:Int))).set 127 (.int .u8 215)=L1.map bv):=by
    show _=_
    rw [hL1,HZ.out,List.map_set,List.map_set,List.map_set]
    congr 2
    · congr 1
      rw [qu6 omg];congr 1;omega
    · rw [qu6 omg]
  have hlen1:Hid (L1.length=128):=by show _=_;rw [hL1];simp [qc0]
  obtain ⟨L2,hL2'⟩:∃ L2:List UInt8,L2=splice L1 1 (putL (un n)):=⟨_,rfl⟩;have hL2:Hid (splice L1 1 ((putL (un n)).take 8)=L2):=by show _=_;rw [hL2',List.take_of_length_le (by rw [qq3];omega)]
  have hlen2:Hid (L2.length=128):=by show _=_;rw [hL2',length_splice _ _ _ (by rw [qq3,hlen1.out];omega),hlen1.out]
  obtain ⟨L3,hL3'⟩:∃ L3:List UInt8,L3=splice L2 10 l:=⟨_,rfl⟩;have hL3:Hid (splice L2 10 (l.take 113)=L3):=by show _=_;rw [hL3',List.take_of_length_le (by rw [hl.1];omega)]
  have hlen3:Hid (L3.length=128):=by show _=_;rw [hL3',length_splice _ _ _ (by rw [hl.1,hlen2.out];omega),hlen2.out]
  have hL3b:L3=qj7 kind.toNat (un n) l ++ ([0,0,0,0] ++ [215]):=by
    have h4':l.length≤113:=by rw [hl.1];exact h4
    rw [hL3',hL2',hL1,seal_L3 _ _ _ _ (qq3 _) h4',← seal_L3_body _ _ _ h4',hl.1]
  have hL4:Hid (splice L3 123 (le4 (qn3 [L3.take 123]))=qe2 kind.toNat (un n) l):=by
    show _=_
    have h4':l.length≤113:=by rw [hl.1];exact h4
    rw [hL3b,seal_L3_take _ _ _ h4',seal_L4 _ _ _ h4']
  have hlen4:Hid ((qe2 kind.toNat (un n) l).length=128):=qo6 _ _ _ (by rw [hl.1];exact h4);clear hL3b;have hsum:=vl5 [L3.take 123];clear hL1 hL2' hL3';have hsumc:=fun a n c w => sum_any a n c [L3.take 123] w
  generalize qn3 [L3.take 123]=S at *;go_enter Tryz.func199,Tryz.ntmps199;go_wp2_with fail;refine qd5 (fun W => Blk W w.heap.size 205 Z∧BlkB W (w.heap.size+1) 205 L1∧Below w.heap.size w W∧W.heap.size=w.heap.size+2) ⟨blq,by unfold BlkB;rw [← hZ1.out];exact blq,gwn,by simp⟩ ?_;rintro W1 ⟨hb6,hb8,hB1,hs1⟩;go_region_held3 (fun _ => True) (trivial) (first | ((go_at_call 254;(with_reducible refine (vq6 _ _).mono ?_);rintro e w2 ⟨B,d,rfl,hown2,hB2⟩)) | (refine qq4 rfl (d:=.tmp 35) (s:=.tmp 37) rfl qd8 qf3 (g:=w.heap.size+1) (off:=1) (l:=L1) (k:=putL (un n)) rfl rfl (fun _ => rfl) (hb8.drew.below hB2 hb8.lt) hown2.rd (by rw [hlen1.out];omega) hL2.out ?_;intro w3 hb3 hg3 hs3));have hs2:w.heap.size+2≤w2.heap.size:=by have:=hB2.size;simp at this;omega
  have hB3:Below w.heap.size w w3:=qb6 (ql1 hB1.drew hB2 (by simp;omega)) hg3 omg omg;have hb6':Blk w3 w.heap.size 205 Z:=(hb6.drew.below hB2 hb6.lt).grown hg3 smp;have hl3:RB w3 A m l:=hl.below hB3 nlr;replace hs3:w.heap.size+2≤w3.heap.size:=omg;replace hb3:BlkB w3 (w.heap.size+1) 205 L2:=hb3;clear hb6 hb8 hB1 hB2 hown2 hg3;go_wp2_with (first | (refine wpList_copy_rd rfl (d:=.tmp 39) (s:=.tmp 40) rfl qd8 qf3 (g:=w.heap.size+1) (off:=10) (l:=L2) (k:=l) rfl rfl (fun _ => rfl) hb3 hl3.rd (by rw [hlen2.out];omega) hL3.out ?_;intro w4 hb4 hg4 hs4) | (go_at_call 256;(with_reducible refine (hsumc _ _ _ _ (RBs.one (qd3 _ _ omg) (BlkB.rb (off:=0) (hb4.alloc _) rfl (by rw [hlen3.out];omega)) dcd) dcd).mono ?_);rintro e w5 ⟨rfl,rfl⟩) | (go_at_call 255;(with_reducible refine (vg0 S _ hsum).mono ?_);rintro e w6 ⟨rfl,hB6⟩) | (refine qb2 rfl (x:=.tmp 9) (y:=.tmp 45) rfl rfl rfl (t:=358) (cs:=[.int .u8 0,.int .u8 0,.int .u8 0,.int .u8 0]) (xs:=(le4 S).map bv) (Blk.top _ rfl rfl) size4 (by simp [qj4]) smp qk1 ?_;intro w7 hb7 hg7 hs7));have hs6:=hB6.size;simp only [World.size_alloc] at hs6 hs7;have e4:BlkB w7 w6.heap.size 358 (le4 S):=by
    unfold BlkB;have:=hb7
    rwa [qc1 _ _ (by simp [qj4])] at this
  have e5:Rd bv w7 (some ⟨w6.heap.size,0,none⟩) 4 (le4 S):=(e4.rb (off:=0) (by rw [List.drop_zero,List.take_of_length_le (by rw [qj4];omega)]) (by rw [qj4];omega)).rd;have hL5:Hid (splice L3 123 ((le4 S).take 4)=qe2 kind.toNat (un n) l):=by show _=_;rw [List.take_of_length_le (by rw [qj4];omega),hL4.out]
  have k8:BlkB w7 (w.heap.size+1) 205 L3:=(((hb4.alloc _).below hB6 (by simp;omega)).alloc _).grown hg7 (by simp;omega);have k6:Blk w7 w.heap.size 205 Z:=((((hb6'.grown hg4 smp).alloc _).below hB6 (by simp;omega)).alloc _).grown hg7 (by simp;omega);have hB7:Below w.heap.size w w7:=by
    refine qb6 (Below.alloc (qa2 (qb6 hB3 hg4 omg omg) (w':=w6) (C:=w.heap.size) ?_ nlr) omg _) hg7 (by simp;omega) omg;exact Below.trans ((Below.refl _ _).alloc omg _) (hB6.mono (by simp;omega))
  have hs7':w.heap.size+2<w7.heap.size:=omg;clear hb7 hg7 hs7 hB6 hg4 hb4 hs4 hb3 hl3 hb6' hB3 hsumc hs6;go_region_held3 (fun _ => True) (trivial) ((refine qq4 rfl (d:=.tmp 46) (s:=.tmp 47) rfl qd8 qf3 (g:=w.heap.size+1) (off:=123) (l:=L3) (k:=le4 S) rfl rfl (fun _ => rfl) k8.drew e5.drew' (by rw [hlen3.out];omega) hL5.out ?_;intro w8 hb8 hg8 hs8));replace hB7:Below w.heap.size w w8:=qb6 hB7.drew hg8 (by simp;omega) omg;have k6':Blk w8 w.heap.size 205 Z:=k6.drew.grown hg8 smp;generalize qe2 kind.toNat (un n) l=L4 at *;have hlen4':Hid ((L4.map bv).length=128):=by show _=_;rw [List.length_map,hlen4.out]
  have hm4:=hdd (qk1 (l:=L4));generalize L4.map bv=C4 at *;replace hs8:w.heap.size+2<w8.heap.size:=by have:w7.drew.heap.size=w7.heap.size:=rfl;omega
  clear k6 k8 hg8 e4 e5 hL4 hL5 hL2 hL3 hZ1 HZ c0 c9 c127;go_wp2_with (first | (refine qb8 rfl (x:=.tmp 8) rfl rfl (t:=205) (cs:=C4) hb8 Tryz.underlying205 Hi.out hlen4'.out (xs:=C4) (by rw [List.drop_zero,List.take_of_length_le (by rw [hlen4'.out];omega)]) ?_) | (refine qb2 rfl (x:=.tmp 6) (y:=.tmp 49) rfl rfl rfl (t:=205) (cs:=Z) (xs:=C4) k6' Hi.out hlen4'.out (by rw [Hl.out];omega) hm4.out ?_;intro w9 hb9 hg9 hs9));refine bodyPost_ret (v:=.tuple #[.agg C4.toArray,.int .i64 0]) (qi6 Tryz.results199 _ rfl rfl (by rw [qc1 _ _ (by rw [Hl.out,hlen4'.out])] at hb9;exact hb9) Tryz.underlying205 Hi.out hlen4'.out) rfl ?_;exact ⟨by rw [HR.out],qb6 hB7 hg9 omg nlr⟩
theorem eq128 (l k:List UInt8) (hl:l.length=128) (hk:k.length=128) (w:World):(Op.equalIn 10000 205 (.agg (l.map bv).toArray) (.agg (k.map bv).toArray)).run Tryz.prog w=.ok (decide (l=k)) w :=
  run_eq_bytes Tryz.underlying205 Tryz.underlying5 (by kernel_rfl) (by kernel_rfl) (by kernel_rfl) l k hl hk
theorem cellB {l:List UInt8} (i:Nat) (hi:i<l.length):(l.map bv)[i]?=some (.int .u8 (qa4 l i)):=by
  unfold qa4 bv;simp [List.getD_eq_getElem?_getD,hi]
def ve0 (l:List UInt8) (kind:Int):Prop:=qa4 l 127≠215∨(qa4 l 127=215∧(qa4 l 0:Int)≠kind)∨(qa4 l 127=215∧(qa4 l 0:Int)=kind∧113<qa4 l 9)
theorem open_bad (l:List UInt8) (kind:Int) (w:World) (hl:l.length=128) (h:ve0 l kind) :
    Calls Tryz.prog 163 #[aggB l,.int .i64 kind] w fun e w' => e=.returned (.tuple #[.int .i64 0,.slice none 0 0,.int .i64 53])∧Below w.heap.size w w':=by
  have c0:=cellB (l:=l) 0 omg;have c9:=cellB (l:=l) 9 omg;have c127:=cellB (l:=l) 127 omg;have b0:=qk5 l 0;have b9:=qk5 l 9;unfold ve0 at h;unfold aggB;generalize l.map bv=C at *;generalize qa4 l 0=y0 at *;generalize qa4 l 9=y9 at *;generalize qa4 l 127=y127 at *;clear hl;rcases h with h | ⟨h,h2⟩ | ⟨h,h2,h3⟩
  · have e1:(((y127:Nat):Int) != 215)=true:=by rw [bne_iff_ne];omega
    clear h;go_enter Tryz.func163,Tryz.ntmps163;go_wp2;go_ret3;exact ⟨rfl,gwn⟩
  · have e1:(((y127:Nat):Int) != 215)=false:=by rw [h];rfl
    have e2:(((y0:Nat):Int) != kind)=true:=by rw [bne_iff_ne];exact h2
    clear h h2;go_enter Tryz.func163,Tryz.ntmps163;go_wp2;go_ret3;exact ⟨rfl,gwn⟩
  · have e1:(((y127:Nat):Int) != 215)=false:=by rw [h];rfl
    have e2:(((y0:Nat):Int) != kind)=false:=by rw [h2];simp
    have e3:decide ((113:Int)<((y9:Nat):Int))=true:=by simp;omega
    clear h h2;go_enter Tryz.func163,Tryz.ntmps163;go_wp2;go_ret3;exact ⟨rfl,gwn⟩
theorem RB.nil_of {w:World} {A:Option Addr} {K:List UInt8} (h:K.length=0):RB w A 0 K:=⟨h,Row.nil _ _ _⟩
def qr5 (y9:Nat) (K:List UInt8) (q:Bool) (N:Int) (w:World) (e:Ending) (w':World):Prop :=
  (q=false∧e=.returned (.tuple #[.int .i64 0,.slice none 0 0,.int .i64 53])∧Below w.heap.size w w') ∨
  (q=true∧∃ A c,e=.returned (.tuple #[.int .i64 N,.slice A y9 c,.int .i64 0])∧OB w' w.heap.size 5 A y9 c K∧Below w.heap.size w w')
theorem qr5.no {y9:Nat} {K:List UInt8} {N:Int} {w w':World} (h:Below w.heap.size w w'):qr5 y9 K false N w (.returned (.tuple #[.int .i64 0,.slice none 0 0,.int .i64 53])) w':=.inl ⟨rfl,rfl,h⟩
theorem qr5.yes {y9 c:Nat} {A:Option Addr} {K:List UInt8} {N:Int} {w w':World} (h:Below w.heap.size w w') (ho:OB w' w.heap.size 5 A y9 c K):qr5 y9 K true N w (.returned (.tuple #[.int .i64 N,.slice A y9 c,.int .i64 0])) w':=.inr ⟨rfl,A,c,rfl,ho,h⟩
theorem qr5.yes0 {K:List UInt8} {N:Int} {w w':World} (h:Below w.heap.size w w') (hK:K.length=0):qr5 0 K true N w (.returned (.tuple #[.int .i64 N,.slice none 0 0,.int .i64 0])) w':=by
  obtain rfl:=List.eq_nil_of_length_eq_zero hK;exact .inr ⟨rfl,none,0,rfl,Ow.nil _ _ _ _,h⟩
theorem open_main (l M:List UInt8) (kind r:Int) (w:World) (q:Bool) (hl:l.length=128) (h127:qa4 l 127=215) (h0:(qa4 l 0:Int)=kind) (h9:qa4 l 9≤113) (hM:M.length=128)
    (hq:(((r != 0)=true∧q=false)∨((r != 0)=false∧q=decide (M=l))))
    (hmk:∀ (A:Option Addr) (c:Nat) (w:World),RB w A (qa4 l 9) (qg6 l)→Calls Tryz.prog 199 #[.int .i64 kind,.int .i64 (sg (qg0 l)),.slice A (qa4 l 9) c] w fun e w' => e=.returned (.tuple #[aggB M,.int .i64 r])∧Below w.heap.size w w') :
    Calls Tryz.prog 163 #[aggB l,.int .i64 kind] w (qr5 (qa4 l 9) (qg6 l) q (sg (qg0 l)) w):=by
  have c0:=cellB (l:=l) 0 omg;have c9:=cellB (l:=l) 9 omg;have c127:=cellB (l:=l) 127 omg;have b0:=qk5 l 0;have b127:=qk5 l 127;have e1:(((qa4 l 127:Nat):Int) != 215)=false:=by rw [h127];rfl
  have e2:(((qa4 l 0:Nat):Int) != kind)=false:=by rw [h0];simp
  have e3:decide ((113:Int)<((qa4 l 9:Nat):Int))=false:=by simp;omega
  have hb:∀ (W:World) (g:Nat),W.heap[g]?=some (.cells (l.map bv).toArray 205 (0,0))→BlkB W g 205 l:=fun _ _ h => h
  have hneq:=fun w => eq128 M l hM hl w
  have hload:(l.drop 10).take (qa4 l 9)=qg6 l:=rfl;have hnum:getL ((l.drop 1).take 8)=qg0 l:=rfl;have hlo:=vi0 hl h9;have hz:=(zero_of_info qe1).1;have hi:=(zero_of_info qe1).2;have hzl:(qa3.map bv).length=128:=by simp [qc0]
  have HM:=hdd (show (M.map bv).length=128 by simpa using hM);have HL:=hdd (show (l.map bv).length=128 by simpa using hl);have HM1:=hdd (qk1 (l:=M));have Hl:=hdd hl;have Hi:=hdd hi;have Hlo:=hdd hlo;have Hload:=hdd hload;have Hnum:=hdd hnum;have H0:=hdd h0;generalize decide (M=l)=b at *;unfold aggB at *;generalize qa3.map bv=Z at *;have Hz:=hdd hzl;generalize qa4 l 0=y0 at *;generalize qa4 l 9=y9 at *;generalize qa4 l 127=y127 at *;generalize qg0 l=N at *;generalize qg6 l=K at *;clear hl h127 h0 hM hload hnum hlo hi hzl;have hget:∀ (A:Option Addr) (c:Nat) (w:World),RB w A 8 ((l.drop 1).take 8)→Calls Tryz.prog 237 #[.slice A 8 c] w fun e w' => e=.returned (.tuple #[.int .i64 (sg N),.int .i64 0])∧w=w':=fun A c w h => by
    have:=vr1 A c _ w h
    rwa [Hnum.out] at this
  have hc1:(10:Int)+(y9:Int)≤128:=omg;have Hmk:=hdd hmk;clear hmk;have hy:y9=0∨¬ y9=0:=omg;have hsl:y9≠0→∀ W:World,(Instr.sliceAt 205 (.pointer (some ⟨w.heap.size,0,none⟩)) (some (.int .i64 10)) (some (.int .i64 ((10:Int)+(y9:Int)))) (some (.int .i64 ((10:Int)+(y9:Int))))).run Tryz.prog W=.ok (.slice (some ⟨w.heap.size,10,none⟩) y9 y9) W :=
    fun h W => run_slice3 Tryz.underlying205 (by kernel_rfl) _ _ _ 10 y9 rfl omg omg omg W
  have hq':((r != 0)=true∧q=false)∨((r != 0)=false∧b=false∧q=false)∨((r != 0)=false∧b=true∧q=true):=by
    rcases hq with h | ⟨h,h2⟩
    · exact .inl h
    · cases b
      · exact .inr (.inl ⟨h,rfl,h2⟩)
      · exact .inr (.inr ⟨h,rfl,h2⟩)
  clear hq;rcases hy with hy | hy
  case' inl => (clear hsl;subst hy)
  case' inr => replace hsl:=hsl hy
  all_goals
   rcases hq' with ⟨hr,rfl⟩ | ⟨hr,rfl,rfl⟩ | ⟨hr,rfl,rfl⟩
  all_goals
   go_enter Tryz.func163,Tryz.ntmps163;go_wp2_with (first | (go_at_call 237;(with_reducible refine (hget _ _ _ (BlkB.rb (off:=1) (hb _ _ (qd3 _ _ rfl)) rfl (by rw [Hl.out];omega))).mono ?_);rintro e w1 ⟨rfl,rfl⟩) | (at_builtin;refine qc7 rfl rfl qd8 qf3 (s:=.tmp 34) (N:=y9) (L:=K) rfl (Ow.nil bv _ w.heap.size _) rfl (k:=K) (BlkB.rb (off:=10) (hb _ _ (qd3 _ _ rfl)) Hload.out (by rw [Hl.out];omega)).rd omg rfl uml omg szz ?_;intro A2 c2 w2 hown2 hg2 hat2 hb2) | (go_at_call 199;(with_reducible refine (Hmk.out _ _ _ hown2.rd.rb).mono ?_);rintro e w3 ⟨rfl,hB3⟩) | (go_at_call 199;(with_reducible refine (Hmk.out none 0 _ (RB.nil_of Hlo.out)).mono ?_);rintro e w3 ⟨rfl,hB3⟩) | (refine qb2 rfl (x:=.tmp 8) (y:=.tmp 46) rfl rfl rfl (t:=205) (cs:=Z) (xs:=M.map bv) (Blk.top _ rfl rfl) Hi.out HM.out (by rw [Hz.out];omega) HM1.out ?_;intro w4 hb4 hg4 hs4;rw [qc1 _ _ (by rw [Hz.out,HM.out])] at hb4) | (refine qb8 rfl (x:=.tmp 8) rfl rfl (t:=205) (cs:=M.map bv) hb4 Tryz.underlying205 Hi.out HM.out (xs:=M.map bv) (by rw [List.drop_zero,List.take_of_length_le (by rw [HM.out];omega)]) ?_) | (refine qb8 rfl (x:=.tmp 2) rfl rfl (t:=205) (cs:=l.map bv) ((((hb _ _ ((qd3 _ _ rfl))).grown hg2 smp).below hB3 (by have:=hg2.size;simp at this;omega)).alloc _ |>.grown hg4 (by have:=hg2.size;have:=hB3.size;simp at *;omega)) Tryz.underlying205 Hi.out HL.out (xs:=l.map bv) (by rw [List.drop_zero,List.take_of_length_le (by rw [HL.out];omega)]) ?_) | (refine qb8 rfl (x:=.tmp 2) rfl rfl (t:=205) (cs:=l.map bv) ((((hb _ _ ((qd3 _ _ rfl))).below hB3 smp).alloc _).grown hg4 (by have:=hB3.size;simp at this;simp;omega)) Tryz.underlying205 Hi.out HL.out (xs:=l.map bv) (by rw [List.drop_zero,List.take_of_length_le (by rw [HL.out];omega)]) ?_))
  all_goals
   have h34:Below w3.heap.size w3 w4:=qb6 ((Below.refl _ _).alloc nlr _) hg4 smp nlr
   first
    | (have hBel:Below w.heap.size w w4:=ql1 (ql1 (qa2 ((Below.refl _ _).alloc nlr _) hb2 nlr) hB3 (by have:=hb2.size;simp at this;omega)) h34 (by have:=hb2.size;have:=hB3.size;simp at *;omega)
       have own4:=(hown2.below hB3 nlr).below h34 nlr;go_ret3;exact (qr5.yes hBel own4))
    | (have hBel:Below w.heap.size w w4:=ql1 (ql1 ((Below.refl _ _).alloc nlr _) hB3 smp) h34 (by have:=hB3.size;simp at *;omega)
       go_ret3;exact (qr5.yes0 hBel Hlo.out))
    | (have hBel:Below w.heap.size w w4:=ql1 (ql1 (qa2 ((Below.refl _ _).alloc nlr _) hb2 nlr) hB3 (by have:=hb2.size;simp at this;omega)) h34 (by have:=hb2.size;have:=hB3.size;simp at *;omega)
       go_ret3;exact (qr5.no hBel))
    | (have hBel:Below w.heap.size w w4:=ql1 (ql1 ((Below.refl _ _).alloc nlr _) hB3 smp) h34 (by have:=hB3.size;simp at *;omega)
       go_ret3;exact (qr5.no hBel))
theorem open_any (l:List UInt8) (kind:Int) (w:World) (hl:l.length=128) :
    Calls Tryz.prog 163 #[aggB l,.int .i64 kind] w (qr5 (qa4 l 9) (qg6 l) (qs0 l kind) (sg (qg0 l)) w):=by
  by_cases hbad:ve0 l kind
  · have hf:qs0 l kind=false:=by
      cases ho:qs0 l kind with
      | false => rfl
      | true =>
        have h1:=vb4 ho;have h2:=vd2 ho;unfold ve0 at hbad;omega
    rw [hf];exact (open_bad l kind w hl hbad).mono fun e w' ⟨he,hb⟩ => .inl ⟨rfl,he,hb⟩
  · have h127:qa4 l 127=215:=by unfold ve0 at hbad;omega
    have h0:(qa4 l 0:Int)=kind:=by unfold ve0 at hbad;omega
    have h9:qa4 l 9≤113:=by unfold ve0 at hbad;omega
    have hk:=qk5 l 0;have hN:=vn8 l;have hlo:=vi0 hl h9
    by_cases hok:1≤kind∧qg0 l<9223372036854775808
    · have hsg:sg (qg0 l)=(qg0 l:Int):=by unfold sg;rw [if_pos hok.2]
      have hun:un (sg (qg0 l))=qg0 l:=un_sg hN;have hq:qs0 l kind=decide (qe2 kind.toNat (qg0 l) (qg6 l)=l):=by
        have e1:kind≤255:=omg;simp [qs0,hok.1,e1,hok.2,h9]
      refine open_main l (qe2 kind.toNat (qg0 l) (qg6 l)) kind 0 w _ hl h127 h0 h9 (qo6 _ _ _ omg) (.inr ⟨rfl,hq⟩) (fun A c w hr => ?_);have:=make_ok kind (sg (qg0 l)) A (qa4 l 9) c (qg6 l) w hok.1 omg omg h9 hr
      rwa [hun] at this
    · have hq:qs0 l kind=false:=by
        cases ho:qs0 l kind with
        | false => rfl
        | true =>
          have h2:=vd2 ho;omega
      refine open_main l qa3 kind 2 w _ hl h127 h0 h9 qc0 (.inl ⟨rfl,hq⟩) (fun A c w hr => ?_);refine make_arg kind _ A _ c w ?_;have:1≤kind→sg (qg0 l)<0:=fun h => by
        have:¬ qg0 l<9223372036854775808:=fun h2 => hok ⟨h,h2⟩
        unfold sg;rw [if_neg this];omega
      omega
def qz1 (kind n:Int) (l:List UInt8):List UInt8 × Int :=
  if kind<1∨255<kind∨n<0 then (qa3,2) else if 113<l.length then (qa3,3) else (qe2 kind.toNat n.toNat l,0)
theorem makeL_len (kind n:Int) (l:List UInt8):(qz1 kind n l).1.length=128:=by
  unfold qz1
  split
  · exact qc0
  · split
    · exact qc0
    · exact qo6 _ _ _ omg
theorem un_nat {n:Int} (h0:0≤n) (h1:n≤9223372036854775807):un n=n.toNat:=by unfold un;omega
theorem make_any (kind n:Int) (A:Option Addr) (m c:Nat) (l:List UInt8) (w:World) (hn:n≤9223372036854775807) (hm:m≤maxLen) (hl:RB w A m l) :
    Calls Tryz.prog 199 #[.int .i64 kind,.int .i64 n,.slice A m c] w fun e w' => e=.returned (.tuple #[aggB (qz1 kind n l).1,.int .i64 (qz1 kind n l).2])∧Below w.heap.size w w':=by
  unfold qz1
  by_cases h:kind<1∨255<kind∨n<0
  · rw [if_pos h];exact make_arg kind n A m c w h
  · rw [if_neg h]
    by_cases h2:113<l.length
    · rw [if_pos h2];exact make_limit kind n A m c w omg omg omg (by rw [← hl.1];exact h2) hm
    · rw [if_neg h2];have:=make_ok kind n A m c l w omg omg omg (by rw [← hl.1];omega) hl
      rwa [un_nat omg hn] at this
theorem blank_any (l:List UInt8) (w:World) (hl:l.length=128):Calls Tryz.prog 164 #[aggB l] w fun e w' => e=.returned (.bool (decide (l=qa3)))∧Below w.heap.size w w':=by
  have hq:=fun w => eq128 l qa3 hl qc0 w
  have hbu:∀ w:World,(Instr.build 205 #[]).run Tryz.prog w=.ok (aggB qa3) w:=fun w => run_build w _ _ _ (by kernel_rfl)
  have HL:=hdd (show (l.map bv).length=128 by simpa using hl);generalize decide (l=qa3)=b at *;have hz:=(zero_of_info qe1).1;have Hi:=hdd (zero_of_info qe1).2;have Hz:=hdd (show (qa3.map bv).length=128 by simp [qc0]);unfold aggB at hz;generalize qa3.map bv=Z at *;unfold aggB at *;generalize qa3.map bv=Z at *;generalize hC:l.map bv=C at *;clear hC hl;go_enter Tryz.func164,Tryz.ntmps164;go_wp2_with (refine qb8 rfl (x:=.tmp 1) rfl rfl (t:=205) (cs:=C) (Blk.top _ rfl rfl) Tryz.underlying205 Hi.out HL.out (xs:=C) (by rw [List.drop_zero,List.take_of_length_le (by rw [HL.out];omega)]) ?_);go_ret;exact ⟨rfl,gwn⟩
end Go.Proofs.YtmeebofhlilcmaaGreat
