/- Parts: SealB. -/
import Derived.Test.YtmeebofhlilcmaaGreatPr10
set_option linter.unusedVariables false
set_option linter.unusedSimpArgs false
set_option maxRecDepth 100000
set_option maxHeartbeats 0
namespace Go.Proofs.YtmeebofhlilcmaaGreat
variable {w w':World} {K:List UInt8} {y9:Nat} {N:Int}
open Go.RowKit
theorem le4_cells (s:Nat)(hs:s<4294967296):(le4 s).map bv=[.int .u8 ((s:Int) % 256),.int .u8 ((s:Int) / 256 % 256),.int .u8 ((s:Int) / 65536 % 256),.int .u8 ((s:Int) / 16777216)]:=by
 have e:∀ v:Nat,v<256->bv (UInt8.ofNat v)=.int .u8 (v:Int):=fun v hv=>jf hv
 show [bv (UInt8.ofNat (s / 256 ^ 0 % 256)),bv (UInt8.ofNat (s / 256 ^ 1 % 256)),bv (UInt8.ofNat (s / 256 ^ 2 % 256)),bv (UInt8.ofNat (s / 256 ^ 3 % 256))]=_
 rw[e _ aS,e _ aS,e _ aS,e _ aS];have h0:((s / 256 ^ 0 % 256:Nat):Int)=(s:Int) % 256:=aS;have h1:((s / 256 ^ 1 % 256:Nat):Int)=(s:Int) / 256 % 256:=aS;have h2:((s / 256 ^ 2 % 256:Nat):Int)=(s:Int) / 65536 % 256:=aS;have h3:((s / 256 ^ 3 % 256:Nat):Int)=(s:Int) / 16777216:=aS;rw[h0,h1,h2,h3]
theorem kN (s:Nat)(w:World)(hs:s<4294967296):Ca 255 #[.int .u32 s] w fun e w'=>e=.returned (aggB (le4 s))/\Below w.heap.size w w':=by
 have H:=aT (le4_cells s hs);go_enter Tryz.func255,Tryz.ntmps255;go_wp2;refine bodyPost_ret (v:=.agg #[.int .u8 ((s:Int) % 256),.int .u8 ((s:Int) / 256 % 256),.int .u8 ((s:Int) / 65536 % 256),.int .u8 ((s:Int) / 16777216)]) (by simp[results,Tryz.results255,go_sem]) rfl ?_;refine⟨?_,ba⟩;unfold aggB;rw[H.out]
theorem size4:(Tryz.prog.info? 358).map (·.size)=some 4:=by kernel_rfl
theorem make_ok (kind n:Int)(A:Option Addr)(m c:Nat)(l:List UInt8)(w:World)(h1:1<=kind)(h2:kind<=255)(h3:0<=n)(h4:m<=113)(hl:RB w A m l) :
 Ca 199 #[I kind,I n,.slice A m c] w fun e w'=>e=.returned (.tuple #[aggB (bQ kind.toNat (un n) l),I 0])/\Below w.heap.size w w':=by
 have hz:=(zero_of_info dm).1;have hi:=(zero_of_info dm).2;have hlz:(br.map bv).length=128:=by simp[dJ]
 have h1:=ew (l:=br);have c0:(br.map bv)[0]?=some (.int .u8 0):=rfl;have c9:(br.map bv)[9]?=some (.int .u8 0):=rfl;have c127:(br.map bv)[127]?=some (.int .u8 0):=rfl;generalize hR:aggB (bQ kind.toNat (un n) l)=R;have HR:=aT hR;clear hR;unfold aggB at *;generalize hZ:br.map bv=Z at *;have HZ:=aT hZ.symm;clear hZ;have Hl:=aT hlz;have Hi:=aT hi;have H1:=aT h1;clear hlz hi h1;obtain⟨L1,hL1⟩:∃ L1:List UInt8,L1=((br.set 0 (UInt8.ofNat kind.toNat)).set 9 (UInt8.ofNat m)).set 127 215:=⟨_,rfl⟩;have hZ1:Hid (((Z.set 0 (.int .u8 kind)).set 9 (.int .u8 (m:Int))).set 127 (.int .u8 215)=L1.map bv):=by
  show _=_
  rw[hL1,HZ.out,List.map_set,List.map_set,List.map_set]
  congr 2
  · congr 1
    rw[jf aS];congr 1;omega
  · rw[jf aS]
 have hlen1:Hid (L1.length=128):=by show _=_;rw[hL1];simp[dJ]
 obtain⟨L2,hL2'⟩:∃ L2:List UInt8,L2=splice L1 1 (putL (un n)):=⟨_,rfl⟩;have hL2:Hid (splice L1 1 ((putL (un n)).take 8)=L2):=by show _=_;rw[hL2',au (by rw[iE];omega)]
 have hlen2:Hid (L2.length=128):=by show _=_;rw[hL2',length_splice _ _ _ (by rw[iE,hlen1.out];omega),hlen1.out]
 obtain⟨L3,hL3'⟩:∃ L3:List UInt8,L3=splice L2 10 l:=⟨_,rfl⟩;have hL3:Hid (splice L2 10 (l.take 113)=L3):=by show _=_;rw[hL3',au (by rw[hl.1];omega)]
 have hlen3:Hid (L3.length=128):=by show _=_;rw[hL3',length_splice _ _ _ (by rw[hl.1,hlen2.out];omega),hlen2.out]
 have hL3b:L3=fS kind.toNat (un n) l ++ ([0,0,0,0] ++ [215]):=by
  have h4':l.length<=113:=by rw[hl.1];exact h4
  rw[hL3',hL2',hL1,seal_L3 _ _ _ _ (iE _) h4',<- seal_L3_body _ _ _ h4',hl.1]
 have hL4:Hid (splice L3 123 (le4 (fp [L3.take 123]))=bQ kind.toNat (un n) l):=by
  show _=_
  have h4':l.length<=113:=by rw[hl.1];exact h4
  rw[hL3b,seal_L3_take _ _ _ h4',seal_L4 _ _ _ h4']
 have hlen4:Hid ((bQ kind.toNat (un n) l).length=128):=iR _ _ _ (by rw[hl.1];exact h4);clear hL3b;have hsum:=nm [L3.take 123];clear hL1 hL2' hL3';have hsumc:=fun a n c w=>sum_any a n c [L3.take 123] w
 generalize fp [L3.take 123]=S at *;go_enter Tryz.func199,Tryz.ntmps199;go_wp2_with fail;refine dv (fun W=>Blk W w.heap.size 205 Z/\BlkB W (w.heap.size+1) 205 L1/\Below w.heap.size w W/\W.heap.size=w.heap.size+2) ⟨bH,by unfold BlkB;rw[<- hZ1.out];exact bH,ba,by simp⟩ ?_;rintro W1 ⟨hb6,hb8,hB1,hs1⟩;go_region_held3 (fun _=>True) (trivial) (first | ((go_at_call 254;go_call (lF _ _) as e w2 ⟨B,d,rfl,hown2,hB2⟩)) | (refine kE rfl (d:=.tmp 35) (s:=.tmp 37) rfl cG da (g:=w.heap.size+1) (off:=1) (l:=L1) (k:=putL (un n)) rfl rfl (fun _=>rfl) (hb8.drew.below hB2 hb8.lt) hown2.rd (by rw[hlen1.out];omega) hL2.out ?_;intro w3 hb3 hg3 hs3));have hs2:w.heap.size+2<=w2.heap.size:=by have:=hB2.size;simp at this;omega
 have hB3:=eu (iA hB1.drew hB2 cH) hg3 aS aS;have hb6':=(hb6.drew.below hB2 hb6.lt).grown hg3 aZ;have hl3:=hl.below hB3 aX;replace hs3:w.heap.size+2<=w3.heap.size:=aS;replace hb3:BlkB w3 (w.heap.size+1) 205 L2:=hb3;clear hb6 hb8 hB1 hB2 hown2 hg3;go_wp2_with (first | (refine wpList_copy_rd rfl (d:=.tmp 39) (s:=.tmp 40) rfl cG da (g:=w.heap.size+1) (off:=10) (l:=L2) (k:=l) rfl rfl (fun _=>rfl) hb3 hl3.rd (by rw[hlen2.out];omega) hL3.out ?_;intro w4 hb4 hg4 hs4) | (go_at_call 256;go_call (hsumc _ _ _ _ (RBs.one (dQ _ _ aS) (BlkB.rb (off:=0) (hb4.alloc _) rfl (by rw[hlen3.out];omega)) aU) aU) as e w5 ⟨rfl,rfl⟩) | (go_at_call 255;go_call (kN S _ hsum) as e w6 ⟨rfl,hB6⟩) | (refine ev rfl (x:=.tmp 9) (y:=.tmp 45) rfl rfl rfl (t:=358) (cs:=[.int .u8 0,.int .u8 0,.int .u8 0,.int .u8 0]) (xs:=(le4 S).map bv) (Blk.top _ rfl rfl) size4 iD aZ ew ?_;intro w7 hb7 hg7 hs7));have hs6:=hB6.size;simp only[World.size_alloc] at hs6 hs7;have e4:BlkB w7 w6.heap.size 358 (le4 S):=by
  unfold BlkB;have:=hb7
  rwa [dR _ _ iD] at this
 have e5:Rd bv w7 (some ⟨w6.heap.size,0,none⟩) 4 (le4 S):=(e4.rb (off:=0) (by rw[aI,au (by rw[gI];omega)]) (by rw[gI];omega)).rd;have hL5:Hid (splice L3 123 ((le4 S).take 4)=bQ kind.toNat (un n) l):=by show _=_;rw[au (by rw[gI];omega),hL4.out]
 have k8:BlkB w7 (w.heap.size+1) 205 L3:=(((hb4.alloc _).below hB6 cH).alloc _).grown hg7 cH;have k6:Blk w7 w.heap.size 205 Z:=((((hb6'.grown hg4 aZ).alloc _).below hB6 cH).alloc _).grown hg7 cH;have hB7:Below w.heap.size w w7:=by
  refine eu (Below.alloc (bM (eu hB3 hg4 aS aS) (w':=w6) (C:=w.heap.size) ?_ aX) aS _) hg7 cH aS;exact Below.trans ((Below.refl _ _).alloc aS _) (hB6.mono cH)
 have hs7':w.heap.size+2<w7.heap.size:=aS;clear hb7 hg7 hs7 hB6 hg4 hb4 hs4 hb3 hl3 hb6' hB3 hsumc hs6;go_region_held3 (fun _=>True) (trivial) ((refine kE rfl (d:=.tmp 46) (s:=.tmp 47) rfl cG da (g:=w.heap.size+1) (off:=123) (l:=L3) (k:=le4 S) rfl rfl (fun _=>rfl) k8.drew e5.drew' (by rw[hlen3.out];omega) hL5.out ?_;intro w8 hb8 hg8 hs8));replace hB7:Below w.heap.size w w8:=eu hB7.drew hg8 cH aS;have k6':=k6.drew.grown hg8 aZ;generalize bQ kind.toNat (un n) l=L4 at *;have hlen4':Hid ((L4.map bv).length=128):=by show _=_;rw[ax,hlen4.out]
 have hm4:=aT (ew (l:=L4));generalize L4.map bv=C4 at *;replace hs8:w.heap.size+2<w8.heap.size:=by have:w7.drew.heap.size=w7.heap.size:=rfl;omega
 clear k6 k8 hg8 e4 e5 hL4 hL5 hL2 hL3 hZ1 HZ c0 c9 c127;go_wp2_with (first | (refine ff rfl (x:=.tmp 8) rfl rfl (t:=205) (cs:=C4) hb8 Tryz.underlying205 Hi.out hlen4'.out (xs:=C4) (by rw[aI,au (by rw[hlen4'.out];omega)]) ?_) | (refine ev rfl (x:=.tmp 6) (y:=.tmp 49) rfl rfl rfl (t:=205) (cs:=Z) (xs:=C4) k6' Hi.out hlen4'.out ju hm4.out ?_;intro w9 hb9 hg9 hs9));refine bodyPost_ret (v:=.tuple #[.agg C4.toArray,I 0]) (js Tryz.results199 _ rfl rfl (by rw[dR _ _ (by rw[Hl.out,hlen4'.out])] at hb9;exact hb9) Tryz.underlying205 Hi.out hlen4'.out) rfl ?_;exact⟨by rw[HR.out],eu hB7 hg9 aS aX⟩
theorem eq128 (l k:List UInt8)(hl:l.length=128)(hk:k.length=128)(w:World):(Op.equalIn 10000 205 (.agg (l.map bv).toArray) (.agg (k.map bv).toArray)).run Tryz.prog w=.ok (decide (l=k)) w :=
 run_eq_bytes Tryz.underlying205 Tryz.underlying5 bE bE bE l k hl hk
theorem cellB {l:List UInt8}(i:Nat)(hi:i<l.length):(l.map bv)[i]?=some (.int .u8 (bw l i)):=by
 unfold bw bv;simp[ag,hi]
def jD (l:List UInt8)(kind:Int):Prop:=bw l 127≠215\/(bw l 127=215/\(bw l 0:Int)≠kind)\/(bw l 127=215/\(bw l 0:Int)=kind/\113<bw l 9)
theorem open_bad (l:List UInt8)(kind:Int)(w:World)(hl:l.length=128)(h:jD l kind) :
 Ca 163 #[aggB l,I kind] w fun e w'=>e=.returned (.tuple #[I 0,.slice none 0 0,I 53])/\Below w.heap.size w w':=by
 have c0:=cellB (l:=l) 0 aS;have c9:=cellB (l:=l) 9 aS;have c127:=cellB (l:=l) 127 aS;have b0:=gQ l 0;have b9:=gQ l 9;unfold jD at h;unfold aggB;generalize l.map bv=C at *;generalize bw l 0=y0 at *;generalize bw l 9=y9 at *;generalize bw l 127=y127 at *;clear hl;rcases h with h | ⟨h,h2⟩ | ⟨h,h2,h3⟩
 · have e1:(((y127:Nat):Int) != 215)=true:=by rw[ah];omega
   clear h;go_enter Tryz.func163,Tryz.ntmps163;go_wp2;go_ret3;exact⟨rfl,ba⟩
 · have e1:(((y127:Nat):Int) != 215)=false:=by rw[h];rfl
   have e2:(((y0:Nat):Int) != kind)=true:=by rw[ah];exact h2
   clear h h2;go_enter Tryz.func163,Tryz.ntmps163;go_wp2;go_ret3;exact⟨rfl,ba⟩
 · have e1:(((y127:Nat):Int) != 215)=false:=by rw[h];rfl
   have e2:(((y0:Nat):Int) != kind)=false:=by rw[h2];simp
   have e3:decide ((113:Int)<((y9:Nat):Int))=true:=by simp;omega
   clear h h2;go_enter Tryz.func163,Tryz.ntmps163;go_wp2;go_ret3;exact⟨rfl,ba⟩
theorem RB.nil_of {A:Option Addr}(h:K.length=0):RB w A 0 K:=⟨h,Row.nil _ _ _⟩
def gS (y9:Nat)(K:List UInt8)(q:Bool)(N:Int)(w:World)(e:Ending)(w':World):Prop :=
 (q=false/\e=.returned (.tuple #[I 0,.slice none 0 0,I 53])/\Below w.heap.size w w') \/
 (q=true/\∃ A c,e=.returned (.tuple #[I N,.slice A y9 c,I 0])/\OB w' w.heap.size 5 A y9 c K/\Below w.heap.size w w')
theorem gS.no (h:Below w.heap.size w w'):gS y9 K false N w (.returned (.tuple #[I 0,.slice none 0 0,I 53])) w':=.inl ⟨rfl,rfl,h⟩
theorem gS.yes {c:Nat}{A:Option Addr}(h:Below w.heap.size w w')(ho:OB w' w.heap.size 5 A y9 c K):gS y9 K true N w (.returned (.tuple #[I N,.slice A y9 c,I 0])) w':=.inr ⟨rfl,A,c,rfl,ho,h⟩
theorem gS.yes0 (h:Below w.heap.size w w')(hK:K.length=0):gS 0 K true N w (.returned (.tuple #[I N,.slice none 0 0,I 0])) w':=by
 obtain rfl:=List.eq_nil_of_length_eq_zero hK;exact .inr ⟨rfl,none,0,rfl,Ow.nil _ _ _ _,h⟩
theorem open_main (l M:List UInt8)(kind r:Int)(w:World)(q:Bool)(hl:l.length=128)(h127:bw l 127=215)(h0:(bw l 0:Int)=kind)(h9:bw l 9<=113)(hM:M.length=128)
 (hq:(((r != 0)=true/\q=false)\/((r != 0)=false/\q=decide (M=l))))
 (hmk:∀ (A:Option Addr) (c:Nat) (w:World),RB w A (bw l 9) (eV l)->Ca 199 #[I kind,I (sg (ej l)),.slice A (bw l 9) c] w fun e w'=>e=.returned (.tuple #[aggB M,I r])/\Below w.heap.size w w') :
 Ca 163 #[aggB l,I kind] w (gS (bw l 9) (eV l) q (sg (ej l)) w):=by
 have c0:=cellB (l:=l) 0 aS;have c9:=cellB (l:=l) 9 aS;have c127:=cellB (l:=l) 127 aS;have b0:=gQ l 0;have b127:=gQ l 127;have e1:(((bw l 127:Nat):Int) != 215)=false:=by rw[h127];rfl
 have e2:(((bw l 0:Nat):Int) != kind)=false:=by rw[h0];simp
 have e3:decide ((113:Int)<((bw l 9:Nat):Int))=false:=by simp;omega
 have hb:∀ (W:World) (g:Nat),W.heap[g]?=some (.cells (l.map bv).toArray 205 (0,0))->BlkB W g 205 l:=fun _ _ h=>h
 have hneq:=fun w=>eq128 M l hM hl w
 have hload:(l.drop 10).take (bw l 9)=eV l:=rfl;have hnum:getL ((l.drop 1).take 8)=ej l:=rfl;have hlo:=pn hl h9;have hz:=(zero_of_info dm).1;have hi:=(zero_of_info dm).2;have hzl:(br.map bv).length=128:=by simp[dJ]
 have HM:=aT (show (M.map bv).length=128 by simpa using hM);have HL:=aT (show (l.map bv).length=128 by simpa using hl);have HM1:=aT (ew (l:=M));have Hl:=aT hl;have Hi:=aT hi;have Hlo:=aT hlo;have Hload:=aT hload;have Hnum:=aT hnum;have H0:=aT h0;generalize decide (M=l)=b at *;unfold aggB at *;generalize br.map bv=Z at *;have Hz:=aT hzl;generalize bw l 0=y0 at *;generalize bw l 9=y9 at *;generalize bw l 127=y127 at *;generalize ej l=N at *;generalize eV l=K at *;clear hl h127 h0 hM hload hnum hlo hi hzl;have hget:∀ (A:Option Addr) (c:Nat) (w:World),RB w A 8 ((l.drop 1).take 8)->Ca 237 #[.slice A 8 c] w fun e w'=>e=.returned (.tuple #[I (sg N),I 0])/\w=w':=fun A c w h=>by
  have:=mL A c _ w h
  rwa [Hnum.out] at this
 have hc1:(10:Int)+(y9:Int)<=128:=aS;have Hmk:=aT hmk;clear hmk;have hy:y9=0\/¬ y9=0:=aS;have hsl:y9≠0->∀ W:World,(Instr.sliceAt 205 (.pointer (some ⟨w.heap.size,0,none⟩)) (some (I 10)) (some (I ((10:Int)+(y9:Int)))) (some (I ((10:Int)+(y9:Int))))).run Tryz.prog W=.ok (.slice (some ⟨w.heap.size,10,none⟩) y9 y9) W :=
  fun h W=>run_slice3 Tryz.underlying205 bE _ _ _ 10 y9 rfl aS aS aS W
 have hq':((r != 0)=true/\q=false)\/((r != 0)=false/\b=false/\q=false)\/((r != 0)=false/\b=true/\q=true):=by
  rcases hq with h | ⟨h,h2⟩
  · exact .inl h
  · cases b
    · exact .inr (.inl ⟨h,rfl,h2⟩)
    · exact .inr (.inr ⟨h,rfl,h2⟩)
 clear hq;rcases hy with hy | hy
 case' inl=>(clear hsl;subst hy)
 case' inr=>replace hsl:=hsl hy
 all_goals
  rcases hq' with ⟨hr,rfl⟩ | ⟨hr,rfl,rfl⟩ | ⟨hr,rfl,rfl⟩
 all_goals
  go_enter Tryz.func163,Tryz.ntmps163;go_wp2_with (first | (go_at_call 237;go_call (hget _ _ _ (BlkB.rb (off:=1) (hb _ _ (dQ _ _ rfl)) rfl ju)) as e w1 ⟨rfl,rfl⟩) | (at_builtin;refine ef rfl rfl cG da (s:=.tmp 34) (N:=y9) (L:=K) rfl (Ow.nil bv _ w.heap.size _) rfl (k:=K) (BlkB.rb (off:=10) (hb _ _ (dQ _ _ rfl)) Hload.out ju).rd aS rfl bU aS bq ?_;intro A2 c2 w2 hown2 hg2 hat2 hb2) | (go_at_call 199;(with_reducible refine (Hmk.out _ _ _ hown2.rd.rb).mono ?_);rintro e w3 ⟨rfl,hB3⟩) | (go_at_call 199;(with_reducible refine (Hmk.out none 0 _ (RB.nil_of Hlo.out)).mono ?_);rintro e w3 ⟨rfl,hB3⟩) | (refine ev rfl (x:=.tmp 8) (y:=.tmp 46) rfl rfl rfl (t:=205) (cs:=Z) (xs:=M.map bv) (Blk.top _ rfl rfl) Hi.out HM.out (by rw[Hz.out];omega) HM1.out ?_;intro w4 hb4 hg4 hs4;rw[dR _ _ (by rw[Hz.out,HM.out])] at hb4) | (refine ff rfl (x:=.tmp 8) rfl rfl (t:=205) (cs:=M.map bv) hb4 Tryz.underlying205 Hi.out HM.out (xs:=M.map bv) (by rw[aI,au (by rw[HM.out];omega)]) ?_) | (refine ff rfl (x:=.tmp 2) rfl rfl (t:=205) (cs:=l.map bv) ((((hb _ _ ((dQ _ _ rfl))).grown hg2 aZ).below hB3 (by have:=hg2.size;simp at this;omega)).alloc _ |>.grown hg4 (by have:=hg2.size;have:=hB3.size;simp at *;omega)) Tryz.underlying205 Hi.out HL.out (xs:=l.map bv) mK ?_) | (refine ff rfl (x:=.tmp 2) rfl rfl (t:=205) (cs:=l.map bv) ((((hb _ _ ((dQ _ _ rfl))).below hB3 aZ).alloc _).grown hg4 (by have:=hB3.size;simp at this;simp;omega)) Tryz.underlying205 Hi.out HL.out (xs:=l.map bv) mK ?_))
 all_goals
  have h34:=eu ((Below.refl _ _).alloc aX _) hg4 aZ aX
  first
   | (have hBel:Below w.heap.size w w4:=iA (iA (bM ((Below.refl _ _).alloc aX _) hb2 aX) hB3 (by have:=hb2.size;simp at this;omega)) h34 (by have:=hb2.size;have:=hB3.size;simp at *;omega)
      have own4:=(hown2.below hB3 aX).below h34 aX;go_ret3;exact (gS.yes hBel own4))
   | (have hBel:Below w.heap.size w w4:=iA (iA ((Below.refl _ _).alloc aX _) hB3 aZ) h34 (by have:=hB3.size;simp at *;omega)
      go_ret3;exact (gS.yes0 hBel Hlo.out))
   | (have hBel:Below w.heap.size w w4:=iA (iA (bM ((Below.refl _ _).alloc aX _) hb2 aX) hB3 (by have:=hb2.size;simp at this;omega)) h34 (by have:=hb2.size;have:=hB3.size;simp at *;omega)
      go_ret3;exact (gS.no hBel))
   | (have hBel:Below w.heap.size w w4:=iA (iA ((Below.refl _ _).alloc aX _) hB3 aZ) h34 (by have:=hB3.size;simp at *;omega)
      go_ret3;exact (gS.no hBel))
theorem open_any (l:List UInt8)(kind:Int)(w:World)(hl:l.length=128) :
 Ca 163 #[aggB l,I kind] w (gS (bw l 9) (eV l) (eK l kind) (sg (ej l)) w):=by
 by_cases hbad:jD l kind
 · have hf:eK l kind=false:=by
    cases ho:eK l kind with
    | false=>rfl
    | true=>
      have h1:=ko ho;have h2:=np ho;unfold jD at hbad;omega
   rw[hf];exact (open_bad l kind w hl hbad).mono fun e w' ⟨he,hb⟩=>.inl ⟨rfl,he,hb⟩
 · have h127:bw l 127=215:=by unfold jD at hbad;omega
   have h0:(bw l 0:Int)=kind:=by unfold jD at hbad;omega
   have h9:bw l 9<=113:=by unfold jD at hbad;omega
   have hk:=gQ l 0;have hN:=pl l;have hlo:=pn hl h9
   by_cases hok:1<=kind/\ej l<9223372036854775808
   · have hsg:sg (ej l)=(ej l:Int):=by unfold sg;rw[if_pos hok.2]
     have hun:=un_sg hN;have hq:eK l kind=decide (bQ kind.toNat (ej l) (eV l)=l):=by
      have e1:kind<=255:=aS;simp[eK,hok.1,e1,hok.2,h9]
     refine open_main l (bQ kind.toNat (ej l) (eV l)) kind 0 w _ hl h127 h0 h9 (iR _ _ _ aS) (.inr ⟨rfl,hq⟩) (fun A c w hr=>?_);have:=make_ok kind (sg (ej l)) A (bw l 9) c (eV l) w hok.1 aS aS h9 hr
     rwa [hun] at this
   · have hq:eK l kind=false:=by
      cases ho:eK l kind with
      | false=>rfl
      | true=>
        have h2:=np ho;omega
     refine open_main l br kind 2 w _ hl h127 h0 h9 dJ (.inl ⟨rfl,hq⟩) (fun A c w hr=>?_);refine make_arg kind _ A _ c w ?_;have:1<=kind->sg (ej l)<0:=fun h=>by
      have:¬ ej l<9223372036854775808:=fun h2=>hok ⟨h,h2⟩
      unfold sg;rw[if_neg this];omega
     omega
def fA (kind n:Int)(l:List UInt8):List UInt8 × Int :=
 if kind<1\/255<kind\/n<0 then (br,2) else if 113<l.length then (br,3) else (bQ kind.toNat n.toNat l,0)
theorem makeL_len (kind n:Int)(l:List UInt8):(fA kind n l).1.length=128:=by
 unfold fA
 split
 · exact dJ
 · split
   · exact dJ
   · exact iR _ _ _ aS
theorem un_nat {n:Int}(h0:0<=n)(h1:n<=9223372036854775807):un n=n.toNat:=by unfold un;omega
theorem make_any (kind n:Int)(A:Option Addr)(m c:Nat)(l:List UInt8)(w:World)(hn:n<=9223372036854775807)(hm:m<=maxLen)(hl:RB w A m l) :
 Ca 199 #[I kind,I n,.slice A m c] w fun e w'=>e=.returned (.tuple #[aggB (fA kind n l).1,I (fA kind n l).2])/\Below w.heap.size w w':=by
 unfold fA
 by_cases h:kind<1\/255<kind\/n<0
 · rw[if_pos h];exact make_arg kind n A m c w h
 · rw[if_neg h]
   by_cases h2:113<l.length
   · rw[if_pos h2];exact make_limit kind n A m c w aS aS aS (by rw[<- hl.1];exact h2) hm
   · rw[if_neg h2];have:=make_ok kind n A m c l w aS aS aS (by rw[<- hl.1];omega) hl
     rwa [un_nat aS hn] at this
theorem blank_any (l:List UInt8)(w:World)(hl:l.length=128):Ca 164 #[aggB l] w fun e w'=>e=.returned (.bool (decide (l=br)))/\Below w.heap.size w w':=by
 have hq:=fun w=>eq128 l br hl dJ w
 have hbu:∀ w:World,(Instr.build 205 #[]).run Tryz.prog w=.ok (aggB br) w:=fun w=>run_build w _ _ _ bE
 have HL:=aT (show (l.map bv).length=128 by simpa using hl);generalize decide (l=br)=b at *;have hz:=(zero_of_info dm).1;have Hi:=aT (zero_of_info dm).2;have Hz:=aT (show (br.map bv).length=128 by simp[dJ]);unfold aggB at hz;generalize br.map bv=Z at *;unfold aggB at *;generalize br.map bv=Z at *;generalize hC:l.map bv=C at *;clear hC hl;go_enter Tryz.func164,Tryz.ntmps164;go_wp2_with (refine ff rfl (x:=.tmp 1) rfl rfl (t:=205) (cs:=C) (Blk.top _ rfl rfl) Tryz.underlying205 Hi.out HL.out (xs:=C) mK ?_);go_ret;exact⟨rfl,ba⟩
end Go.Proofs.YtmeebofhlilcmaaGreat
