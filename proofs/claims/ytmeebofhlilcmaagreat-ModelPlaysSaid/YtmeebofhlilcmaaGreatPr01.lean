/- Parts. -/
import Derived.Test.YtmeebofhlilcmaaGreatPr00
import Derived.Deep.DeepCutAuto
import Derived.Deep.CutBlock
import Derived.StillTail
import Derived.Laws.MakeOwn
set_option linter.unusedVariables false
set_option linter.unusedSimpArgs false
set_option maxRecDepth 100000
set_option maxHeartbeats 0
namespace Go.Proofs.YtmeebofhlilcmaaGreat
variable {w:World} {p q:Prop} {t:TypeId} {cs:List Value} {n fuel u:Nat} {oi:Oper} {a:Act}
open Go.RowKit
theorem bc {b:Nat}{w':World}(h:Below b w w':=by (repeat' (first | (with_reducible exact Below.refl _ _) | (with_reducible assumption) | (with_reducible refine Below.drew ?_) | (with_reducible refine below_drewN ?_ _) | (with_reducible refine Below.alloc ?_ ?_ _) | (with_reducible refine Below.setCell ?_ ?_ _) | omega | (simp;done) | (simp;omega)))):Below b w w':=h
theorem br (h:p:=by first | omega | (simp;done) | (simp;omega)):p:=h
theorem bI {g:Nat}(h:Blk w g t cs:=by (repeat' (first | (with_reducible assumption) | (with_reducible refine Blk.top _ (by first | rfl | omega | (simp;done) | (simp;omega)) rfl) | (with_reducible refine Blk.alloc ?_ _) | (with_reducible refine Blk.drew ?_) | (with_reducible refine Blk.drewN ?_ _) | (with_reducible refine Blk.far ?_ (by first | omega | (simp;done) | (simp;omega)) _)))):Blk w g t cs:=h
theorem qq {g:Nat}(h:Blk w g t cs:=by (repeat' (first | (with_reducible assumption) | (with_reducible refine Blk.top _ (by first | rfl | omega | (simp;done) | (simp;omega)) rfl) | (with_reducible refine Blk.alloc ?_ _) | (with_reducible refine Blk.drew ?_) | (with_reducible refine Blk.drewN ?_ _) | (with_reducible refine Blk.setCellsFar (by first | omega | (simp;done) | (simp;omega)) _ _ _ ?_) | (with_reducible refine Blk.far ?_ (by first | omega | (simp;done) | (simp;omega)) _)))):Blk w g t cs:=h
theorem bJ (h:q)(e:p=q:=by ((try (conv=>lhs;simp only[List.getElem_toArray,List.getElem_cons_zero,List.getElem_cons_succ,Act.put,List.setIfInBounds_toArray,List.set_cons_zero,List.set_cons_succ]));try exact rfl)):p:=e ▸ h
theorem aS (h:p:=by omega):p:=h
theorem aZ (h:p:=by simp):p:=h
theorem aU (h:p:=by decide):p:=h
theorem bQ (h:p:=by unfold maxLen;omega):p:=h
theorem aW :n<=n:=Nat.le_refl n
theorem aT (h:p):Hid p:=Lib.hid h
section
variable {P:Program} {ops:Array Oper} {Q:Exit→Act→World→Prop} {md:Region.Mode} {S:World→Prop}
theorem aV (i:Nat){v:Value}{listed:Array Bool}(h:q)(hi:ops[i]?=some oi:=by rfl)
 (hs:Region.noSelect ops=true:=by decide +kernel) (hf:Region.free md ops listed i=true:=by decide +kernel) (hr:(Region.ready md ops listed).contains i=true:=by decide +kernel)
 (hQ:∀ c a w,Q (.panic c) (a.put oi.dst v) w->Q (.panic c) a w:=by exact fun _ _ _ h=>h)
 (hy:YieldsIf P ops S oi v a:=by (refine Or.inl ⟨by rfl,?_⟩;intro w hSw;(try dsimp only at hSw);go_simp;try (with_reducible rfl))) (hS:S w:=by assumption)
 (e:wpAnyH P md ops Q S fuel (listed.setIfInBounds i true) (a.put oi.dst v) w=q:=by ((try (conv=>lhs;simp only[List.getElem_toArray,List.getElem_cons_zero,List.getElem_cons_succ,Act.put,List.setIfInBounds_toArray,List.set_cons_zero,List.set_cons_succ]));try exact rfl)):wpAnyH P md ops Q S (fuel+1) listed a w :=
 wpAnyH_take hi hs hf hr hQ hy hS (e ▸ h)
theorem bB (i:Nat){listed:Array Bool}(h:q)(hi:ops[i]?=some oi:=by rfl)
 (hs:Region.noSelect ops=true:=by decide +kernel) (hf:Region.free md ops listed i=true:=by decide +kernel) (hr:(Region.ready md ops listed).contains i=true:=by decide +kernel)
 (hQ:∀ c a w,Q (.panic c) (a.put oi.dst undef) w->Q (.panic c) a w:=by exact fun _ _ _ h=>h)
 (hy:YieldsIf P ops S oi undef a:=by exact Or.inr ⟨by rfl,rfl⟩) (hS:S w:=by assumption)
 (e:wpAnyH P md ops Q S fuel (listed.setIfInBounds i true) (a.put oi.dst undef) w=q:=by ((try (conv=>lhs;simp only[List.getElem_toArray,List.getElem_cons_zero,List.getElem_cons_succ,Act.put,List.setIfInBounds_toArray,List.set_cons_zero,List.set_cons_succ]));try exact rfl)):wpAnyH P md ops Q S (fuel+1) listed a w :=
 wpAnyH_take hi hs hf hr hQ hy hS (e ▸ h)
theorem bR (i:Nat){o:Oper}{listed:Array Bool}
 (h:∀ K':Act->World->Prop,Shut (∀ a w,S w->(S w->wpAnyH P md ops Q S fuel (listed.setIfInBounds i true) a w)->K' a w)->if Region.wanted o (yielded ops a.tmps)=true then Oper.wp P o a w K' Q else K' (a.put o.dst undef) w)
 (ho:ops[i]?=some o:=by rfl) (hr:Region.ready md ops listed=[i]:=by decide +kernel):wpAnyH P md ops Q S (fuel+1) listed a w :=
 wpAnyH_ready hr (by simp) (AllReadyH.cons ho h AllReadyH.nil)
theorem qo{P:Prop}(h:P:=by (intro w hSw;(try dsimp only at hSw);obtain⟨s1,s2⟩:=hSw;go_simp;rfl)):P:=h
theorem o9{P:Prop}(h:P:=by (intro w hSw;(try dsimp only at hSw);obtain⟨s1,s2,s3⟩:=hSw;go_simp;rfl)):P:=h
theorem bT{P:Prop}(h:P:=by decide +kernel):P:=h
theorem bM{P:Prop}(h:P:=by kernel_rfl):P:=h
theorem dU{P:Prop}(h:P:=by first | rfl | go_num | (simp;done)):P:=h
theorem fS{P:Prop}(h:P:=by rw[List.drop_zero,List.take_of_length_le (by rw[hsl.out];omega)]):P:=h
theorem dv{P:Prop}(h:P:=by simp;try omega):P:=h
theorem cR{P:Prop}(h:P:=by simp;omega):P:=h
theorem kG{P:Prop}(h:P:=by rw[List.drop_zero,List.take_of_length_le (by rw[hlb.out];omega)]):P:=h
theorem eU{P:Prop}(h:P:=by rw[hv.out]):P:=h
theorem gu{P:Prop}(h:P:=by rw[hlz.out];omega):P:=h
theorem dh{P:Prop}(h:P:=by (exact qo)):P:=h
theorem eY{P:Prop}(h:P:=by (exact o9)):P:=h
theorem lS{P:Prop}(h:P:=by rw[hz2.out,Bool.eq_iff_iff];simp only[Bool.and_eq_true,decide_eq_true_eq];omega):P:=h
theorem lT{P:Prop}(h:P:=by (intro w hSw;(try dsimp only at hSw);obtain⟨s1,s2,s3,s4⟩:=hSw;go_simp;rfl)):P:=h
theorem kH{P:Prop}(h:P:=by simp[results,Tryz.results51,go_sem ,q0,q1]):P:=h
theorem nh{P:Prop}(h:P:=by first | exact hz.out.symm | (rw[hz.out];done) | (rw[hz.out];simp;done) | (rw[hz.out];simp;omega)):P:=h
theorem pb{P:Prop}(h:P:=by have q:=X1.out.cell 2;rw[show slotC ga gb s' B0 n0 d0=[.pointer (some ⟨ga,0,none⟩),.pointer (some ⟨gb,0,none⟩),I (nowI s'.now),I s'.number,.slice B0 n0 d0] from rfl,H22.out] at q;exact q):P:=h
theorem nj{P:Prop}(h:P:=by rw[hVS.out,List.drop_succ_cons,List.drop_zero,List.take_of_length_le (by rw[hSl.out];omega)]):P:=h
theorem lj{P:Prop}(h:P:=by first | rfl | (simp;done) | (simp;omega)):P:=h
theorem gU{P:Prop}(h:P:=by assumption):P:=h
theorem lU{P:Prop}(h:P:=by first | rfl | omega | (simp;done) | (simp;omega)):P:=h
theorem lV{P:Prop}(h:P:=by have:=R6.out;rw[HS9.out] at this;exact this):P:=h
theorem nm{P:Prop}(h:P:=by rw[List.drop_zero,List.take_of_length_le (by rw[HL.out];omega)]):P:=h
theorem iP{P:Prop}(h:P:=by rw[e1];simp):P:=h
theorem iQ{P:Prop}(h:P:=by rw[b1];simp):P:=h
theorem kI{P:Prop}(h:P:=by have:=HJ4.out.lt;omega):P:=h
theorem jO{P:Prop}(h:P:=by rw[Hl.out];omega):P:=h
theorem kJ{P:Prop}(h:P:=by have:=hb.size;omega):P:=h
theorem iR{P:Prop}(h:P:=by simp[gV]):P:=h
theorem pd{P:Prop}(h:P:=by have q9:=np (some ⟨gh,oh,none⟩) d (L.take 8) w1 ((o1.rd.take_ aS).rb);rw[HN.out] at q9;exact q9):P:=h
theorem ns{P:Prop}(h:P:=by simp[results,Tryz.results161,go_sem,j10,j11,j12]):P:=h
theorem jz{P:Prop}(h:P:=by rw[n1];simp):P:=h
theorem jA{P:Prop}(h:P:=by rw[d1];simp):P:=h
theorem kK{P:Prop}(h:P:=by rw[eo];exact hfm):P:=h
theorem nt{P:Prop}(h:P:=by (intro w hSw;(try dsimp only at hSw);go_simp;rfl)):P:=h
theorem lm{P:Prop}(h:P:=by have:=s2.size;omega):P:=h
theorem pe{P:Prop}(h:P:=by rw[HOK.out,decide_eq_true ra,decide_eq_true (show op≠29 by omega)];simp):P:=h
theorem lW{P:Prop}(h:P:=by simp[UInt8.size];omega):P:=h
theorem kL{P:Prop}(h:P:=by rw[hl];omega):P:=h
theorem pf{P:Prop}(h:P:=by (intro w hSw;(try dsimp only at hSw);obtain⟨s1,s3,s5⟩:=hSw;go_simp;rfl)):P:=h
theorem nu{P:Prop}(h:P:=by have:=s2.size;have:=b3.size;omega):P:=h
end
section
variable {P:Program} {ops:Array Oper} {w:World}
theorem lp {Q:Act->Prop}:∀ (l:List Oper) (a:Act),wpQuiet P ops (fun w'=>w'=w) Q l a->wpStill P ops w Q l a
 | [],_,h=>h
 | o :: rest,a,h=>by
   unfold wpQuiet at h;unfold wpStill
   by_cases hw:Region.wanted o (yielded ops a.tmps)=true
   · rw[if_pos hw] at h ⊢;obtain⟨v,h1,h2⟩:=h;have h3:=h1 w rfl;unfold Oper.quietAt at h3;unfold Oper.still;generalize (execOp a.eval o).run P w=r at *
     cases r with
     | ok n w'=>
       cases n <;> simp only[Oper.quietUpon] at h3 <;> simp only[Oper.stillUpon]
       case value u=>exact⟨h3.1,by rw[h3.2];exact lp rest _ h2⟩
       case skip=>exact⟨h3.1,by rw[<- h3.2];exact lp rest _ h2⟩
       case enter f args=>obtain⟨e1,hc⟩:=h3;exact⟨e1,v,hc,lp rest _ h2⟩
     | halt x w'=>simp only[Oper.quietUpon] at h3
   · rw[if_neg hw] at h ⊢;exact lp rest _ h
theorem nw {id:Nat}{Q:Exit->Act->World->Prop}{l:List Oper}(n:Nat)(hm:P.follows .mixedOrders=true)(hB:Region.lexTailB .any l.toArray n=true)
 (h:wpQuiet P l.toArray (fun w'=>w'=w.drew) (fun a'=>wpList P l.toArray Q (l.drop n) a' w.drew) (l.take n) a):(Code.region id l.toArray true).wp P Q a w :=
 wp_region_still_tail n hm hB (lp _ _ h)
end
def eZ (k n:Int)(r c:Nat):Bool :=
 if k=1 then decide (1<=r) && decide (r<=8) && decide (c=0) && decide (n=0)
 else if k=2\/k=4 then decide (r=0) && decide (c=0) && decide (0<=n)
 else if k=3 then decide (r=0) && decide (c=0) && decide (n=0)
 else if k=5 then decide (r=0) && decide (c<=64) && decide (-1<=n)
 else false
section
variable {k n:Int} {r r' c c':Nat} {R C:Option Addr} {w:World}
theorem jP:eZ k n r c=true ↔ (k=1/\1<=r/\r<=8/\c=0/\n=0)\/((k=2\/k=4)/\r=0/\c=0/\0<=n)\/(k=3/\r=0/\c=0/\n=0)\/(k=5/\r=0/\c<=64/\-1<=n):=by
 unfold eZ
 split
 · simp;omega
 split
 · simp;omega
 split
 · simp;omega
 split
 · simp;omega
 · simp;omega
theorem lX:Ca 133 #[.agg #[I k,I n,.slice R r r',.slice C c c']] w fun e w'=>e=.returned (.bool (eZ k n r c))/\Below w.heap.size w w':=by
 have hQ:=aT (jP (k:=k) (n:=n) (r:=r) (c:=c));generalize eZ k n r c=Q at *;go_enter Tryz.func133,Tryz.ntmps133;go_upto_region 1 with fail;go_big_quiet (fail);go_wp2_with fail
 all_goals go_ret
 all_goals (refine⟨?_,bc⟩;try subst_vars)
 all_goals (refine Eq.trans (b:=Ending.returned (.bool _)) rfl (congrArg (fun b=>Ending.returned (.bool b)) (Bool.eq_iff_iff.2 (Iff.trans ?_ hQ.out.symm)));clear hQ;(try simp only[beq_iff_eq,ag,aq,reduceCtorEq,false_iff,true_iff,Bool.not_eq_true,af,aE,Bool.false_eq_true,true_and,and_true] at *);first | omega | skip)
end
section
variable {w:World} {base g n c:Nat} {e:TypeId} {f:Nat→Nat}
theorem Ow.drew' {α:Type}{enc:α->Value}{A:Option Addr}{l:List α}(h:Ow enc w base e A n c l):Ow enc w.drew base e A n c l:=h
end
def tabB (n:Nat)(f:Nat->Nat):List UInt8:=(List.range n).map fun i=>UInt8.ofNat (f i)
theorem lq (n:Nat)(f:Nat->Nat):(tabB n f).length=n:=by simp[tabB]
theorem tabB_at {k:Nat}(f:Nat->Nat)(h:k<n)(hf:f k<256):bx (tabB n f) k=f k:=by
 simp only[bx,tabB,ah,List.getElem?_map,List.getElem?_range h,Option.map_some,Option.getD_some];exact UInt8.toNat_ofNat_of_lt' (by simp[UInt8.size];omega)
theorem pg {f g:Nat->Nat}(h:∀ i,i<n->f i=g i):tabB n f=tabB n g:=by
 unfold tabB;apply List.map_congr_left;intro i hi;rw[h i (List.mem_range.1 hi)]
theorem tabB_set {k:Nat}(f:Nat->Nat)(v:Nat)(h:k<n):(tabB n f).set k (UInt8.ofNat v)=tabB n (fun i=>if i=k then v else f i):=by
 apply List.ext_getElem?;intro i
 by_cases hi:i=k
 · subst hi;rw[List.getElem?_set_self (by rw[lq];exact h)];simp[tabB,h]
 · rw[List.getElem?_set_ne aS];rcases ay i n with h1 | h1
   · simp[tabB,h1,hi]
   · rw[aK (by rw[lq];exact h1),aK (by rw[lq];exact h1)]
theorem jB {v:Nat}(h:v<256):bv (UInt8.ofNat v)=.int .u8 (v:Nat):=by
 unfold bv;rw[UInt8.toNat_ofNat_of_lt' (by simp[UInt8.size];omega)]
section
variable {w:World} {base g n c:Nat} {e:TypeId} {f:Nat→Nat}
theorem Ow.tabB_set (h:Ow bv w base e (some ⟨g,0,none⟩) n c (tabB n f)){f':Nat->Nat}(k:Nat)(v:Nat)(u:Value)(hk:k<n)(hv:v<256)(hu:u=.int .u8 (v:Nat))(hf:∀ i,i<n->(if i=k then v else f i)=f' i) :
 Ow bv (w.setCell ⟨g,k,none⟩ u) base e (some ⟨g,0,none⟩) n c (tabB n f'):=by
 have:=h.set k (UInt8.ofNat v) u (by rw[jB hv];exact hu)
 rwa [Go.Proofs.YtmeebofhlilcmaaGreat.tabB_set f v hk,pg hf] at this
end
theorem kM {P:Program}{e:TypeId}{z:Value}{bytes:Nat}(hE:dQ P t e z 1 bytes)(n:Nat)(hb:bytes * n<=281474976710656)(h63:n<=9223372036854775807)(W:World) :
 (Instr.makeSlice t (I (n:Int)) (I (n:Int))).run P W=.ok (.slice (some ⟨W.heap.size,0,none⟩) n n) (W.alloc (.cells (madeCells z.cells n) e)):=by
 obtain⟨ht,⟨i,hi,hz,hs,hby⟩,hzs,_⟩:=hE;have h:(i.bytes:Int) * (n:Int)<=281474976710656:=by
  rw[hby];have:((bytes * n:Nat):Int)<=281474976710656:=aS
  rwa [Int.natCast_mul] at this
 have hr:=run_make (P:=P) W t e i z ht hi hz .i64 .i64 n n aS aS h aS;simp only[ax,hs,Nat.mul_one] at hr;exact hr
theorem Ow.made {α:Type}{enc:α->Value}(w:World)(e:TypeId)(x:α)(z:Value)(n:Nat)(hz:z.cells=#[enc x])(hm:n<=maxLen) :
 Ow enc (w.alloc (.cells (madeCells z.cells n) e)) w.heap.size e (some ⟨w.heap.size,0,none⟩) n n (List.replicate n x):=by
 have:=Ow.new (enc:=enc) w e (madeCells z.cells n) (List.replicate n x) (by rw[hz,toList_madeCells_one];simp) (by simpa using hm);simpa using this
theorem tabB_zero (n:Nat):List.replicate n (0:UInt8)=tabB n (fun _=>0):=by simp[tabB,List.map_const']
def un (n:Int):Nat:=(n % 18446744073709551616).toNat
def sg (u:Nat):Int:=if u<9223372036854775808 then (u:Int) else (u:Int) - 18446744073709551616
theorem un_lt (n:Int):un n<18446744073709551616:=by unfold un;omega
theorem sg_un {n:Int}(h0:-9223372036854775808<=n)(h1:n<=9223372036854775807):sg (un n)=n:=by unfold sg un;split <;> omega
theorem un_sg (h:u<18446744073709551616):un (sg u)=u:=by unfold sg un;split <;> omega
theorem sg_bd (h:u<18446744073709551616):-9223372036854775808<=sg u/\sg u<=9223372036854775807:=by unfold sg;split <;> omega
theorem wrap_un (n:Int):IntKind.u64.wrap n=(un n:Nat):=by rw[IntKind.wrap_u64];unfold un;omega
theorem wrap_sg (h:u<18446744073709551616):IntKind.i64.wrap (u:Int)=sg u:=by rw[IntKind.wrap_i64];unfold sg;split <;> omega
def putL (u:Nat):List UInt8:=tabB 8 (fun i=>u / 256 ^ i % 256)
def getL:List UInt8->Nat
 | []=>0
 | c :: l=>c.toNat+256 * getL l
theorem lY (l:List UInt8):getL l<256 ^ l.length:=by
 induction l with
 | nil=>simp[getL]
 | cons c l ih=>
   have:=c.toNat_lt;simp only[getL,aF,Nat.pow_succ];omega
theorem iS (u:Nat):(putL u).length=8:=by simp[putL,lq]
theorem getL_tab (u n:Nat):getL (tabB n (fun i=>u / 256 ^ i % 256))=u % 256 ^ n:=by
 induction n generalizing u with
 | zero=>simp[tabB,getL,Nat.mod_one]
 | succ n ih=>
   have e:tabB (n+1) (fun i=>u / 256 ^ i % 256)=UInt8.ofNat (u % 256) :: tabB n (fun i=>u / 256 / 256 ^ i % 256):=by
    unfold tabB;rw[List.range_succ_eq_map,List.map_cons,List.map_map]
    congr 1
    · simp
    · apply List.map_congr_left;intro i _;simp only[Function.comp,Nat.succ_eq_add_one];rw[Nat.div_div_eq_div_mul,Nat.pow_succ,Nat.mul_comm 256]
   rw[e];simp only[getL];rw[ih,UInt8.toNat_ofNat_of_lt' (by simp[UInt8.size];omega),Nat.pow_succ,Nat.mul_comm (256 ^ n) 256,Nat.mod_mul]
theorem ny (u:Nat)(h:u<18446744073709551616):getL (putL u)=u:=by
 unfold putL;rw[getL_tab];exact Nat.mod_eq_of_lt aS
def cy (most:Nat):Nat->List UInt8->Nat × Nat
 | i,[]=>(0,if i<most then 10 else 11)
 | i,c :: l=>if most<=i then (0,11) else if c.toNat<128 then (if 0<i/\c.toNat=0 then (0,11) else (i+1,0)) else cy most (i+1) l
def sevL:List UInt8->Nat
 | []=>0
 | c :: l=>c.toNat % 128+128 * sevL l
def digL:Nat->Nat->List UInt8
 | 0,n=>[UInt8.ofNat n]
 | f+1,n=>if n<128 then [UInt8.ofNat n] else UInt8.ofNat (n % 128+128) :: digL f (n / 128)
def zz (n:Int):Nat:=if 0<=n then (2 * n).toNat else (-2 * n - 1).toNat
def unzz (u:Nat):Int:=if u % 2=0 then ((u / 2:Nat):Int) else -((u / 2:Nat):Int) - 1
theorem unzz_zz (n:Int):unzz (zz n)=n:=by
 unfold unzz zz
 by_cases h:0<=n
 · rw[if_pos h,if_pos aS];omega
 · rw[if_neg h,if_neg aS];omega
theorem zz_unzz (u:Nat):zz (unzz u)=u:=by
 unfold unzz
 by_cases h:u % 2=0
 · rw[if_pos h];unfold zz;rw[if_pos aS];omega
 · rw[if_neg h];unfold zz;rw[if_neg aS];omega
theorem zz_lt {n:Int}(h0:-9223372036854775808<=n)(h1:n<=9223372036854775807):zz n<18446744073709551616:=by unfold zz;split <;> omega
theorem unzz_bd (h:u<18446744073709551616):-9223372036854775808<=unzz u/\unzz u<=9223372036854775807:=by unfold unzz;split <;> omega
theorem sevL_append (a b:List UInt8):sevL (a ++ b)=sevL a+128 ^ a.length * sevL b:=by
 induction a with
 | nil=>simp[sevL]
 | cons c a ih=>
   simp only[List.cons_append,sevL,aF,ih,Nat.pow_succ,Nat.mul_add];rw[<- Nat.mul_assoc,Nat.mul_comm 128 (128 ^ a.length)];omega
theorem sevL_lt (l:List UInt8):sevL l<128 ^ l.length:=by
 induction l with
 | nil=>simp[sevL]
 | cons c l ih=>simp only[sevL,aF,Nat.pow_succ];omega
theorem nz {f:Nat}(h:n<128):digL f n=[UInt8.ofNat n]:=by
 cases f with
 | zero=>rfl
 | succ f=>unfold digL;rw[if_pos h]
theorem gN (f:Nat):∀ n,(digL f n).length<=f+1/\1<=(digL f n).length:=by
 induction f with
 | zero=>intro n;simp[digL]
 | succ f ih=>
   intro n;unfold digL
   split
   · simp
   · have:=ih (n / 128);simp;omega
/-! ### What the readers answer -/
theorem jQ (most:Nat)(l:List UInt8):∀ i,(cy most i l).2=0->i<(cy most i l).1/\(cy most i l).1<=most/\(cy most i l).1<=i+l.length:=by
 induction l with
 | nil=>intro i h;unfold cy at h;split at h <;> simp at h
 | cons c l ih=>
   intro i h;unfold cy at h ⊢
   by_cases h1:most<=i
   · simp[h1] at h
   · rw[if_neg h1] at h ⊢
     by_cases h2:c.toNat<128
     · rw[if_pos h2] at h ⊢
       by_cases h3:0<i/\c.toNat=0
       · rw[if_pos h3] at h;simp at h
       · rw[if_neg h3];simp only[aF];omega
     · rw[if_neg h2] at h ⊢;have:=ih (i+1) h;simp only[aF];omega
theorem endsL_err (most:Nat)(l:List UInt8):∀ i,(cy most i l).2≠0->(cy most i l).1=0/\((cy most i l).2=10\/(cy most i l).2=11):=by
 induction l with
 | nil=>intro i _;unfold cy;split <;> simp
 | cons c l ih=>
   intro i h;unfold cy at h ⊢
   by_cases h1:most<=i
   · simp[h1]
   · rw[if_neg h1] at h ⊢
     by_cases h2:c.toNat<128
     · rw[if_pos h2] at h ⊢
       by_cases h3:0<i/\c.toNat=0
       · rw[if_pos h3];simp
       · rw[if_neg h3] at h;simp at h
     · rw[if_neg h2] at h ⊢;exact ih (i+1) h
theorem lZ (n:Int)(w:World):Ca 254 #[I n] w fun e w'=>∃ A c,e=.returned (.slice A 8 c)/\OB w' w.heap.size 5 A 8 c (putL (un n))/\Below w.heap.size w w':=by
 have hw:=wrap_un n;have hu:=un_lt n;generalize un n=U at *;have hmk:∀ W:World,(Instr.makeSlice 27 (I 8) (I 8)).run Tryz.prog W=.ok (.slice (some ⟨W.heap.size,0,none⟩) 8 8) (W.alloc (.cells (madeCells (Value.int .u8 0).cells 8) 5)):=kM cH 8 aS aS;have hown0:Ow bv (w.alloc (.cells (madeCells (Value.int .u8 0).cells 8) 5)) w.heap.size 5 (some ⟨w.heap.size,0,none⟩) 8 8 (tabB 8 (fun i=>if i<0 then U / 256 ^ i % 256 else 0)):=by
  have:=Ow.made (enc:=bv) w 5 0 (.int .u8 0) 8 rfl aU
  rwa [tabB_zero] at this
 have hb0:Below w.heap.size w (w.alloc (.cells (madeCells (Value.int .u8 0).cells 8) 5)):=bc;go_enter Tryz.func254,Tryz.ntmps254;go_wp2;go_loopw [4,11] (fun uu kk wr=>∃ k u,k<=8/\kk=I (k:Nat)/\uu=.int .u64 (u:Nat)/\Hid (u=U / 256 ^ k)/\u<18446744073709551616/\Ow bv wr w.heap.size 5 (some ⟨w.heap.size,0,none⟩) 8 8 (tabB 8 (fun i=>if i<k then U / 256 ^ i % 256 else 0))/\Below w.heap.size w wr) (fun _ kk _=>8 - (intOf kk).toNat)
 case atStart=>exact⟨0,U,aS,rfl,rfl,by show U=U / 256 ^ 0;omega,hu,hown0,hb0⟩
 case round=>
  obtain⟨k,u,hk,rfl,rfl,hU,hu,hown,hb⟩:=hrel;have hbs:=hb.size
  by_cases hk8:k<8
  · have hfree:=hown.free k;have hset:=fun v hv=>aT (hown.tabB_set (f':=fun i=>if i<k+1 then U / 256 ^ i % 256 else 0) k (u % 256) v hk8 aS hv (fun i hi=>by
     by_cases h1:i=k
     · subst h1;simp[hU.out]
     · by_cases h2:i<k
       · simp[h1,h2,Nat.lt_succ_of_lt h2]
       · simp[h1,h2,show ¬ i<k+1 from by omega]))
    have hU2:Hid (u / 256=U / 256 ^ (k+1)):=by
     show _=_
     rw[hU.out,Nat.div_div_eq_div_mul,Nat.pow_succ]
    obtain⟨b1,o1,hA,_,hc⟩:=hown.rd.rb.at_ hk8;injection hA with hA;injection hA with h1 h2 _;subst h1 h2;rw[aD] at hc;clear hown;go_wp2;go_roundw
    case rel=>exact⟨k+1,u / 256,aS,by go_num,by go_num,hU2,aS,(hset _ (by first | rfl | (congr 1;omega))).out,bc⟩
    case measure=>simp[intOf];omega
  · have hk9:k=8:=aS;subst hk9;go_wp2;go_ret;refine⟨_,8,rfl,?_,hb⟩;unfold putL;rw[pg (g:=fun i=>U / 256 ^ i % 256)] at hown
    · exact hown
    · intro i hi;simp[hi]
theorem kN (a:Nat)(ha:a<18446744073709551616):(BitVec.ofInt 64 (a:Int)).toNat=a:=by
 rw[BitVec.ofInt_natCast,BitVec.toNat_ofNat];exact Nat.mod_eq_of_lt aS
theorem u64_shl8_or (u y:Nat)(hu:u<=72057594037927935)(hy:y<256):bits .or .u64 ((u:Int) * 256) (y:Int)=((y+256 * u:Nat):Int):=by
 have h:=Nat.two_pow_add_eq_or_of_lt (i:=8) (b:=y) aS u
 show IntKind.u64.wrap ((BitVec.ofInt 64 ((u * 256:Nat):Int) ||| BitVec.ofInt 64 (y:Int)).toNat:Int)=_
 rw[BitVec.toNat_or,kN _ aS,kN y aS,IntKind.wrap_u64,show u * 256=2 ^ 8 * u from by omega,<- h];omega
theorem getL_drop (l:List UInt8)(k:Nat)(h:k<l.length):getL (l.drop k)=bx l k+256 * getL (l.drop (k+1)):=by
 rw[aQ h];simp[getL,bx,ah,h]
theorem np (A:Option Addr)(c:Nat)(l:List UInt8)(w:World)(hl:RB w A 8 l):Ca 237 #[.slice A 8 c] w fun e w'=>e=.returned (.tuple #[I (sg (getL l)),I 0])/\w=w':=by
 have hlt:getL l<18446744073709551616:=by have:=lY l;rw[hl.1] at this;omega
 have hwr:=wrap_sg hlt;have hlen:=aT hl.1;generalize hz:sg (getL l)=z at *;clear hz;go_enter Tryz.func237,Tryz.ntmps237;go_wp2;go_loop [4,5] (fun uu kk=>∃ k u,k<=8/\kk=I (8 - (k:Nat))/\uu=.int .u64 (u:Nat)/\Hid (u=getL (l.drop (8 - k)))) (fun _ kk=>(intOf kk).toNat)
 case atStart=>exact⟨0,0,aS,rfl,rfl,by show 0=_;rw[aP (by rw[hlen.out];omega)];rfl⟩
 case round=>
  obtain⟨k,u,hk,rfl,rfl,hU⟩:=hrel
  by_cases hk8:k<8
  · obtain⟨b,o,rfl,_,hc⟩:=hl.at_ (k:=7 - k) aS;rw[show o+(7 - k)=o+(8 - k - 1) from by omega] at hc;have hb:=ij l (7 - k);have hd:=getL_drop l (7 - k) (by rw[hlen.out];omega);rw[show 7 - k+1=8 - k from by omega,<- hU.out] at hd;have hd2:Hid (getL (l.drop (8 - (k+1)))=bx l (7 - k)+256 * u):=by rw[show 8 - (k+1)=7 - k from by omega];exact hd
    clear hd;have hu:u<=72057594037927935:=by
     rw[hU.out];have h1:=lY (l.drop (8 - k));have h2:(l.drop (8 - k)).length<=7:=by rw[aH,hlen.out];omega
     have h3:256 ^ (l.drop (8 - k)).length<=256 ^ 7:=Nat.pow_le_pow_right aS h2;omega
    generalize bx l (7 - k)=y at *;have hor:=u64_shl8_or u y hu hb;go_wp2;go_round
    case rel=>exact⟨k+1,y+256 * u,aS,by go_num,by go_num,hd2.out.symm⟩
    case measure=>simp[intOf];omega
  · have hk9:k=8:=aS;subst hk9;have hU2:u=getL l:=hU.out;rw[<- hU2] at hwr;clear hU hU2;go_wp2;go_ret2;exact⟨rfl,rfl⟩
theorem digL_lt {f:Nat}(h:n<128):digL f n=[UInt8.ofNat n]:=by
 cases f with
 | zero=>rfl
 | succ f=>unfold digL;rw[if_pos h]
theorem digits_u (u:Nat)(w:World)(hu:u<18446744073709551616):Ca 281 #[.int .u64 u] w fun e w'=>∃ A c,e=.returned (.slice A (digL 9 u).length c)/\OB w' w.heap.size 5 A (digL 9 u).length c (digL 9 u)/\Below w.heap.size w w':=by
 generalize hz:digL 9 u=z at *;have Hz:=aT hz;clear hz;go_enter Tryz.func281,Tryz.ntmps281;go_wp2;go_loopw [0,3] (fun nn v wr=>∃ f m A c L,Hid (f+L.length=9)/\nn=.int .u64 (m:Nat)/\v=.slice A L.length c/\Hid (L ++ digL f m=z)/\Hid (m<128 ^ (f+1))/\m<18446744073709551616/\OB wr w.heap.size 5 A L.length c L/\Below w.heap.size w wr) (fun nn _ _=>(intOf nn).toNat)
 case atStart=>exact⟨9,u,none,0,[],rfl,rfl,rfl,Hz,by show u<_;omega,hu,Ow.nil _ _ _ _,Below.refl _ _⟩
 case round=>
  obtain⟨f,m,A,c,L,hf,rfl,rfl,hL,hm,hm64,hown,hb⟩:=hrel;have hbs:=hb.size
  by_cases hbig:128<=m
  · obtain⟨f,rfl⟩:∃ k,f=k+1:=by
     cases f with
     | zero=>have:=hm.out;omega
     | succ f=>exact⟨f,rfl⟩
    have hL2:Hid ((L ++ [UInt8.ofNat (m % 128+128)]) ++ digL f (m / 128)=z):=by
     show _=_
     rw[<- hL.out];conv=>rhs;unfold digL
     rw[if_neg aS];simp
    have hm2:Hid (m / 128<128 ^ (f+1)):=by
     show m / 128<_
     have:=hm.out;rw[Nat.pow_succ] at this;omega
    have hf9:L.length<=8:=by have:=hf.out;omega
    have hlen:(L ++ [UInt8.ofNat (m % 128+128)]).length=L.length+1:=by simp
    have hbv:=aT (jB (v:=m % 128+128) aS);generalize hN:L ++ [UInt8.ofNat (m % 128+128)]=L2 at *;have HN:=aT hN;have Hlen:=aT hlen;clear hN hlen;go_wp2_with (at_builtin;refine dR rfl rfl cH dg (s:=.tmp 6) (N:=L.length+1) (L:=L2) rfl (hown.below (b:=wr.heap.size) bc br) rfl (k:=[UInt8.ofNat (m % 128+128)]) (Rd.of_block (l:=[UInt8.ofNat (m % 128+128)]) (dP _ _ aZ) (by first | exact congrArg (fun x=>[x]) hbv.out.symm | (show [_]=[_];congr 1;rw[hbv.out];congr 1;omega))) rfl HN.out bQ aS br ?_;intro A5 c5 w5 hown5 hg5 hat5 hb5);replace hb5:=bO (a:=w) (B:=w.heap.size) bc hb5 br;have hb5s:=hb5.size;go_roundw
    case rel=>exact⟨f,m / 128,A5,c5,L2,by show f+L2.length=9;have:=hf.out;rw[Hlen.out];omega,by go_num,by rw[Hlen.out],hL2,hm2,aS,by rw[Hlen.out];exact hown5,hb5⟩
    case measure=>simp[intOf];omega
  · have hL2:Hid (L ++ [UInt8.ofNat m]=z):=by
     show _=_
     rw[<- hL.out,digL_lt aS]
    have hf9:L.length<=9:=by have:=hf.out;omega
    have hlen:Hid (z.length=L.length+1):=by show _=_;rw[<- hL2.out];simp
    have hbv:=aT (jB (v:=m) aS);go_wp2_with (at_builtin;refine dR rfl rfl cH dg (s:=.tmp 15) (N:=L.length+1) (L:=z) rfl (hown.below (b:=wr.heap.size) bc br) rfl (k:=[UInt8.ofNat m]) (Rd.of_block (l:=[UInt8.ofNat m]) (dP _ _ aZ) (by first | exact congrArg (fun x=>[x]) hbv.out.symm | (show [_]=[_];congr 1;rw[hbv.out];congr 1;omega))) rfl hL2.out bQ aS br ?_;intro A5 c5 w5 hown5 hg5 hat5 hb5);replace hb5:=bO (a:=w) (B:=w.heap.size) bc hb5 br;have hb5s:=hb5.size;go_ret;rw[hlen.out];exact⟨A5,c5,rfl,hown5,hb5⟩
theorem digits_i (u:Nat)(w:World)(hu:u<9223372036854775808):Ca 303 #[I u] w fun e w'=>∃ A c,e=.returned (.slice A (digL 9 u).length c)/\OB w' w.heap.size 5 A (digL 9 u).length c (digL 9 u)/\Below w.heap.size w w':=by
 generalize hz:digL 9 u=z at *;have Hz:=aT hz;clear hz;go_enter Tryz.func303,Tryz.ntmps303;go_wp2;go_loopw [0,3] (fun nn v wr=>∃ f m A c L,Hid (f+L.length=9)/\nn=I (m:Nat)/\v=.slice A L.length c/\Hid (L ++ digL f m=z)/\Hid (m<128 ^ (f+1))/\m<9223372036854775808/\OB wr w.heap.size 5 A L.length c L/\Below w.heap.size w wr) (fun nn _ _=>(intOf nn).toNat)
 case atStart=>exact⟨9,u,none,0,[],rfl,rfl,rfl,Hz,by show u<_;omega,hu,Ow.nil _ _ _ _,Below.refl _ _⟩
 case round=>
  obtain⟨f,m,A,c,L,hf,rfl,rfl,hL,hm,hm64,hown,hb⟩:=hrel;have hbs:=hb.size
  by_cases hbig:128<=m
  · obtain⟨f,rfl⟩:∃ k,f=k+1:=by
     cases f with
     | zero=>have:=hm.out;omega
     | succ f=>exact⟨f,rfl⟩
    have hL2:Hid ((L ++ [UInt8.ofNat (m % 128+128)]) ++ digL f (m / 128)=z):=by
     show _=_
     rw[<- hL.out];conv=>rhs;unfold digL
     rw[if_neg aS];simp
    have hm2:Hid (m / 128<128 ^ (f+1)):=by
     show m / 128<_
     have:=hm.out;rw[Nat.pow_succ] at this;omega
    have hf9:L.length<=8:=by have:=hf.out;omega
    have hlen:(L ++ [UInt8.ofNat (m % 128+128)]).length=L.length+1:=by simp
    have hbv:=aT (jB (v:=m % 128+128) aS);generalize hN:L ++ [UInt8.ofNat (m % 128+128)]=L2 at *;have HN:=aT hN;have Hlen:=aT hlen;clear hN hlen;go_wp2_with (at_builtin;refine dR rfl rfl cH dg (s:=.tmp 6) (N:=L.length+1) (L:=L2) rfl (hown.below (b:=wr.heap.size) bc br) rfl (k:=[UInt8.ofNat (m % 128+128)]) (Rd.of_block (l:=[UInt8.ofNat (m % 128+128)]) (dP _ _ aZ) (by first | exact congrArg (fun x=>[x]) hbv.out.symm | (show [_]=[_];congr 1;rw[hbv.out];congr 1;omega))) rfl HN.out bQ aS br ?_;intro A5 c5 w5 hown5 hg5 hat5 hb5);replace hb5:=bO (a:=w) (B:=w.heap.size) bc hb5 br;have hb5s:=hb5.size;go_roundw
    case rel=>exact⟨f,m / 128,A5,c5,L2,by show f+L2.length=9;have:=hf.out;rw[Hlen.out];omega,by go_num,by rw[Hlen.out],hL2,hm2,aS,by rw[Hlen.out];exact hown5,hb5⟩
    case measure=>simp[intOf];omega
  · have hL2:Hid (L ++ [UInt8.ofNat m]=z):=by
     show _=_
     rw[<- hL.out,digL_lt aS]
    have hf9:L.length<=9:=by have:=hf.out;omega
    have hlen:Hid (z.length=L.length+1):=by show _=_;rw[<- hL2.out];simp
    have hbv:=aT (jB (v:=m) aS);go_wp2_with (at_builtin;refine dR rfl rfl cH dg (s:=.tmp 15) (N:=L.length+1) (L:=z) rfl (hown.below (b:=wr.heap.size) bc br) rfl (k:=[UInt8.ofNat m]) (Rd.of_block (l:=[UInt8.ofNat m]) (dP _ _ aZ) (by first | exact congrArg (fun x=>[x]) hbv.out.symm | (show [_]=[_];congr 1;rw[hbv.out];congr 1;omega))) rfl hL2.out bQ aS br ?_;intro A5 c5 w5 hown5 hg5 hat5 hb5);replace hb5:=bO (a:=w) (B:=w.heap.size) bc hb5 br;have hb5s:=hb5.size;go_ret;rw[hlen.out];exact⟨A5,c5,rfl,hown5,hb5⟩
theorem short_any (n:Nat)(w:World)(h:n<9223372036854775808):Ca 280 #[I n] w fun e w'=>∃ A c,e=.returned (.tuple #[.slice A (digL 9 n).length c,I 0])/\OB w' w.heap.size 5 A (digL 9 n).length c (digL 9 n)/\Below w.heap.size w w':=by
 have h1:¬ ((n:Nat):Int)<0:=aS;have hd:=fun w=>digits_i n w h
 go_enter Tryz.func280,Tryz.ntmps280;go_wp2_with (go_at_call 303;go_call (hd _) as e w1 ⟨A,c,rfl,hown,hb⟩);go_ret2;exact⟨A,c,rfl,hown,hb⟩
theorem u64_flip (x:Nat)(hx:x<18446744073709551616):bits .xor .u64 (x:Int) 18446744073709551615=((18446744073709551615 - x:Nat):Int):=by
 show IntKind.u64.wrap ((BitVec.ofInt 64 (x:Int) ^^^ BitVec.ofInt 64 18446744073709551615).toNat:Int)=_
 have h1:BitVec.ofInt 64 18446744073709551615=BitVec.allOnes 64:=by decide
 rw[h1,BitVec.xor_allOnes,BitVec.toNat_not,kN x hx,IntKind.wrap_u64];omega
theorem zig_bits (n:Int)(h0:-9223372036854775808<=n)(h1:n<=9223372036854775807) :
 bits .xor .u64 (IntKind.u64.wrap (IntKind.u64.wrap n * 2)) (IntKind.u64.wrap (n / 9223372036854775808))=((zz n:Nat):Int):=by
 by_cases h:0<=n
 · have e1:IntKind.u64.wrap (IntKind.u64.wrap n * 2)=(((2 * n).toNat:Nat):Int):=by simp only[IntKind.wrap_u64];omega
   have e2:IntKind.u64.wrap (n / 9223372036854775808)=((0:Nat):Int):=by simp only[IntKind.wrap_u64];omega
   rw[e1,e2,bits_xor_u64_nat _ _ aS aS,Nat.xor_zero];unfold zz;rw[if_pos h]
 · have e1:IntKind.u64.wrap (IntKind.u64.wrap n * 2)=(((2 * n+18446744073709551616).toNat:Nat):Int):=by simp only[IntKind.wrap_u64];omega
   have e2:IntKind.u64.wrap (n / 9223372036854775808)=18446744073709551615:=by simp only[IntKind.wrap_u64];omega
   rw[e1,e2,u64_flip _ aS];unfold zz;rw[if_neg h];omega
theorem zig_any (n:Int)(w:World)(h0:-9223372036854775808<=n)(h1:n<=9223372036854775807):Ca 229 #[I n] w fun e w'=>∃ A c,e=.returned (.slice A (digL 9 (zz n)).length c)/\OB w' w.heap.size 5 A (digL 9 (zz n)).length c (digL 9 (zz n))/\Below w.heap.size w w':=by
 have hd:=fun w=>digits_u (zz n) w (zz_lt h0 h1)
 have hz:=zig_bits n h0 h1;go_enter Tryz.func229,Tryz.ntmps229;go_wp2_with (go_at_call 281;go_call (hd _) as e w1 ⟨A,c,rfl,hown,hb⟩);go_ret;exact⟨A,c,rfl,hown,hb⟩
theorem ph (most k:Nat)(l:List UInt8)(h:k<l.length):cy most k (l.drop k) =
 if most<=k then (0,11) else if bx l k<128 then (if 0<k/\bx l k=0 then (0,11) else (k+1,0)) else cy most (k+1) (l.drop (k+1)):=by
 rw[aQ h];have e:l[k].toNat=bx l k:=by simp[bx,ah,h]
 conv=>lhs;unfold cy
 rw[e]
theorem endsL_nil (most k:Nat)(l:List UInt8)(h:l.length<=k):cy most k (l.drop k)=(0,if k<most then 10 else 11):=by
 rw[aP h];rfl
theorem sevL_snoc (l:List UInt8)(k:Nat)(h:k<l.length):sevL (l.take (k+1))=sevL (l.take k)+128 ^ k * (bx l k % 128):=by
 rw[mY l k h,sevL_append];have e:(l.take k).length=k:=by rw[aA];omega
 rw[e];simp[sevL,bx]
def kO (N:Nat)(z:Nat × Nat)(l:List UInt8):Nat:=if z.2=0 then sevL (l.take z.1) % N else 0
theorem read_u (A:Option Addr)(n c:Nat)(l:List UInt8)(w:World)(hl:RB w A n l)(hn:n<=maxLen) :
 Ca 286 #[.slice A n c,I 10] w fun e w'=>e=.returned (.tuple #[.int .u64 (kO 18446744073709551616 (cy 10 0 l) l:Nat),I ((cy 10 0 l).1:Nat),I ((cy 10 0 l).2:Nat)])/\w=w':=by
 unfold maxLen at hn;have hlen:=aT hl.1;generalize hz:cy 10 0 l=z at *;have Hz:=aT hz;clear hz;go_enter Tryz.func286,Tryz.ntmps286;go_wp2;go_loop [7,8,13] (fun vv oo ii=>∃ k v o,k<=n/\k<=10/\ii=I (k:Nat)/\vv=.int .u64 (v:Nat)/\oo=.int .u64 (o:Nat)/\Hid (cy 10 k (l.drop k)=z)/\Hid (k<10->o=128 ^ k/\v=sevL (l.take k))) (fun _ _ ii=>n - (intOf ii).toNat)
 case atStart=>exact⟨0,0,1,Nat.zero_le _,aS,rfl,rfl,rfl,Hz,fun _=>⟨rfl,rfl⟩⟩
 case round=>
  obtain⟨k,v,o,hk,hk10,rfl,rfl,rfl,hE,hV⟩:=hrel
  by_cases hlt:k<n
  · by_cases hmost:k<10
    · obtain⟨b,off,rfl,_,hc⟩:=hl.at_ hlt;have hcons:=aT (ph 10 k l (by rw[hlen.out];exact hlt));have hsnoc:=aT (sevL_snoc l k (by rw[hlen.out];exact hlt));have hb:=ij l k;obtain⟨ho,hv⟩:=hV.out hmost;have Ho:=aT ho;have Hv:=aT hv;clear ho hv;have hne:(((k:Nat):Int) == 10)=false:=by rw[af];omega
      have Hc:=aT (rfl:bx l k=bx l k);generalize hy:bx l k=y at *;clear hy Hc;have e1:IntKind.u64.wrap ((o:Int) * ((y:Int) % 128))=((o * (y % 128) % 18446744073709551616:Nat):Int):=by
       rw[IntKind.wrap_u64];simp only[Int.natCast_emod,Int.natCast_mul];rfl
      have e2:IntKind.u64.wrap ((v:Int)+((o * (y % 128) % 18446744073709551616:Nat):Int))=(((v+o * (y % 128)) % 18446744073709551616:Nat):Int):=by
       rw[IntKind.wrap_u64];omega
      have e3:IntKind.u64.wrap ((o:Int) * 128)=((o * 128 % 18446744073709551616:Nat):Int):=by
       rw[IntKind.wrap_u64];omega
      have hVn:Hid ((v+o * (y % 128)) % 18446744073709551616=sevL (l.take (k+1)) % 18446744073709551616):=by
       show _=_
       rw[hsnoc.out,<- Hv.out,<- Ho.out]
      generalize hg1:o * (y % 128) % 18446744073709551616=p1 at *;generalize hg2:(v+o * (y % 128)) % 18446744073709551616=p2 at *;generalize hg3:o * 128 % 18446744073709551616=p3 at *;have Hg2:=aT hg2;have Hg3:=aT hg3;clear hg1 hg2 hg3
      by_cases h128:128<=y
      · have hE2:Hid (cy 10 (k+1) (l.drop (k+1))=z):=by
         show _=_
         rw[<- hE.out,hcons.out,if_neg aS,if_neg aS]
        have hV2:Hid (k+1<10->p3=128 ^ (k+1)/\p2=sevL (l.take (k+1))):=by
         intro hk2;have h1:128 ^ (k+1)<=128 ^ 9:=Nat.pow_le_pow_right aS aS;have h2:=sevL_lt (l.take (k+1));have h3:128 ^ (l.take (k+1)).length<=128 ^ (k+1):=Nat.pow_le_pow_right aS (List.length_take_le _ _);constructor
         · rw[<- Hg3.out,Ho.out,<- Nat.pow_succ];omega
         · rw[hVn.out];omega
        clear hVn Hg2 Hg3 Ho Hv hcons hsnoc hE hV;go_wp2;go_round
        case rel=>exact⟨k+1,p2,p3,aS,by omega,by go_num,rfl,rfl,hE2,hV2⟩
        case measure=>simp[intOf];omega
      · by_cases hform:0<k/\y=0
        · have hz:Hid (z=(0,11)):=by
           show _=_
           rw[<- hE.out,hcons.out,if_neg aS,if_pos aS,if_pos hform]
          obtain⟨hk0,hy0⟩:=hform;subst hy0;clear hVn Hg2 Hg3 Ho Hv hcons hsnoc hE hV;go_wp2;go_ret3;rw[hz.out];exact⟨rfl,rfl⟩
        · have hz:Hid (z=(k+1,0)):=by
           show _=_
           rw[<- hE.out,hcons.out,if_neg aS,if_pos aS,if_neg hform]
          have hfin:Hid (Ending.returned (.tuple #[.int .u64 ((p2:Nat):Int),I ((k:Int)+1),I 0])=Ending.returned (.tuple #[.int .u64 (kO 18446744073709551616 z l:Nat),I (z.1:Nat),I (z.2:Nat)])):=by
           show _=_
           rw[hz.out];have e:kO 18446744073709551616 (k+1,0) l=p2:=hVn.out.symm;rw[e];rfl
          have hcase:(y=0/\k=0)\/0<y:=aS;clear hVn Hg2 Hg3 Ho Hv hcons hsnoc hE hV hz hform;rcases hcase with ⟨hy0,hk0⟩ | hy0
          · have hyb:(((y:Nat):Int) == 0)=true:=by rw[beq_iff_eq];omega
            have hkb:decide ((0:Int)<(k:Int))=false:=by rw[aE];omega
            have hk1:k<=0:=aS;clear hy0 hk0;go_wp2;go_ret3;exact⟨hfin.out,rfl⟩
          · have hyb:(((y:Nat):Int) == 0)=false:=by rw[af];omega
            go_wp2;go_ret3;exact⟨hfin.out,rfl⟩
    · have hk9:k=10:=aS;subst hk9;have hz:Hid (z=(0,11)):=by
       show _=_
       rw[<- hE.out,ph 10 10 l (by rw[hlen.out];exact hlt),if_pos aS]
      obtain⟨b,off,rfl,_,hc⟩:=hl.at_ hlt;clear hE hV;go_wp2;go_ret3;rw[hz.out];exact⟨rfl,rfl⟩
  · have hz:Hid (z=(0,if k<10 then 10 else 11)):=by
     show _=_
     rw[<- hE.out,endsL_nil 10 k l (by rw[hlen.out];omega)]
    have hkn:k=n:=aS;subst hkn;clear hE hV
    by_cases h9:k<10
    · rw[if_pos h9] at hz;go_wp2;go_ret3;rw[hz.out];exact⟨rfl,rfl⟩
    · rw[if_neg h9] at hz;go_wp2;go_ret3;rw[hz.out];exact⟨rfl,rfl⟩
def zagE (l:List UInt8):Nat:=if (cy 10 0 l).2≠0 then (cy 10 0 l).2 else if (cy 10 0 l).1=10/\1<bx l 9 then 11 else 0
def zagS (l:List UInt8):Nat:=if zagE l=0 then (cy 10 0 l).1 else 0
def zagV (l:List UInt8):Int:=if zagE l=0 then unzz (sevL (l.take (cy 10 0 l).1)) else 0
theorem zag_err (A:Option Addr)(n c:Nat)(l:List UInt8)(w:World)(hl:RB w A n l)(hn:n<=maxLen)(he:(cy 10 0 l).2≠0) :
 Ca 240 #[.slice A n c] w fun e w'=>e=.returned (.tuple #[I 0,I 0,I ((cy 10 0 l).2:Nat)])/\w=w':=by
 have hd:=fun w=>read_u A n c l w
 generalize kO 18446744073709551616 (cy 10 0 l) l=v at *;generalize cy 10 0 l=z at *;have h1:(((z.2:Nat):Int) != 0)=true:=by rw[ag];omega
 have h2:(((z.2:Nat):Int) == 0)=false:=by rw[af];omega
 clear he;go_enter Tryz.func240,Tryz.ntmps240;go_wp2_with (go_at_call 286;go_call (hd _ hl hn) as e w' ⟨rfl,rfl⟩);go_ret3;exact⟨rfl,rfl⟩
theorem zag_big (A:Option Addr)(n c:Nat)(l:List UInt8)(w:World)(hl:RB w A n l)(hn:n<=maxLen)(hz:cy 10 0 l=(10,0))(hb:1<bx l 9) :
 Ca 240 #[.slice A n c] w fun e w'=>e=.returned (.tuple #[I 0,I 0,I 11])/\w=w':=by
 have hd:=fun w=>read_u A n c l w
 rw[hz] at hd;have hle:=(jQ 10 l 0 (by rw[hz])).2.2;rw[hz] at hle;have hlen:=hl.1;have h10:10<=n:=by simp at hle;omega
 clear hz hle hlen;obtain⟨b,o,rfl,_,hc⟩:=hl.at_ (k:=9) aS;generalize kO 18446744073709551616 (10,0) l=v at *;generalize bx l 9=y at *;go_enter Tryz.func240,Tryz.ntmps240;go_wp2_with (go_at_call 286;go_call (hd _ hl hn) as e w' ⟨rfl,rfl⟩);go_ret3;exact⟨rfl,rfl⟩
theorem i64_flip (a:Nat)(ha:a<9223372036854775808):bits .xor .i64 (a:Int) (-1)=-(a:Int) - 1:=by
 show IntKind.i64.wrap ((BitVec.ofInt 64 (a:Int) ^^^ BitVec.ofInt 64 (-1)).toNat:Int)=_
 have h1:BitVec.ofInt 64 (-1)=BitVec.allOnes 64:=by decide
 rw[h1,BitVec.xor_allOnes,BitVec.toNat_not,kN a aS];simp[IntKind.wrap,IntKind.bits,IntKind.signed];omega
theorem i64_same (a:Nat)(ha:a<9223372036854775808):bits .xor .i64 (a:Int) 0=(a:Int):=by
 show IntKind.i64.wrap ((BitVec.ofInt 64 (a:Int) ^^^ BitVec.ofInt 64 ((0:Nat):Int)).toNat:Int)=_
 rw[BitVec.toNat_xor,kN a aS,kN 0 aS,Nat.xor_zero,IntKind.wrap_i64];omega
theorem zag_bits (v:Nat)(hv:v<18446744073709551616):bits .xor .i64 ((v:Int) / 2) (-((v:Int) % 2))=unzz v:=by
 unfold unzz;have e:(v:Int) / 2=((v / 2:Nat):Int):=aS
 by_cases h:v % 2=0
 · have e2:-((v:Int) % 2)=0:=aS;rw[if_pos h,e,e2,i64_same _ aS]
 · have e2:-((v:Int) % 2)=-1:=aS;rw[if_neg h,e,e2,i64_flip _ aS]
theorem zag_lt {s:Nat}{l:List UInt8}(hlen:l.length=n)(hz:cy 10 0 l=(s,0))(hb:s≠10\/bx l 9<=1):sevL (l.take s)<18446744073709551616:=by
 have hle:=jQ 10 l 0 (by rw[hz]);rw[hz] at hle;simp only[aD] at hle
 by_cases h10:s=10
 · subst h10;have hb1:bx l 9<=1:=aS;have h2:=sevL_lt (l.take 9);have h3:(l.take 9).length=9:=by rw[aA];omega
   rw[h3] at h2;rw[sevL_snoc l 9 aS];have:bx l 9 % 128<=1:=aS;have:=Nat.mul_le_mul_left (128 ^ 9) this;omega
 · have h2:=sevL_lt (l.take s);have h3:128 ^ (l.take s).length<=128 ^ 9:=Nat.pow_le_pow_right aS (by rw[aA];omega);omega
theorem zag_ok (A:Option Addr)(n c s:Nat)(l:List UInt8)(w:World)(hl:RB w A n l)(hn:n<=maxLen)(hz:cy 10 0 l=(s,0))(hb:s≠10\/bx l 9<=1) :
 Ca 240 #[.slice A n c] w fun e w'=>e=.returned (.tuple #[I (unzz (sevL (l.take s))),I s,I 0])/\w=w':=by
 have hd:=fun w=>read_u A n c l w
 have hle:=jQ 10 l 0 (by rw[hz]);rw[hz] at hd hle;simp only[aD] at hle;have hlen:=hl.1;have hv:=zag_lt hl.1 hz hb;have hrv:kO 18446744073709551616 (s,0) l=sevL (l.take s):=Nat.mod_eq_of_lt hv;rw[hrv] at hd;generalize sevL (l.take s)=v at *;clear hrv;have hand:=and_one_u64 (v:Int) aS aS;have hxor:=zag_bits v hv;generalize unzz v=r at *
 by_cases h10:s=10
 · have hb1:bx l 9<=1:=aS;have h9:10<=n:=aS;have hs:(((s:Nat):Int) == 10)=true:=by rw[beq_iff_eq];omega
   clear hz hle hlen hb h10;obtain⟨b,o,rfl,_,hc⟩:=hl.at_ (k:=9) aS;generalize bx l 9=y at *;go_enter Tryz.func240,Tryz.ntmps240;go_wp2_with (go_at_call 286;go_call (hd _ hl hn) as e w' ⟨rfl,rfl⟩);go_ret3;exact⟨rfl,rfl⟩
 · have hs:(((s:Nat):Int) == 10)=false:=by rw[af];omega
   clear hz hle hlen hb h10;go_enter Tryz.func240,Tryz.ntmps240;go_wp2_with (go_at_call 286;go_call (hd _ hl hn) as e w' ⟨rfl,rfl⟩);go_ret3;exact⟨rfl,rfl⟩
theorem digL_tab (f:Nat):∀ Z,Z<128 ^ (f+1)->digL f Z=tabB (digL f Z).length (fun i=>if i+1<(digL f Z).length then Z / 128 ^ i % 128+128 else Z / 128 ^ i % 128):=by
 induction f with
 | zero=>intro Z h;simp[digL,tabB,show Z % 128=Z from by omega]
 | succ f ih=>
   intro Z h
   by_cases hz:Z<128
   · have:digL (f+1) Z=[UInt8.ofNat Z]:=nz hz;rw[this];simp[tabB,show Z % 128=Z from by omega]
   · have hl:=(gN f (Z / 128)).2;have e:=ih (Z / 128) (by rw[Nat.pow_succ] at h;omega);have hd:digL (f+1) Z=UInt8.ofNat (Z % 128+128) :: digL f (Z / 128):=by
      conv=>lhs;unfold digL
      rw[if_neg hz]
     rw[hd];simp only[aF]
     conv=>lhs;rw[e]
     unfold tabB;rw[List.range_succ_eq_map,List.map_cons,List.map_map]
     congr 1
     · dsimp only;rw[if_pos aS];simp
     · apply List.map_congr_left;intro i _;simp only[Function.comp,Nat.succ_eq_add_one,Nat.add_lt_add_iff_right];rw[Nat.div_div_eq_div_mul,Nat.pow_succ,Nat.mul_comm 128]
theorem kP {v:Nat}(h:v<256):(UInt8.ofNat v).toNat=v:=UInt8.toNat_ofNat_of_lt' (by simp[UInt8.size];omega)
theorem endsL_dig (f:Nat):∀ (i most Z:Nat) (more:List UInt8),i+(digL f Z).length<=most->(0<i->0<Z)->Z<128 ^ (f+1)->cy most i (digL f Z ++ more)=(i+(digL f Z).length,0):=by
 induction f with
 | zero=>
   intro i most Z more h1 h2 h3;simp only[digL,aJ] at h1 ⊢;simp only[List.singleton_append,cy];rw[if_neg aS,kP aS,if_pos aS,if_neg aS]
 | succ f ih=>
   intro i most Z more h1 h2 h3
   by_cases hz:Z<128
   · have e:digL (f+1) Z=[UInt8.ofNat Z]:=by conv=>lhs;unfold digL
                                             rw[if_pos hz]
     rw[e] at h1 ⊢;simp only[aJ] at h1 ⊢;simp only[List.singleton_append,cy];rw[if_neg aS,kP aS,if_pos aS,if_neg aS]
   · have e:digL (f+1) Z=UInt8.ofNat (Z % 128+128) :: digL f (Z / 128):=by conv=>lhs;unfold digL
                                                                           rw[if_neg hz]
     rw[e] at h1 ⊢;simp only[aF] at h1 ⊢;have hp:Z / 128<128 ^ (f+1):=by rw[Nat.pow_succ] at h3;omega
     simp only[List.cons_append,cy];rw[if_neg aS,kP aS,if_neg aS,ih (i+1) most (Z / 128) more aS aS hp]
     congr 1;omega
theorem sevL_dig (f:Nat):∀ Z,Z<128 ^ (f+1)->sevL (digL f Z)=Z:=by
 induction f with
 | zero=>intro Z h;simp only[digL,sevL];rw[kP aS];omega
 | succ f ih=>
   intro Z h
   by_cases hz:Z<128
   · rw[nz hz];simp only[sevL];rw[kP aS];omega
   · have e:digL (f+1) Z=UInt8.ofNat (Z % 128+128) :: digL f (Z / 128):=by conv=>lhs;unfold digL
                                                                           rw[if_neg hz]
     rw[e];simp only[sevL];rw[kP aS,ih _ (by rw[Nat.pow_succ] at h;omega)];omega
theorem dig_sevL (most:Nat)(l:List UInt8):∀ (i k f:Nat),cy most i l=(i+k,0)->k<=f+1->digL f (sevL (l.take k))=l.take k/\(0<i->0<sevL (l.take k)):=by
 induction l with
 | nil=>intro i k f h hk;simp[cy] at h;have:=h.2;split at this <;> omega
 | cons c l ih=>
   intro i k f h hk;have hc:=c.toNat_lt;have hle:=jQ most (c :: l) i (by rw[h]);rw[h] at hle;simp only at hle;unfold cy at h
   by_cases h1:most<=i
   · simp[h1] at h
   · rw[if_neg h1] at h
     by_cases h2:c.toNat<128
     · rw[if_pos h2] at h
       by_cases h3:0<i/\c.toNat=0
       · rw[if_pos h3] at h;simp at h
       · rw[if_neg h3] at h;have hk1:k=1:=by have:=congrArg Prod.fst h;simp only at this;omega
         subst hk1;have e:sevL ((c :: l).take 1)=c.toNat:=by simp[sevL];omega
         rw[e,nz h2];refine⟨by simp,fun hi=>by omega⟩
     · rw[if_neg h2] at h;obtain⟨k,rfl⟩:∃ j,k=j+1:=⟨k - 1,aS⟩;have hle2:=jQ most l (i+1) (by rw[h]);rw[h] at hle2;simp only at hle2;obtain⟨f,rfl⟩:∃ j,f=j+1:=⟨f - 1,aS⟩;have h4:=ih (i+1) k f (by rw[h];congr 1;omega) aS;have h5:=h4.2 aS;have e:sevL ((c :: l).take (k+1))=c.toNat % 128+128 * sevL (l.take k):=by simp[sevL]
       rw[e];refine⟨?_,fun _=>by omega⟩;have e2:∀ Z,¬ Z<128->digL (f+1) Z=UInt8.ofNat (Z % 128+128) :: digL f (Z / 128):=fun Z hZ=>by
        conv=>lhs;unfold digL
        rw[if_neg hZ]
       rw[e2 _ aS,List.take_succ_cons,show (c.toNat % 128+128 * sevL (l.take k)) / 128=sevL (l.take k) from by omega,h4.1]
       congr 1
       rw[show (c.toNat % 128+128 * sevL (l.take k)) % 128+128=c.toNat from by omega];simp
theorem digL_ten (Z:Nat)(h:Z<18446744073709551616)(more:List UInt8):(digL 9 Z).length≠10\/bx (digL 9 Z ++ more) 9<=1:=by
 by_cases hl:(digL 9 Z).length=10
 · refine .inr ?_;have e:=digL_tab 9 Z aS;rw[hl] at e;have e2:bx (digL 9 Z ++ more) 9=bx (digL 9 Z) 9:=by
    unfold bx;rw[ah,ah,aR aS]
   rw[e2,e,tabB_at _ aS (by simp;omega)];simp;omega
 · exact .inl hl
