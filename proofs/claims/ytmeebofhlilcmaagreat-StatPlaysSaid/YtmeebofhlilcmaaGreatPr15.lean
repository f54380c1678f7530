/- Parts: DiskH, DiskJ, DiskI, DiskL, AreaA, AreaB. -/
import Derived.Test.YtmeebofhlilcmaaGreatPr14
set_option linter.unusedVariables false
set_option linter.unusedSimpArgs false
set_option maxRecDepth 100000
set_option maxHeartbeats 0
namespace Go.Proofs.YtmeebofhlilcmaaGreat
variable {t:TypeId} {w w':World} {base c base' d:Nat} {p:bB} {A:Option Addr} {D:aW} {x1 x2:Value}
open Go.RowKit
theorem pt {P:Program}{e:TypeId}{z:Value}{size bytes:Nat}(ht:P.underlying t=some (.slice e))(hi:(P.info? e).map (fun i=>(i.zero,i.size,i.bytes))=some (some z,size,bytes))(n:Nat)(hb:bytes * n<=281474976710656)(h63:n<=9223372036854775807)(W:World) :
 (Instr.makeSlice t (I (n:Int)) (I (n:Int))).run P W=.ok (.slice (some ⟨W.heap.size,0,none⟩) n n) (W.alloc (.cells (madeCells z.cells (n * size)) e)):=by
 obtain⟨i,h1,hz,hs,hby⟩:=info_parts hi;have h:(i.bytes:Int) * (n:Int)<=281474976710656:=by
  rw[hby];have:((bytes * n:Nat):Int)<=281474976710656:=aS
  rwa [Int.natCast_mul] at this
 have hr:=run_make (P:=P) W t e i z ht h1 hz .i64 .i64 n n aS aS h aS;simp only[ay,hs] at hr;exact hr
theorem made_rep (v:Value)(m N:Nat)(hm:0<m):(madeCells (List.replicate m v).toArray N).toList=List.replicate N v:=by
 unfold madeCells;apply List.ext_getElem
 · simp
 · intro i h1 h2;have hi:i % m<m:=Nat.mod_lt _ hm;simp[hi]
theorem infoRow:(Tryz.prog.info? 205).map (fun i=>(i.zero,i.size,i.bytes))=some (some (aggB br),128,128):=by kernel_rfl
theorem infoBool:(Tryz.prog.info? 4).map (fun i=>(i.zero,i.size,i.bytes))=some (some (.bool false),1,1):=by kernel_rfl
theorem zeros_rep:br.map bv=List.replicate 128 (bv 0):=by unfold br;rw[List.map_replicate]
theorem bx.drewD {g:Nat}{l:List Int}(h:bx w g l):bx w.drew g l:=h
def NwPost (w:World)(D:aW)(e:Ending)(w':World):Prop:=∃ p,e=.returned (.tuple #[.pointer (some ⟨p.d,0,none⟩),I 0])/\bC w' w.heap.size p none 0 D/\Below w.heap.size w w'
theorem new_no (s room:Int)(w:World)(h:s<1\/4096<s\/room<0\/s<room):Ca 28 #[I s,I room] w fun e w'=>e=.returned (.tuple #[.pointer none,I 2])/\w=w':=by
 have hc:s<1\/(1<=s/\4096<s)\/(1<=s/\s<=4096/\room<0)\/(1<=s/\s<=4096/\0<=room/\s<room):=aS;clear h;rcases hc with h1 | h1 | h1 | h1
 case' inr.inl=>have h2:=h1.1;have h3:=h1.2
 case' inr.inr.inl=>have h2:=h1.1;have h3:=h1.2.1;have h4:=h1.2.2
 case' inr.inr.inr=>have h2:=h1.1;have h3:=h1.2.1;have h4:=h1.2.2.1;have h5:=h1.2.2.2
 all_goals
  go_enter Tryz.func28,Tryz.ntmps28;go_wp2;go_ret2;exact⟨rfl,rfl⟩
theorem nw_end {w1 W:World}{s:Nat}{room:Int}{R F:List Value}(hm:bx w1 w.heap.size [0,0,0,0,0,0])(hb1:Below w.heap.size w w1)(sz1:w.heap.size<w1.heap.size)(hz1:w1.heap.size=w.heap.size+1)(hR:R=(List.replicate (s * 128) (0:UInt8)).map bv)(hF:F=(List.replicate s false).map il)
 (h0:1<=s) (h1:s<=4096) (r0:0<=room) (r1:room<=s) (gk gn gi gm:Nat) (n1:gk≠gn) (n2:gi≠gm) (nb:w.heap.size<=gk/\w.heap.size<=gn/\w.heap.size<=gi/\w.heap.size<=gm)
 (bd:Blk W w1.heap.size 198 [.slice (some ⟨gk,0,none⟩) s s,.slice (some ⟨gn,0,none⟩) s s,.slice (some ⟨gi,0,none⟩) s s,.slice (some ⟨gm,0,none⟩) s s,.slice none 0 0,I room,I (-1),.bool false,.pointer (some ⟨w.heap.size,0,none⟩)])
 (bk:Blk W gk 205 R) (bn:Blk W gn 205 R) (bi:Blk W gi 4 F) (bm:Blk W gm 4 F) (hbel:Below w.heap.size w W) (hm2:bx W w.heap.size [0,0,0,0,0,0]) :
 NwPost w (newV s room) (.returned (.tuple #[.pointer (some ⟨w1.heap.size,0,none⟩),I 0])) W:=by
 subst hR hF;refine⟨⟨w1.heap.size,gk,gn,gi,gm,w.heap.size⟩,rfl,⟨newV_ok h0 h1 r0 r1,bd,bk,bn,bi,bm,hm2,World.ownsRow_nil _ _ _ _,n1,n2,fun g hg=>?_⟩,hbel⟩;rcases hg with e | e | e | e | e | e | e
 · simp only at e;omega
 · simp only at e;omega
 · simp only at e;omega
 · simp only at e;omega
 · simp only at e;omega
 · simp only at e;omega
 · cases e
theorem new_ok (s:Nat)(room:Int)(w:World)(h0:1<=s)(h1:s<=4096)(r0:0<=room)(r1:room<=s) :
 Ca 28 #[I (s:Int),I room] w (NwPost w (newV s room)):=by
 have hm1:∀ W:World,(Instr.makeSlice 195 (I (s:Int)) (I (s:Int))).run Tryz.prog W=.ok (.slice (some ⟨W.heap.size,0,none⟩) s s) (W.alloc (.cells (List.replicate (s * 128) (bv 0)).toArray 205)):=fun W=>by
  have:=pt (P:=Tryz.prog) Tryz.underlying195 infoRow s aS aS W;rw[show (aggB br).cells=(List.replicate 128 (bv 0)).toArray from by unfold aggB;rw[zeros_rep];rfl] at this;have e:=made_rep (bv 0) 128 (s * 128) aS;rw[show madeCells (List.replicate 128 (bv 0)).toArray (s * 128)=(List.replicate (s * 128) (bv 0)).toArray from by rw[<- e]] at this;exact this
 have hm2:∀ W:World,(Instr.makeSlice 149 (I (s:Int)) (I (s:Int))).run Tryz.prog W=.ok (.slice (some ⟨W.heap.size,0,none⟩) s s) (W.alloc (.cells (List.replicate s (Value.bool false)).toArray 4)):=fun W=>by
  have:=pt (P:=Tryz.prog) Tryz.underlying149 infoBool s aS aS W;have e:=made_rep (Value.bool false) 1 (s * 1) aS;rw[show (Value.bool false).cells=(List.replicate 1 (Value.bool false)).toArray from rfl,show madeCells (List.replicate 1 (Value.bool false)).toArray (s * 1)=(List.replicate s (Value.bool false)).toArray from by rw[Nat.mul_one] at e ⊢;rw[<- e]] at this;exact this
 have hR:Hid (List.replicate (s * 128) (bv 0)=(List.replicate (s * 128) (0:UInt8)).map bv):=by show _=_;rw[List.map_replicate]
 have hF:Hid (List.replicate s (Value.bool false)=(List.replicate s false).map il):=by show _=_;rw[List.map_replicate];rfl
 have hb0:∀ k:Nat,Hid (List.replicate (s * 128) (bv 0)=List.replicate (s * 128) (bv 0)):=fun _=>rfl
 clear hb0;generalize List.replicate (s * 128) (bv 0)=R at *;generalize List.replicate s (Value.bool false)=F at *;have hs1:(1:Int)<=(s:Int):=aS;have hs2:(s:Int)<=4096:=aS;go_enter Tryz.func28,Tryz.ntmps28;go_wp2_with (first | ((go_at_call 117;go_call (newmeter_any _) as e w1 ⟨rfl,hm1',hb1,hsz1⟩);have HM:=aT hm1';have HZ1:=aT hsz1;have sz1:w.heap.size<w1.heap.size:=aS;clear hm1' hsz1) | fail);have HMo:=HM.out;refine wp_region_held_drew (S:=fun _=>True) bE trivial (fun hHeld=>?_);refine aV 0 ?_;refine aV 1 ?_;refine aV 2 ?_;refine aV 4 ?_;refine wpAnyH_ready (rs:=[3,5]) bO aZ ?_;refine AllReadyH.cons rfl (fun K hK=>?_) (AllReadyH.cons rfl (fun K hK=>?_) AllReadyH.nil);go_simp;refine hK.out _ _ (trivial) (fun hHeld=>?_);clear hK K;refine bu ?_;refine aV 6 ?_;refine aV 7 ?_;refine wpAnyH_ready (rs:=[5,8]) bO aZ ?_;refine AllReadyH.cons rfl (fun K hK=>?_) (AllReadyH.cons rfl (fun K hK=>?_) AllReadyH.nil);go_simp;refine hK.out _ _ (trivial) (fun hHeld=>?_);clear hK K;refine bu ?_;refine bI 8 (fun K hK=>?_);go_simp;refine hK.out _ _ (trivial) (fun hHeld=>?_);clear hK K;refine bu ?_;refine aV 9 ?_;refine aV 10 ?_;refine bI 11 (fun K hK=>?_);go_simp;refine hK.out _ _ (trivial) (fun hHeld=>?_);clear hK K;refine bu ?_;refine wpAnyH_done bO ?_ _;rotate_left 1;go_simp;refine hK.out _ _ (trivial) (fun hHeld=>?_);clear hK K;refine bu ?_;refine bI 5 (fun K hK=>?_);go_simp;refine hK.out _ _ (trivial) (fun hHeld=>?_);clear hK K;refine bu ?_;refine aV 9 ?_;refine aV 10 ?_;refine bI 11 (fun K hK=>?_);go_simp;refine hK.out _ _ (trivial) (fun hHeld=>?_);clear hK K;refine bu ?_;refine wpAnyH_done bO ?_ _;rotate_left 1;go_simp;refine hK.out _ _ (trivial) (fun hHeld=>?_);clear hK K;refine bu ?_;refine bI 3 (fun K hK=>?_);go_simp;refine hK.out _ _ (trivial) (fun hHeld=>?_);clear hK K;refine bu ?_;refine aV 6 ?_;refine aV 7 ?_;refine bI 8 (fun K hK=>?_);go_simp;refine hK.out _ _ (trivial) (fun hHeld=>?_);clear hK K;refine bu ?_;refine aV 9 ?_;refine aV 10 ?_;refine bI 11 (fun K hK=>?_);go_simp;refine hK.out _ _ (trivial) (fun hHeld=>?_);clear hK K;refine bu ?_;refine wpAnyH_done bO ?_ _
 all_goals
  go_wp2;refine wp_region_held_drew (S:=fun _=>True) bE trivial (fun hHeld=>?_);refine aV 0 ?_;refine aV 1 ?_;refine aV 2 ?_;refine aV 4 ?_;refine wpAnyH_ready (rs:=[3,5]) bO aZ ?_;refine AllReadyH.cons rfl (fun K hK=>?_) (AllReadyH.cons rfl (fun K hK=>?_) AllReadyH.nil);go_simp;refine hK.out _ _ (trivial) (fun hHeld=>?_);clear hK K;refine bu ?_;refine aV 6 ?_;refine aV 7 ?_;refine wpAnyH_ready (rs:=[5,8]) bO aZ ?_;refine AllReadyH.cons rfl (fun K hK=>?_) (AllReadyH.cons rfl (fun K hK=>?_) AllReadyH.nil);go_simp;refine hK.out _ _ (trivial) (fun hHeld=>?_);clear hK K;refine bu ?_;refine bI 8 (fun K hK=>?_);go_simp;refine hK.out _ _ (trivial) (fun hHeld=>?_);clear hK K;refine bu ?_;refine aV 9 ?_;refine aV 10 ?_;refine bI 11 (fun K hK=>?_);go_simp;refine hK.out _ _ (trivial) (fun hHeld=>?_);clear hK K;refine bu ?_;refine wpAnyH_done bO ?_ _;rotate_left 1;go_simp;refine hK.out _ _ (trivial) (fun hHeld=>?_);clear hK K;refine bu ?_;refine bI 5 (fun K hK=>?_);go_simp;refine hK.out _ _ (trivial) (fun hHeld=>?_);clear hK K;refine bu ?_;refine aV 9 ?_;refine aV 10 ?_;refine bI 11 (fun K hK=>?_);go_simp;refine hK.out _ _ (trivial) (fun hHeld=>?_);clear hK K;refine bu ?_;refine wpAnyH_done bO ?_ _;rotate_left 1;go_simp;refine hK.out _ _ (trivial) (fun hHeld=>?_);clear hK K;refine bu ?_;refine bI 3 (fun K hK=>?_);go_simp;refine hK.out _ _ (trivial) (fun hHeld=>?_);clear hK K;refine bu ?_;refine aV 6 ?_;refine aV 7 ?_;refine bI 8 (fun K hK=>?_);go_simp;refine hK.out _ _ (trivial) (fun hHeld=>?_);clear hK K;refine bu ?_;refine aV 9 ?_;refine aV 10 ?_;refine bI 11 (fun K hK=>?_);go_simp;refine hK.out _ _ (trivial) (fun hHeld=>?_);clear hK K;refine bu ?_;refine wpAnyH_done bO ?_ _
  all_goals
   go_wp2;go_ret2
   first
    | (refine nw_end HM.out hb1 sz1 HZ1.out hR.out hF.out h0 h1 r0 r1 (w1.heap.size+1) (w1.heap.size+1+1) (w1.heap.size+1+1+1) (w1.heap.size+1+1+1+1) aS aS aS ?_ ?_ ?_ ?_ ?_ ?_ ?_ <;> ((repeat' (first | (with_reducible assumption) | (with_reducible refine Blk.top _ (by first | rfl | omega | (simp;done) | (simp;omega)) rfl) | (with_reducible refine Blk.alloc ?_ _) | (with_reducible refine Blk.drew ?_) | (with_reducible refine bx.drewD ?_) | (with_reducible refine bx.alloc ?_ _) | (with_reducible exact Below.refl _ _) | (with_reducible refine Below.drew ?_) | (with_reducible refine Below.alloc ?_ ?_ _) | omega | (simp;done) | (simp;omega)));done))
    | (refine nw_end HM.out hb1 sz1 HZ1.out hR.out hF.out h0 h1 r0 r1 (w1.heap.size+1) (w1.heap.size+1+1) (w1.heap.size+1+1+1+1) (w1.heap.size+1+1+1) aS aS aS ?_ ?_ ?_ ?_ ?_ ?_ ?_ <;> ((repeat' (first | (with_reducible assumption) | (with_reducible refine Blk.top _ (by first | rfl | omega | (simp;done) | (simp;omega)) rfl) | (with_reducible refine Blk.alloc ?_ _) | (with_reducible refine Blk.drew ?_) | (with_reducible refine bx.drewD ?_) | (with_reducible refine bx.alloc ?_ _) | (with_reducible exact Below.refl _ _) | (with_reducible refine Below.drew ?_) | (with_reducible refine Below.alloc ?_ ?_ _) | omega | (simp;done) | (simp;omega)));done))
    | (refine nw_end HM.out hb1 sz1 HZ1.out hR.out hF.out h0 h1 r0 r1 (w1.heap.size+1+1) (w1.heap.size+1) (w1.heap.size+1+1+1) (w1.heap.size+1+1+1+1) aS aS aS ?_ ?_ ?_ ?_ ?_ ?_ ?_ <;> ((repeat' (first | (with_reducible assumption) | (with_reducible refine Blk.top _ (by first | rfl | omega | (simp;done) | (simp;omega)) rfl) | (with_reducible refine Blk.alloc ?_ _) | (with_reducible refine Blk.drew ?_) | (with_reducible refine bx.drewD ?_) | (with_reducible refine bx.alloc ?_ _) | (with_reducible exact Below.refl _ _) | (with_reducible refine Below.drew ?_) | (with_reducible refine Below.alloc ?_ ?_ _) | omega | (simp;done) | (simp;omega)));done))
    | (refine nw_end HM.out hb1 sz1 HZ1.out hR.out hF.out h0 h1 r0 r1 (w1.heap.size+1+1) (w1.heap.size+1) (w1.heap.size+1+1+1+1) (w1.heap.size+1+1+1) aS aS aS ?_ ?_ ?_ ?_ ?_ ?_ ?_ <;> ((repeat' (first | (with_reducible assumption) | (with_reducible refine Blk.top _ (by first | rfl | omega | (simp;done) | (simp;omega)) rfl) | (with_reducible refine Blk.alloc ?_ _) | (with_reducible refine Blk.drew ?_) | (with_reducible refine bx.drewD ?_) | (with_reducible refine bx.alloc ?_ _) | (with_reducible exact Below.refl _ _) | (with_reducible refine Below.drew ?_) | (with_reducible refine Below.alloc ?_ ?_ _) | omega | (simp;done) | (simp;omega)));done))
    | fail
theorem bC.belowK (h:bC w base p A c D)(k:Keep (foot p A) w w')(hb:base<=w.heap.size):Below base w w':=k.below h.bs hb
section
variable {w:World} {base:Nat} {p:bB} {A:Option Addr} {c:Nat} {D:aW}
theorem nA {P:Program}{e:TypeId}{n:Nat}(hu:P.underlying t=some (.array n e))(hs:(P.info? e).map (·.size)=some 1)(g o:Nat)(W:World) :
 (Instr.sliceAt t (.pointer (some ⟨g,o,none⟩)) none none none).run P W=.ok (.slice (some ⟨g,o,none⟩) n n) W:=by
 have e1:P.arrayLen t=n:=by unfold Program.arrayLen;rw[hu]
 have e2:P.elem t=e:=by unfold Program.elem;rw[hu]
 cases hq:P.info? e with
 | none=>simp[hq] at hs
 | some i=>
   have hsz:i.size=1:=by simpa [hq] using hs
   rw[run_sliceAt_array_all W t ⟨g,o,none⟩ (by rw[e1,e2];exact hu),e2,e1];have hso:(sizeOf e).run P W=.ok 1 W:=by simp[sizeOf,typeInfo,hq,hsz]
   have hadd:(⟨g,o,none⟩:Addr).add 0=⟨g,o,none⟩:=by simp[Addr.add]
   rw[hso];simp[slicedAt,hadd]
end
section
variable {w w':World} {base:Nat} {p:bB} {A:Option Addr} {c:Nat} {D:aW}
theorem bC.foot_ty (h:bC w base p A c D){g:Nat}{cs:List Value}(hb:Blk w g t cs)(hg:foot p A g):t=198\/t=205\/t=4\/t=300\/t=207:=by
 have ty:∀ {t':TypeId} {cs':List Value},Blk w g t' cs'->t=t':=fun h'=>by
  unfold Blk at hb h';rw[hb] at h';injection h' with h';injection h' with _ ht
 rcases hg with rfl | rfl | rfl | rfl | rfl | rfl | hg
 · exact .inl (ty h.st)
 · exact .inr (.inl (ty h.bk))
 · exact .inr (.inl (ty h.bn))
 · exact .inr (.inr (.inl (ty h.bi)))
 · exact .inr (.inr (.inl (ty h.bm)))
 · exact .inr (.inr (.inr (.inl (ty h.mt.2))))
 · rcases h.wa.2 with ⟨hv,_⟩ | ⟨g',cap,cur,hv,_,hh,_⟩
   · injection hv with hv;subst hv;cases hg
   · injection hv with hv;subst hv;simp only[Option.map_some,Option.some.injEq] at hg;subst hg;exact .inr (.inr (.inr (.inr (ty (cs':=cur.toList) (by unfold Blk;rw[hh])))))
end
def bc (w:World)(base:Nat)(p:bB)(D:aW):Prop:=∃ A c,bC w base p A c D
theorem eA.s (h:eA w base p A D w'):bc w' base p D:=by
 obtain⟨A',c',h,_⟩:=h;exact⟨A',c',h⟩
theorem bC.rebase (h:bC w base p A c D)(hb:base'<=base):bC w base' p A c D :=
 ⟨h.ok,h.st,h.bk,h.bn,h.bi,h.bm,h.mt,(h.waS.rebase hb).2,h.ne1,h.ne2,fun g hg=>ae hb (h.bs g hg)⟩
theorem bC.s (h:bC w base p A c D):bc w base p D:=⟨A,c,h⟩
theorem bc.below (h:bc w base p D)(hb:Below w.heap.size w w'):bc w' base p D:=by
 obtain⟨A,c,h⟩:=h;exact⟨A,c,h.below hb⟩
theorem bc.rebase (h:bc w base p D)(hb:base'<=base):bc w base' p D:=by
 obtain⟨A,c,h⟩:=h;exact⟨A,c,h.rebase hb⟩
def bD (w:World)(ga d f m:Nat):Prop:=Blk w ga 289 [.pointer (some ⟨d,0,none⟩),I (f:Int),I (m:Int)]
def eW (D:aW)(n:Int):aW × List UInt8 × Int:=if mayV D n≠0 then (D,br,mayV D n) else (cw D,bT D.now n,0)
theorem nD (h:D.Ok)(n:Int):(eW D n).2.1.length=128:=by
 unfold eW
 split
 · exact dJ
 · rename_i hm;obtain⟨_,h0,h1⟩:=kO (D:=D) (n:=n) aS;exact ig h.now h0 h1
section
variable {w w':World} {base ga f m:Nat} {p:bB} {A:Option Addr} {c:Nat} {D:aW}
theorem bD.below (h:bD w ga d f m)(hb:Below w.heap.size w w'):bD w' ga d f m:=Blk.below h hb h.lt
theorem bD.keep {F:Nat->Prop}(h:bD w ga d f m)(k:Keep F w w')(hF:¬ F ga):bD w' ga d f m:=Blk.keep h k hF
theorem bD.notFoot (h:bD w ga d f m)(hd:bC w base p A c D):¬ foot p A ga:=fun e=>by
 rcases hd.foot_ty h e with q | q | q | q | q <;> exact absurd q aU
theorem bD.spares (h:bD w ga d f m)(hd:bC w base p A c D)(k:Keep (foot p A) w w'):bD w' ga d f m:=h.keep k (h.notFoot hd)
theorem dread_any (h:bC w base p A c D)(n:Int):Ca 236 #[.pointer (some ⟨p.d,0,none⟩),I n] w fun e w'=>
 e=.returned (.tuple #[aggB (eW D n).2.1,I (eW D n).2.2])/\bC w' base p A c (eW D n).1/\Keep (foot p A) w w':=by
 unfold eW
 by_cases hn:mayV D n=0
 · rw[if_neg aS];exact read_yes h n hn
 · rw[if_pos hn];exact (read_no h n hn).mono fun e w' ⟨h1,h2⟩=>⟨h1,h.below h2,Keep.of_below h2⟩
theorem im (h:bD w ga d f m):Ca 113 #[.pointer (some ⟨ga,0,none⟩)] w fun e w'=>e=.returned (I (m:Nat))/\w=w':=by
 have c2:=h.c2;clear h;go_enter Tryz.func113,Tryz.ntmps113;go_wp2;go_ret;exact⟨rfl,rfl⟩
/-! 'at' within the area: what the closure does at the disk's sector. -/
theorem at_read {R:Int->World->Prop}(h:bD w ga d f m)(n:Int)(h0:0<=n)(h1:n<m)(hfm:f+m<=4096)
 (hF:Ca 235 #[I ((f:Int)+n),x1,x2] w (fun e w'=>∃ z,e=.returned (I z)/\R z w')) :
 Ca 234 #[.pointer (some ⟨ga,0,none⟩),I n,.func (.func 235) #[] #[x1,x2]] w fun e w'=>∃ z,e=.returned (I z)/\R z w':=by
 have c0:=h.c0;have c1:=h.c1;have c2:=h.c2;clear h;go_enter Tryz.func234,Tryz.ntmps234;go_wp2_with (first | ((go_at_call 235;go_call (hF) as e w2 ⟨z,rfl,hR⟩)) | fail);go_ret;exact⟨z,rfl,hR⟩
theorem at_write {R:Int->World->Prop}(h:bD w ga d f m)(n:Int)(h0:0<=n)(h1:n<m)(hfm:f+m<=4096)
 (hF:Ca 257 #[I ((f:Int)+n),x1,x2] w (fun e w'=>∃ z,e=.returned (I z)/\R z w')) :
 Ca 234 #[.pointer (some ⟨ga,0,none⟩),I n,.func (.func 257) #[] #[x1,x2]] w fun e w'=>∃ z,e=.returned (I z)/\R z w':=by
 have c0:=h.c0;have c1:=h.c1;have c2:=h.c2;clear h;go_enter Tryz.func234,Tryz.ntmps234;go_wp2_with (first | ((go_at_call 257;go_call (hF) as e w2 ⟨z,rfl,hR⟩)) | fail);go_ret;exact⟨z,rfl,hR⟩
theorem at_out {k:Nat}{caps:Array Value}(h:bD w ga d f m)(n:Int)(hn:n<0\/(m:Int)<=n) :
 Ca 234 #[.pointer (some ⟨ga,0,none⟩),I n,.func (.func k) #[] caps] w fun e w'=>e=.returned (I 51)/\w=w':=by
 have c0:=h.c0;have c2:=h.c2;clear h;have hc:n<0\/(0<=n/\(m:Int)<=n):=aS;clear hn;rcases hc with h1 | ⟨h1,h2⟩
 all_goals
  go_enter Tryz.func234,Tryz.ntmps234;go_wp2;go_ret;exact⟨rfl,rfl⟩
end
def bN (D:aW)(f m:Nat)(n:Int):aW × List UInt8 × Int:=if n<0\/(m:Int)<=n then (D,br,51) else eW D ((f:Int)+n)
def bJ (D:aW)(f m:Nat)(n:Int)(b:List UInt8):aW × Int:=if n<0\/(m:Int)<=n then (D,51) else eD D ((f:Int)+n) b
section
variable {w w':World} {base ga f m:Nat} {p:bB} {A:Option Addr} {c:Nat} {D:aW}
theorem aReadV_len (h:D.Ok)(n:Int):(bN D f m n).2.1.length=128:=by
 unfold bN
 split
 · exact dJ
 · exact nD h _
theorem read1_any {g2 g6:Nat}(h:bC w base p A c D)(ha:bD w ga p.d f m)(hbox:Blk w g2 188 [.pointer (some ⟨ga,0,none⟩)]){Z:List UInt8}(hx:BlkB w g6 205 Z)(hZ:Z.length=128)(hnf:¬ foot p A g6)(n:Int) :
 Ca 235 #[I n,.pointer (some ⟨g2,0,none⟩),.pointer (some ⟨g6,0,none⟩)] w fun e w'=>∃ z,e=.returned (I z) /\
  (z=(eW D n).2.2/\bC w' base p A c (eW D n).1/\BlkB w' g6 205 (eW D n).2.1/\Keep (fun g=>foot p A g\/g=g6) w w'):=by
 have Hi:=aT (zero_of_info dm).2;have hl:=nD h.ok n;have hrd:=dread_any h n;generalize eW D n=R at *;obtain⟨D',S,z⟩:=R;simp only at hl hrd ⊢;have c0:=hbox.c0;have c1:=ha.c0;have hsl:Hid ((S.map bv).length=128):=by show _=_;rw[ax,hl]
 have hsm:=aT (ew (l:=S));have hzl:Hid ((Z.map bv).length=128):=by show _=_;rw[ax,hZ]
 have HX:=aT hx;have H:=aT h;unfold aggB at hrd;unfold BlkB at HX ⊢;generalize S.map bv=SV at *;clear h ha hbox hx hl hZ;go_enter Tryz.func235,Tryz.ntmps235;go_wp2_with (first | ((go_at_call 236;go_call (hrd) as e w1 ⟨rfl,h1,k1⟩);have hx1:=HX.out.keep k1 hnf;have H1:=aT h1;clear h1) | (refine ev rfl (x:=.tmp 2) (y:=.tmp 12) rfl rfl rfl hx1 Hi.out hsl.out (by rw[hzl.out];omega) hsm.out ?_;intro w2 hb2 hg2 hs2;rw[dR _ _ (hzl.out.trans hsl.out.symm)] at hb2) | fail);go_ret;exact⟨z,rfl,rfl,H1.out.keep (F:=(·=g6)) (Keep.one hg2) (fun g hg e=>hnf (e ▸ hg)),hb2,(k1.mono (fun g _ hg=>.inl hg)).trans (G:=(·=g6)) (Keep.one hg2) (fun g _ e=>.inr e)⟩
theorem aread_any (h:bC w base p A c D)(ha:bD w ga p.d f m)(hfm:f+m<=D.many)(n:Int) :
 Ca 162 #[.pointer (some ⟨ga,0,none⟩),I n] w fun e w'=>e=.returned (.tuple #[aggB (bN D f m n).2.1,I (bN D f m n).2.2])/\bC w' base p A c (bN D f m n).1/\Keep (foot p A) w w':=by
 have hz:=(zero_of_info dm).1;have Hi:=aT (zero_of_info dm).2;have hlz:Hid ((br.map bv).length=128):=by show _=_;simp[dJ]
 have HZm:=aT (ew (l:=br));have hfm4:f+m<=4096:=by have:=h.ok.many1;omega
 have hl4:=aT (fun g hg=>h.lt g hg);have H:=aT h;have HA:=aT ha;unfold bN
 by_cases hn:n<0\/(m:Int)<=n
 · rw[if_pos hn];simp only;have hout:=fun o1 o2 o3=>at_out (k:=235) (caps:=#[.pointer (some ⟨w.heap.size,0,none⟩),.pointer (some ⟨w.heap.size+2,0,none⟩)]) (((ha.below ((Below.refl _ _).alloc aX o1)).below ((Below.refl _ _).alloc aX o2)).below ((Below.refl _ _).alloc aX o3)) n hn
   unfold aggB at *;generalize br.map bv=Z at *;clear h ha hn;go_enter Tryz.func162,Tryz.ntmps162;go_wp2_with (first | (go_at_call 234;go_call (hout _ _ _) as e w1 ⟨rfl,rfl⟩) | (refine ff rfl (x:=.tmp 6) rfl rfl (t:=205) (cs:=Z) bH Tryz.underlying205 Hi.out hlz.out (xs:=Z) (by rw[aI,au gd]) ?_) | (refine ev rfl (x:=.tmp 4) (y:=.tmp 12) rfl rfl rfl (t:=205) (cs:=Z) (xs:=Z) bH Hi.out hlz.out gd HZm.out ?_;intro w2 hb2 hg2 hs2;rw[dR _ _ rfl] at hb2) | fail);refine bodyPost_ret (v:=.tuple #[.agg Z.toArray,I 51]) (js Tryz.results162 _ rfl rfl hb2 Tryz.underlying205 Hi.out hlz.out) rfl ?_;have hb:=eu ((((Below.refl w.heap.size w).alloc aX _).alloc bq _).alloc bq _) hg2 bq bq;exact⟨rfl,H.out.below hb,Keep.of_below hb⟩
 · rw[if_neg hn];have hin:=fun W (q1:bC W base p A c D) q2 g2 g6 q3 q4 q5=>at_read (w:=W) (ga:=ga) (d:=p.d) (f:=f) (m:=m) (x1:=.pointer (some ⟨g2,0,none⟩)) (x2:=.pointer (some ⟨g6,0,none⟩)) (R:=fun z w'=>z=(eW D ((f:Int)+n)).2.2/\bC w' base p A c (eW D ((f:Int)+n)).1/\BlkB w' g6 205 (eW D ((f:Int)+n)).2.1/\Keep (fun g=>foot p A g\/g=g6) W w') q2 n aS aS hfm4 (read1_any (g2:=g2) (g6:=g6) q1 q2 q3 (Z:=br) q4 dJ q5 ((f:Int)+n))
   have hl:=nD h.ok ((f:Int)+n);generalize eW D ((f:Int)+n)=RR at *;obtain⟨D',S,z⟩:=RR;simp only at hl hin ⊢;have hsl:Hid ((S.map bv).length=128):=by show _=_;rw[ax,hl]
   have hsm:=aT (ew (l:=S));unfold aggB BlkB at *;generalize S.map bv=SV at *;generalize br.map bv=Z at *;clear h ha hn hl;go_enter Tryz.func162,Tryz.ntmps162;go_wp2_with (first | ((go_at_call 234;go_call (hin _ (((H.out.alloc _).alloc _).alloc _) (((HA.out.below ((Below.refl _ _).alloc aX _)).below ((Below.refl _ _).alloc aX _)).below ((Below.refl _ _).alloc aX _)) w.heap.size (w.heap.size+2) bH bH (fun e=>by have:=hl4.out _ e;omega)) as e w1 ⟨z9,rfl,hz9,h1,hx1,k1⟩);subst hz9;have hr1:=Blk.keep (g:=w.heap.size+1) (t:=205) (cs:=Z) bH k1 (fun e=>by rcases e with e | e;have:=hl4.out _ e;omega;omega);have H1:=aT h1;clear h1) | (refine ff rfl (x:=.tmp 6) rfl rfl hx1 Tryz.underlying205 Hi.out hsl.out (xs:=SV) fP ?_) | (refine ev rfl (x:=.tmp 4) (y:=.tmp 12) rfl rfl rfl hr1 Hi.out hsl.out gd hsm.out ?_;intro w2 hb2 hg2 hs2;rw[dR _ _ (hlz.out.trans hsl.out.symm)] at hb2) | fail);refine bodyPost_ret (v:=.tuple #[.agg SV.toArray,I z9]) (js Tryz.results162 _ rfl rfl hb2 Tryz.underlying205 Hi.out hsl.out) rfl ?_;refine⟨rfl,H1.out.keep (F:=(·=w.heap.size+1)) (Keep.one hg2) (fun g hg e=>by have:=hl4.out _ hg;omega),?_⟩;have k2:Keep (fun g=>foot p A g\/g=w.heap.size+2\/g=w.heap.size+1) w w2:=((((((Keep.refl _ w).alloc _).alloc _).alloc _).trans k1 (fun g _ e=>by rcases e with e | e;exact .inl e;exact .inr (.inl e))).trans (G:=(·=w.heap.size+1)) (Keep.one hg2) (fun g _ e=>.inr (.inr e)));exact k2.mono (fun g hg e=>by rcases e with e | e | e;exact e;omega;omega)
theorem write1_any {g3 g5:Nat}(h:bC w base p A c D)(ha:bD w ga p.d f m)(hbox:Blk w g3 188 [.pointer (some ⟨ga,0,none⟩)]){S:List UInt8}(hx:BlkB w g5 205 S)(hS:S.length=128)(hnf:¬ foot p A g5)(n:Int)(hw:D.waits.length<1000000)(hbase:base<=w.heap.size) :
 Ca 257 #[I n,.pointer (some ⟨g3,0,none⟩),.pointer (some ⟨g5,0,none⟩)] w fun e w'=>∃ z,e=.returned (I z)/\(z=(eD D n S).2/\eA w base p A (eD D n S).1 w'):=by
 have Hi:=aT (zero_of_info dm).2;have hwr:=fun w' (hb:Below w.heap.size w w')=>write_any (h.below hb) n S hS hw j8
 have c0:=hbox.c0;have c1:=ha.c0;have hsl:Hid ((S.map bv).length=128):=by show _=_;rw[ax,hS]
 have hxr:=Blk.range (o:=0) (n:=128) (xs:=S.map bv) hx fP;generalize (eD D n S).1=D' at *;generalize (eD D n S).2=z at *;unfold aggB at hwr;unfold BlkB at hx;generalize S.map bv=SV at *;have hnx:∀ w1 w2,Below w.heap.size w w1->eA w1 base p A D' w2->eA w base p A D' w2:=fun w1 w2 hb ⟨A',c',h1,k,n⟩=>⟨A',c',h1,(Keep.of_below hb).trans k (fun _ _ e=>e),fun g e=>by rcases n g e with q | q;exact .inl q;exact .inr j8⟩
 have HX:=aT hx;have HB:=aT hbox;have HA:=aT ha;have H:=aT h;clear h ha hbox hx hS;go_enter Tryz.func257,Tryz.ntmps257;go_wp2;refine wp_region_held_drew (S:=fun w'=>w'.cell? ⟨g3,0,none⟩=some (.pointer (some ⟨ga,0,none⟩))/\w'.cell? ⟨ga,0,none⟩=some (.pointer (some ⟨p.d,0,none⟩))/\w'.rangeAt g5 0 SV) bE ⟨c0,c1,hxr⟩ (fun hHeld=>?_);refine aV 0 ?_ (hy:=Or.inl ⟨by rfl,eC⟩);refine aV 1 ?_;refine aV 2 ?_;refine aV 3 ?_ (hy:=Or.inl ⟨by rfl,eC⟩);refine aV 4 ?_;refine wpAnyH_take (i:=5) (v:=_) rfl bO bO bO (fun _ _ _ h=>h) (yieldsIf_load_mid (by rfl) _ _ rfl _ _ rfl SV _ (fun _ h=>h.2.2) Tryz.underlying205 rfl (by rw[hsl.out];exact Hi.out)) gH ?_;refine bu ?_;refine bI 6 (fun K hK=>?_);go_simp
 (go_at_call 258;go_call (hwr _ ba) as e w1 ⟨rfl,hN⟩)
 have hN2:=hnx _ _ ba hN;have kk:=(show Keep (foot p A) w w1 from (by obtain⟨_,_,_,k,_⟩:=hN2;exact k));have HB1:=HB.out.keep kk (fun e=>by rcases H.out.foot_ty HB.out e with q | q | q | q | q <;> exact absurd q aU);have HA1:=HA.out.spares H.out kk;have HX1:=HX.out.keep kk hnf;have d0:=HB1.c0;have d1:=HA1.c0;have d2:=Blk.range (o:=0) (n:=128) (xs:=SV) HX1 fP;have HN2:=aT hN2;clear hN2 hN HB1 HA1 HX1;refine hK.out _ _ (⟨d0,d1,d2⟩) (fun hHeld=>?_);clear hK K;refine bu ?_;refine aV 7 ?_;refine wpAnyH_done bO ?_ _;go_wp2;go_ret;exact⟨z,rfl,rfl,hnx _ _ (Below.refl _ _) HN2.out⟩
theorem nE (h:bC w base p A c D)(ha:bD w ga p.d f m)(hfm:f+m<=D.many)(n:Int)(S:List UInt8)(hS:S.length=128)(hw:D.waits.length<1000000)(hbase:base<=w.heap.size) :
 Ca 200 #[.pointer (some ⟨ga,0,none⟩),I n,aggB S] w fun e w'=>e=.returned (I (bJ D f m n S).2)/\eA w base p A (bJ D f m n S).1 w':=by
 have hfm4:f+m<=4096:=by have:=h.ok.many1;omega
 have Hi:=aT (zero_of_info dm).2;have hl4:=aT (fun g hg=>h.lt g hg);have hsl:Hid ((S.map bv).length=128):=by show _=_;rw[ax,hS]
 have hnx:∀ D' w1 w2,Below w.heap.size w w1->eA w1 base p A D' w2->eA w base p A D' w2:=fun D' w1 w2 hb ⟨A',c',h1,k,n⟩=>⟨A',c',h1,(Keep.of_below hb).trans k (fun _ _ e=>e),fun g e=>by rcases n g e with q | q;exact .inl q;exact .inr j8⟩
 have H:=aT h;have HA:=aT ha;unfold bJ
 by_cases hn:n<0\/(m:Int)<=n
 · rw[if_pos hn];simp only;have hout:=fun o1 o2=>at_out (k:=257) (caps:=#[.pointer (some ⟨w.heap.size,0,none⟩),.pointer (some ⟨w.heap.size+1,0,none⟩)]) ((ha.below ((Below.refl _ _).alloc aX o1)).below ((Below.refl _ _).alloc aX o2)) n hn
   unfold aggB at *;generalize S.map bv=SV at *;clear h ha hn;go_enter Tryz.func200,Tryz.ntmps200;go_wp2_with (first | (go_at_call 234;go_call (hout _ _) as e w1 ⟨rfl,rfl⟩) | fail);go_ret;exact⟨rfl,hnx _ _ _ ba (eA.same ((H.out.alloc _).alloc _) (Below.refl _ _))⟩
 · rw[if_neg hn];have hin:=fun W (q1:bC W base p A c D) q2 g2 g6 q3 q4 q5 q6=>at_write (w:=W) (ga:=ga) (d:=p.d) (f:=f) (m:=m) (x1:=.pointer (some ⟨g2,0,none⟩)) (x2:=.pointer (some ⟨g6,0,none⟩)) (R:=fun z w'=>z=(eD D ((f:Int)+n) S).2/\eA W base p A (eD D ((f:Int)+n) S).1 w') q2 n aS aS hfm4 (write1_any (g3:=g2) (g5:=g6) q1 q2 q3 (S:=S) q4 hS q5 ((f:Int)+n) hw q6)
   generalize eD D ((f:Int)+n) S=RR at *;obtain⟨D',z⟩:=RR;simp only at hin ⊢;unfold aggB BlkB at *;generalize S.map bv=SV at *;clear h ha hn;go_enter Tryz.func200,Tryz.ntmps200;go_wp2_with (first | ((go_at_call 234;go_call (hin _ ((H.out.alloc _).alloc _) ((HA.out.below ((Below.refl _ _).alloc aX _)).below ((Below.refl _ _).alloc aX _)) w.heap.size (w.heap.size+1) bH bH (fun e=>by have:=hl4.out _ e;omega) bq) as e w1 ⟨z9,rfl,hz9,hN⟩)) | fail);go_ret;subst hz9;exact⟨rfl,hnx _ _ _ ba hN⟩
end
end Go.Proofs.YtmeebofhlilcmaaGreat
