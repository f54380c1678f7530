/- Parts. -/
import Derived.Test.YtmeebofhlilcmaaGreatPr12
set_option linter.unusedVariables false
set_option linter.unusedSimpArgs false
set_option maxRecDepth 100000
set_option maxHeartbeats 0
namespace Go.Proofs.YtmeebofhlilcmaaGreat
variable {t:TypeId} {w w':World} {base d:Nat} {p:bJ} {A:Option Addr} {D:aY} {x1 x2:Value}
open Go.RowKit
theorem pj {P:Program}{e:TypeId}{z:Value}{size bytes:Nat}(ht:P.underlying t=some (.slice e))(hi:(P.info? e).map (fun i=>(i.zero,i.size,i.bytes))=some (some z,size,bytes))(n:Nat)(hb:bytes * n<=281474976710656)(h63:n<=9223372036854775807)(W:World) :
 (Instr.makeSlice t (I (n:Int)) (I (n:Int))).run P W=.ok (.slice (some ⟨W.heap.size,0,none⟩) n n) (W.alloc (.cells (madeCells z.cells (n * size)) e)):=by
 obtain⟨i,h1,hz,hs,hby⟩:=info_parts hi;have h:(i.bytes:Int) * (n:Int)<=281474976710656:=by
  rw[hby];have:((bytes * n:Nat):Int)<=281474976710656:=aS
  rwa [Int.natCast_mul] at this
 have hr:=run_make (P:=P) W t e i z ht h1 hz .i64 .i64 n n aS aS h aS;simp only[av,hs] at hr;exact hr
theorem made_rep (v:Value)(m N:Nat)(hm:0<m):(madeCells (List.replicate m v).toArray N).toList=List.replicate N v:=by
 unfold madeCells;apply List.ext_getElem
 · simp
 · intro i h1 h2;have hi:i % m<m:=Nat.mod_lt _ hm;simp[hi]
theorem infoRow:(Tryz.prog.info? 205).map (fun i=>(i.zero,i.size,i.bytes))=some (some (aggB bw),128,128):=by kernel_rfl
theorem infoBool:(Tryz.prog.info? 4).map (fun i=>(i.zero,i.size,i.bytes))=some (some (.bool false),1,1):=by kernel_rfl
theorem zeros_rep:bw.map bv=List.replicate 128 (bv 0):=by unfold bw;rw[List.map_replicate]
theorem ee.drewD {g:Nat}{l:List Int}(h:ee w g l):ee w.drew g l:=h
def NwPost (w:World)(D:aY)(e:Ending)(w':World):Prop:=∃ p,e=.returned (.tuple #[.pointer (some ⟨p.d,0,none⟩),I 0])/\bH w' w.heap.size p none 0 D/\Below w.heap.size w w'
theorem nw_end {w1 W:World}{s:Nat}{room:Int}{R F:List Value}(hm:ee w1 w.heap.size [0,0,0,0,0,0])(hb1:Below w.heap.size w w1)(sz1:w.heap.size<w1.heap.size)(hz1:w1.heap.size=w.heap.size+1)(hR:R=(List.replicate (s * 128) (0:UInt8)).map bv)(hF:F=(List.replicate s false).map it)
 (h0:1<=s) (h1:s<=4096) (r0:0<=room) (r1:room<=s) (gk gn gi gm:Nat) (n1:gk≠gn) (n2:gi≠gm) (nb:w.heap.size<=gk/\w.heap.size<=gn/\w.heap.size<=gi/\w.heap.size<=gm)
 (bd:Blk W w1.heap.size 198 [.slice (some ⟨gk,0,none⟩) s s,.slice (some ⟨gn,0,none⟩) s s,.slice (some ⟨gi,0,none⟩) s s,.slice (some ⟨gm,0,none⟩) s s,.slice none 0 0,I room,I (-1),.bool false,.pointer (some ⟨w.heap.size,0,none⟩)])
 (bk:Blk W gk 205 R) (bn:Blk W gn 205 R) (bi:Blk W gi 4 F) (bm:Blk W gm 4 F) (hbel:Below w.heap.size w W) (hm2:ee W w.heap.size [0,0,0,0,0,0]) :
 NwPost w (newV s room) (.returned (.tuple #[.pointer (some ⟨w1.heap.size,0,none⟩),I 0])) W:=by
 subst hR hF;refine⟨⟨w1.heap.size,gk,gn,gi,gm,w.heap.size⟩,rfl,⟨newV_ok h0 h1 r0 r1,bd,bk,bn,bi,bm,hm2,World.ownsRow_nil _ _ _ _,n1,n2,fun g hg=>?_⟩,hbel⟩;rcases hg with e | e | e | e | e | e | e
 · simp only at e;omega
 · simp only at e;omega
 · simp only at e;omega
 · simp only at e;omega
 · simp only at e;omega
 · simp only at e;omega
 · cases e
theorem new_ok (s:Nat)(room:Int)(w:World)(h0:1<=s)(h1:s<=4096)(r0:0<=room)(r1:room<=s) :
 Ca 28 #[I (s:Int),I room] w (NwPost w (newV s room)):=by
 have hm1:∀ W:World,(Instr.makeSlice 195 (I (s:Int)) (I (s:Int))).run Tryz.prog W=.ok (.slice (some ⟨W.heap.size,0,none⟩) s s) (W.alloc (.cells (List.replicate (s * 128) (bv 0)).toArray 205)):=fun W=>by
  have:=pj (P:=Tryz.prog) Tryz.underlying195 infoRow s aS aS W;rw[show (aggB bw).cells=(List.replicate 128 (bv 0)).toArray from by unfold aggB;rw[zeros_rep];rfl] at this;have e:=made_rep (bv 0) 128 (s * 128) aS;rw[show madeCells (List.replicate 128 (bv 0)).toArray (s * 128)=(List.replicate (s * 128) (bv 0)).toArray from by rw[<- e]] at this;exact this
 have hm2:∀ W:World,(Instr.makeSlice 149 (I (s:Int)) (I (s:Int))).run Tryz.prog W=.ok (.slice (some ⟨W.heap.size,0,none⟩) s s) (W.alloc (.cells (List.replicate s (Value.bool false)).toArray 4)):=fun W=>by
  have:=pj (P:=Tryz.prog) Tryz.underlying149 infoBool s aS aS W;have e:=made_rep (Value.bool false) 1 (s * 1) aS;rw[show (Value.bool false).cells=(List.replicate 1 (Value.bool false)).toArray from rfl,show madeCells (List.replicate 1 (Value.bool false)).toArray (s * 1)=(List.replicate s (Value.bool false)).toArray from by rw[Nat.mul_one] at e ⊢;rw[<- e]] at this;exact this
 have hR:Hid (List.replicate (s * 128) (bv 0)=(List.replicate (s * 128) (0:UInt8)).map bv):=by show _=_;rw[List.map_replicate]
 have hF:Hid (List.replicate s (Value.bool false)=(List.replicate s false).map it):=by show _=_;rw[List.map_replicate];rfl
 have hb0:∀ k:Nat,Hid (List.replicate (s * 128) (bv 0)=List.replicate (s * 128) (bv 0)):=fun _=>rfl
 clear hb0;generalize List.replicate (s * 128) (bv 0)=R at *;generalize List.replicate s (Value.bool false)=F at *;have hs1:(1:Int)<=(s:Int):=aS;have hs2:(s:Int)<=4096:=aS;go_enter Tryz.func28,Tryz.ntmps28;go_wp2_with (first | ((go_at_call 117;go_call (newmeter_any _) as e w1 ⟨rfl,hm1',hb1,hsz1⟩);have HM:=aT hm1';have HZ1:=aT hsz1;have sz1:w.heap.size<w1.heap.size:=aS;clear hm1' hsz1) | fail);have HMo:=HM.out;refine wp_region_held_drew (S:=fun _=>True) bQ trivial (fun hHeld=>?_);refine aW 0 ?_;refine aW 1 ?_;refine aW 2 ?_;refine aW 4 ?_;refine wpAnyH_ready (rs:=[3,5]) bV bj ?_;refine AllReadyH.cons rfl (fun K hK=>?_) (AllReadyH.cons rfl (fun K hK=>?_) AllReadyH.nil);go_simp;refine hK.out _ _ (trivial) (fun hHeld=>?_);clear hK K;refine bK ?_;refine aW 6 ?_;refine aW 7 ?_;refine wpAnyH_ready (rs:=[5,8]) bV bj ?_;refine AllReadyH.cons rfl (fun K hK=>?_) (AllReadyH.cons rfl (fun K hK=>?_) AllReadyH.nil);go_simp;refine hK.out _ _ (trivial) (fun hHeld=>?_);clear hK K;refine bK ?_;refine bS 8 (fun K hK=>?_);go_simp;refine hK.out _ _ (trivial) (fun hHeld=>?_);clear hK K;refine bK ?_;refine aW 9 ?_;refine aW 10 ?_;refine bS 11 (fun K hK=>?_);go_simp;refine hK.out _ _ (trivial) (fun hHeld=>?_);clear hK K;refine bK ?_;refine wpAnyH_done bV ?_ _;rotate_left 1;go_simp;refine hK.out _ _ (trivial) (fun hHeld=>?_);clear hK K;refine bK ?_;refine bS 5 (fun K hK=>?_);go_simp;refine hK.out _ _ (trivial) (fun hHeld=>?_);clear hK K;refine bK ?_;refine aW 9 ?_;refine aW 10 ?_;refine bS 11 (fun K hK=>?_);go_simp;refine hK.out _ _ (trivial) (fun hHeld=>?_);clear hK K;refine bK ?_;refine wpAnyH_done bV ?_ _;rotate_left 1;go_simp;refine hK.out _ _ (trivial) (fun hHeld=>?_);clear hK K;refine bK ?_;refine bS 3 (fun K hK=>?_);go_simp;refine hK.out _ _ (trivial) (fun hHeld=>?_);clear hK K;refine bK ?_;refine aW 6 ?_;refine aW 7 ?_;refine bS 8 (fun K hK=>?_);go_simp;refine hK.out _ _ (trivial) (fun hHeld=>?_);clear hK K;refine bK ?_;refine aW 9 ?_;refine aW 10 ?_;refine bS 11 (fun K hK=>?_);go_simp;refine hK.out _ _ (trivial) (fun hHeld=>?_);clear hK K;refine bK ?_;refine wpAnyH_done bV ?_ _
 all_goals
  go_wp2;refine wp_region_held_drew (S:=fun _=>True) bQ trivial (fun hHeld=>?_);refine aW 0 ?_;refine aW 1 ?_;refine aW 2 ?_;refine aW 4 ?_;refine wpAnyH_ready (rs:=[3,5]) bV bj ?_;refine AllReadyH.cons rfl (fun K hK=>?_) (AllReadyH.cons rfl (fun K hK=>?_) AllReadyH.nil);go_simp;refine hK.out _ _ (trivial) (fun hHeld=>?_);clear hK K;refine bK ?_;refine aW 6 ?_;refine aW 7 ?_;refine wpAnyH_ready (rs:=[5,8]) bV bj ?_;refine AllReadyH.cons rfl (fun K hK=>?_) (AllReadyH.cons rfl (fun K hK=>?_) AllReadyH.nil);go_simp;refine hK.out _ _ (trivial) (fun hHeld=>?_);clear hK K;refine bK ?_;refine bS 8 (fun K hK=>?_);go_simp;refine hK.out _ _ (trivial) (fun hHeld=>?_);clear hK K;refine bK ?_;refine aW 9 ?_;refine aW 10 ?_;refine bS 11 (fun K hK=>?_);go_simp;refine hK.out _ _ (trivial) (fun hHeld=>?_);clear hK K;refine bK ?_;refine wpAnyH_done bV ?_ _;rotate_left 1;go_simp;refine hK.out _ _ (trivial) (fun hHeld=>?_);clear hK K;refine bK ?_;refine bS 5 (fun K hK=>?_);go_simp;refine hK.out _ _ (trivial) (fun hHeld=>?_);clear hK K;refine bK ?_;refine aW 9 ?_;refine aW 10 ?_;refine bS 11 (fun K hK=>?_);go_simp;refine hK.out _ _ (trivial) (fun hHeld=>?_);clear hK K;refine bK ?_;refine wpAnyH_done bV ?_ _;rotate_left 1;go_simp;refine hK.out _ _ (trivial) (fun hHeld=>?_);clear hK K;refine bK ?_;refine bS 3 (fun K hK=>?_);go_simp;refine hK.out _ _ (trivial) (fun hHeld=>?_);clear hK K;refine bK ?_;refine aW 6 ?_;refine aW 7 ?_;refine bS 8 (fun K hK=>?_);go_simp;refine hK.out _ _ (trivial) (fun hHeld=>?_);clear hK K;refine bK ?_;refine aW 9 ?_;refine aW 10 ?_;refine bS 11 (fun K hK=>?_);go_simp;refine hK.out _ _ (trivial) (fun hHeld=>?_);clear hK K;refine bK ?_;refine wpAnyH_done bV ?_ _
  all_goals
   go_wp2;go_ret2
   first
    | (refine nw_end HM.out hb1 sz1 HZ1.out hR.out hF.out h0 h1 r0 r1 (w1.heap.size+1) (w1.heap.size+1+1) (w1.heap.size+1+1+1) (w1.heap.size+1+1+1+1) aS aS aS ?_ ?_ ?_ ?_ ?_ ?_ ?_ <;> ((repeat' (first | (with_reducible assumption) | (with_reducible refine Blk.top _ lJ rfl) | (with_reducible refine Blk.alloc ?_ _) | (with_reducible refine Blk.drew ?_) | (with_reducible refine ee.drewD ?_) | (with_reducible refine ee.alloc ?_ _) | (with_reducible exact Below.refl _ _) | (with_reducible refine Below.drew ?_) | (with_reducible refine Below.alloc ?_ ?_ _) | omega | (simp;done) | (simp;omega)));done))
    | (refine nw_end HM.out hb1 sz1 HZ1.out hR.out hF.out h0 h1 r0 r1 (w1.heap.size+1) (w1.heap.size+1+1) (w1.heap.size+1+1+1+1) (w1.heap.size+1+1+1) aS aS aS ?_ ?_ ?_ ?_ ?_ ?_ ?_ <;> ((repeat' (first | (with_reducible assumption) | (with_reducible refine Blk.top _ lJ rfl) | (with_reducible refine Blk.alloc ?_ _) | (with_reducible refine Blk.drew ?_) | (with_reducible refine ee.drewD ?_) | (with_reducible refine ee.alloc ?_ _) | (with_reducible exact Below.refl _ _) | (with_reducible refine Below.drew ?_) | (with_reducible refine Below.alloc ?_ ?_ _) | omega | (simp;done) | (simp;omega)));done))
    | (refine nw_end HM.out hb1 sz1 HZ1.out hR.out hF.out h0 h1 r0 r1 (w1.heap.size+1+1) (w1.heap.size+1) (w1.heap.size+1+1+1) (w1.heap.size+1+1+1+1) aS aS aS ?_ ?_ ?_ ?_ ?_ ?_ ?_ <;> ((repeat' (first | (with_reducible assumption) | (with_reducible refine Blk.top _ lJ rfl) | (with_reducible refine Blk.alloc ?_ _) | (with_reducible refine Blk.drew ?_) | (with_reducible refine ee.drewD ?_) | (with_reducible refine ee.alloc ?_ _) | (with_reducible exact Below.refl _ _) | (with_reducible refine Below.drew ?_) | (with_reducible refine Below.alloc ?_ ?_ _) | omega | (simp;done) | (simp;omega)));done))
    | (refine nw_end HM.out hb1 sz1 HZ1.out hR.out hF.out h0 h1 r0 r1 (w1.heap.size+1+1) (w1.heap.size+1) (w1.heap.size+1+1+1+1) (w1.heap.size+1+1+1) aS aS aS ?_ ?_ ?_ ?_ ?_ ?_ ?_ <;> ((repeat' (first | (with_reducible assumption) | (with_reducible refine Blk.top _ lJ rfl) | (with_reducible refine Blk.alloc ?_ _) | (with_reducible refine Blk.drew ?_) | (with_reducible refine ee.drewD ?_) | (with_reducible refine ee.alloc ?_ _) | (with_reducible exact Below.refl _ _) | (with_reducible refine Below.drew ?_) | (with_reducible refine Below.alloc ?_ ?_ _) | omega | (simp;done) | (simp;omega)));done))
    | fail
theorem bH.belowK {c:Nat}(h:bH w base p A c D)(k:Keep (foot p A) w w')(hb:base<=w.heap.size):Below base w w':=k.below h.bs hb
section
variable {w:World} {base:Nat} {p:bJ} {A:Option Addr} {c:Nat} {D:aY}
theorem nE {P:Program}{e:TypeId}{n:Nat}(hu:P.underlying t=some (.array n e))(hs:(P.info? e).map (·.size)=some 1)(g o:Nat)(W:World) :
 (Instr.sliceAt t (.pointer (some ⟨g,o,none⟩)) none none none).run P W=.ok (.slice (some ⟨g,o,none⟩) n n) W:=by
 have e1:P.arrayLen t=n:=by unfold Program.arrayLen;rw[hu]
 have e2:P.elem t=e:=by unfold Program.elem;rw[hu]
 cases hq:P.info? e with
 | none=>simp[hq] at hs
 | some i=>
   have hsz:i.size=1:=by simpa [hq] using hs
   rw[run_sliceAt_array_all W t ⟨g,o,none⟩ (by rw[e1,e2];exact hu),e2,e1];have hso:(sizeOf e).run P W=.ok 1 W:=by simp[sizeOf,typeInfo,hq,hsz]
   have hadd:(⟨g,o,none⟩:Addr).add 0=⟨g,o,none⟩:=by simp[Addr.add]
   rw[hso];simp[slicedAt,hadd]
end
section
variable {w w':World} {base:Nat} {p:bJ} {A:Option Addr} {c:Nat} {D:aY}
theorem bH.foot_ty (h:bH w base p A c D){g:Nat}{cs:List Value}(hb:Blk w g t cs)(hg:foot p A g):t=198\/t=205\/t=4\/t=300\/t=207:=by
 have ty:∀ {t':TypeId} {cs':List Value},Blk w g t' cs'->t=t':=fun h'=>by
  unfold Blk at hb h';rw[hb] at h';injection h' with h';injection h' with _ ht
 rcases hg with rfl | rfl | rfl | rfl | rfl | rfl | hg
 · exact .inl (ty h.st)
 · exact .inr (.inl (ty h.bk))
 · exact .inr (.inl (ty h.bn))
 · exact .inr (.inr (.inl (ty h.bi)))
 · exact .inr (.inr (.inl (ty h.bm)))
 · exact .inr (.inr (.inr (.inl (ty h.mt.2))))
 · rcases h.wa.2 with ⟨hv,_⟩ | ⟨g',cap,cur,hv,_,hh,_⟩
   · injection hv with hv;subst hv;cases hg
   · injection hv with hv;subst hv;simp only[Option.map_some,Option.some.injEq] at hg;subst hg;exact .inr (.inr (.inr (.inr (ty (cs':=cur.toList) (by unfold Blk;rw[hh])))))
end
def br (w:World)(base:Nat)(p:bJ)(D:aY):Prop:=∃ A c,bH w base p A c D
theorem eB.s (h:eB w base p A D w'):br w' base p D:=by
 obtain⟨A',c',h,_⟩:=h;exact⟨A',c',h⟩
theorem bH.s {c:Nat}(h:bH w base p A c D):br w base p D:=⟨A,c,h⟩
theorem br.below (h:br w base p D)(hb:Below w.heap.size w w'):br w' base p D:=by
 obtain⟨A,c,h⟩:=h;exact⟨A,c,h.below hb⟩
def bE (w:World)(ga d f m:Nat):Prop:=Blk w ga 289 [.pointer (some ⟨d,0,none⟩),I (f:Int),I (m:Int)]
def eX (D:aY)(n:Int):aY × List UInt8 × Int:=if mayV D n≠0 then (D,bw,mayV D n) else (ef D,cj D.now n,0)
theorem nF (h:D.Ok)(n:Int):(eX D n).2.1.length=128:=by
 unfold eX
 split
 · exact dQ
 · rename_i hm;obtain⟨_,h0,h1⟩:=kU (D:=D) (n:=n) aS;exact ir h.now h0 h1
section
variable {w w':World} {base ga f m:Nat} {p:bJ} {A:Option Addr} {c:Nat} {D:aY}
theorem bE.below (h:bE w ga d f m)(hb:Below w.heap.size w w'):bE w' ga d f m:=Blk.below h hb h.lt
theorem bE.keep {F:Nat->Prop}(h:bE w ga d f m)(k:Keep F w w')(hF:¬ F ga):bE w' ga d f m:=Blk.keep h k hF
theorem bE.notFoot (h:bE w ga d f m)(hd:bH w base p A c D):¬ foot p A ga:=fun e=>by
 rcases hd.foot_ty h e with q | q | q | q | q <;> exact absurd q aU
theorem bE.spares (h:bE w ga d f m)(hd:bH w base p A c D)(k:Keep (foot p A) w w'):bE w' ga d f m:=h.keep k (h.notFoot hd)
theorem dread_any (h:bH w base p A c D)(n:Int):Ca 236 #[.pointer (some ⟨p.d,0,none⟩),I n] w fun e w'=>
 e=.returned (.tuple #[aggB (eX D n).2.1,I (eX D n).2.2])/\bH w' base p A c (eX D n).1/\Keep (foot p A) w w':=by
 unfold eX
 by_cases hn:mayV D n=0
 · rw[if_neg aS];exact read_yes h n hn
 · rw[if_pos hn];exact (read_no h n hn).mono fun e w' ⟨h1,h2⟩=>⟨h1,h.below h2,Keep.of_below h2⟩
theorem iu (h:bE w ga d f m):Ca 113 #[.pointer (some ⟨ga,0,none⟩)] w fun e w'=>e=.returned (I (m:Nat))/\w=w':=by
 have c2:=h.c2;clear h;go_enter Tryz.func113,Tryz.ntmps113;go_wp2;go_ret;exact⟨rfl,rfl⟩
/-! 'at' within the area: what the closure does at the disk's sector. -/
theorem at_read {R:Int->World->Prop}(h:bE w ga d f m)(n:Int)(h0:0<=n)(h1:n<m)(hfm:f+m<=4096)
 (hF:Ca 235 #[I ((f:Int)+n),x1,x2] w (fun e w'=>∃ z,e=.returned (I z)/\R z w')) :
 Ca 234 #[.pointer (some ⟨ga,0,none⟩),I n,.func (.func 235) #[] #[x1,x2]] w fun e w'=>∃ z,e=.returned (I z)/\R z w':=by
 have c0:=h.c0;have c1:=h.c1;have c2:=h.c2;clear h;go_enter Tryz.func234,Tryz.ntmps234;go_wp2_with (first | ((go_at_call 235;go_call (hF) as e w2 ⟨z,rfl,hR⟩)) | fail);go_ret;exact⟨z,rfl,hR⟩
theorem at_write {R:Int->World->Prop}(h:bE w ga d f m)(n:Int)(h0:0<=n)(h1:n<m)(hfm:f+m<=4096)
 (hF:Ca 257 #[I ((f:Int)+n),x1,x2] w (fun e w'=>∃ z,e=.returned (I z)/\R z w')) :
 Ca 234 #[.pointer (some ⟨ga,0,none⟩),I n,.func (.func 257) #[] #[x1,x2]] w fun e w'=>∃ z,e=.returned (I z)/\R z w':=by
 have c0:=h.c0;have c1:=h.c1;have c2:=h.c2;clear h;go_enter Tryz.func234,Tryz.ntmps234;go_wp2_with (first | ((go_at_call 257;go_call (hF) as e w2 ⟨z,rfl,hR⟩)) | fail);go_ret;exact⟨z,rfl,hR⟩
theorem at_out {k:Nat}{caps:Array Value}(h:bE w ga d f m)(n:Int)(hn:n<0\/(m:Int)<=n) :
 Ca 234 #[.pointer (some ⟨ga,0,none⟩),I n,.func (.func k) #[] caps] w fun e w'=>e=.returned (I 51)/\w=w':=by
 have c0:=h.c0;have c2:=h.c2;clear h;have hc:n<0\/(0<=n/\(m:Int)<=n):=aS;clear hn;rcases hc with h1 | ⟨h1,h2⟩
 all_goals
  go_enter Tryz.func234,Tryz.ntmps234;go_wp2;go_ret;exact⟨rfl,rfl⟩
end
