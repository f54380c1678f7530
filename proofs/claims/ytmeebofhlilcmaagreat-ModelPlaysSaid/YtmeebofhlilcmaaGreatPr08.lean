/- Parts. -/
import Derived.Test.YtmeebofhlilcmaaGreatPr07
set_option linter.unusedVariables false
set_option linter.unusedSimpArgs false
set_option maxRecDepth 100000
set_option maxHeartbeats 0
namespace Go.Proofs.YtmeebofhlilcmaaGreat
variable {g off n:Nat} {w w':World} {t ty:TypeId} {P:Program} {cs xs:List Value}
open Go.RowKit
section
variable {w:World} {base:Nat} {p:bE} {A:Option Addr} {c:Nat} {D:aX}
theorem lC (p:Nat × List UInt8)(h:p.2.length=128):(ez p).length=129:=by simp[ez,h]
theorem elemPiece:dQ Tryz.prog 196 207 (.agg (ez (0,bw)).toArray) 129 136:=dQ.mk' Tryz.underlying196 bM (by simp[Value.cells,ez,dI]) aU
theorem RdS.of_cells {α:Type}{size:Nat}{enc:α->List Value}{cs:Array Value}{fr:Nat × Nat}(hg:w.heap[g]?=some (.cells cs t fr)){l:List α}(hl:(l.flatMap enc).length=l.length * size)(h:cs.toList=l.flatMap enc):RdS size enc w (some ⟨g,0,none⟩) l.length l :=
 ⟨rfl,hl,Row.of_block hg 0 fun i hi=>by
  rw[aD,<- Array.getElem?_toList,h,ah,ap (by rw[hl];exact hi)];rfl⟩
theorem nS (x:Nat × List UInt8):∀ u ∈ ez x,u.oneCell'=true:=by
 intro u hu;simp only[ez,List.mem_cons] at hu;rcases hu with rfl | hu
 · rfl
 · exact ew u hu
theorem bC.waS (h:bC w base p A c D):OwS 129 ez w base 207 A D.waits.length c D.waits:=⟨rfl,h.wa⟩
def eA (w:World)(base:Nat)(p:bE)(A:Option Addr)(D':aX)(w':World):Prop :=
 ∃ A' c',bC w' base p A' c' D'/\Keep (foot p A) w w'/\(∀ g,A'.map (·.block)=some g->A.map (·.block)=some g\/w.heap.size<=g)
def cutE (D:aX):Int:=if D.cut=0 then 50 else 0
def WrPost (w:World)(base:Nat)(p:bE)(A:Option Addr)(D:aX)(n:Int)(b:List UInt8)(e:Ending)(w':World):Prop:=e=.returned (I (cutE D))/\eA w base p A (ey (putD D n b) 2) w'
theorem WrPost.mk {n:Int}{b:List UInt8}{z:Int}{A':Option Addr}{c':Nat}(hz:cutE D=z)(h:bC w' base p A' c' (ey (putD D n b) 2))(k:Keep (foot p A) w w')(hn:∀ g,A'.map (·.block)=some g->A.map (·.block)=some g\/w.heap.size<=g):WrPost w base p A D n b (.returned (I z)) w' :=
 ⟨by rw[hz],A',c',h,k,hn⟩
theorem okWaits {D:aX}(h:D.Ok){x:Nat × List UInt8}(hx:x.1<D.many/\x.2.length=128)(hw:D.waits.length<1000000):({ D with waits:=D.waits ++ [x] }:aX).Ok :=
 ⟨h.many0,h.many1,h.kept,h.now,h.inuse,h.might,fun p hp=>(by
  rcases List.mem_append.1 hp with q | q
  · exact h.waits p q
  · obtain rfl:p=x:=by simpa using q
    exact hx),h.room,h.cut,cR⟩
theorem bC.turnWaits {w5:World}{A5:Option Addr}{c5:Nat}{x:Nat × List UInt8}(h:bC w base p A c D)(k:Keep (fun g=>A.map (·.block)=some g) w w5)(ho:OwS 129 ez w5 base 207 A5 (D.waits.length+1) c5 (D.waits ++ [x]))(hx:x.1<D.many/\x.2.length=128)(hw:D.waits.length<1000000) :
 bC (w5.setCell ⟨p.d,4,none⟩ (.slice A5 (D.waits.length+1) c5)) base p A5 c5 { D with waits:=D.waits ++ [x] }:=by
 have hA:∀ g,A.map (·.block)=some g->(Value.slice A D.waits.length c).ownBlock=some g:=fun g e=>by cases A with | none=>cases e | some a=>simpa [Value.ownBlock] using e
 have hne:∀ {g:Nat} {t:TypeId} {cs:List Value},Blk w g t cs->207≠t->¬ A.map (·.block)=some g:=fun hg hne e=>jy h.wa hg hne (hA _ e)
 have hst5:=h.st.keep k (hne h.st aU);have k2:Keep (fun g=>A.map (·.block)=some g\/g=p.d) w (w5.setCell ⟨p.d,4,none⟩ (.slice A5 (D.waits.length+1) c5)):=(k.mono (fun _ _ e=>.inl e)).set_ _ (.inr rfl);have n:∀ {g:Nat} {t:TypeId} {cs:List Value},Blk w g t cs->207≠t->198≠t->¬ (A.map (·.block)=some g\/g=p.d):=fun hg h1 h2 e=>by
  rcases e with e | e
  · exact hne hg h1 e
  · exact (h.st.ne_ hg h2) e.symm
 refine⟨okWaits h.ok hx hw,?_,h.bk.keep k2 (n h.bk aU aU),h.bn.keep k2 (n h.bn aU aU),h.bi.keep k2 (n h.bi aU aU),h.bm.keep k2 (n h.bm aU aU),⟨h.mt.1,h.mt.2.keep k2 (n h.mt.2 aU aU)⟩,?_,h.ne1,h.ne2,fun g hg=>?_⟩
 · have:=hst5.set_ 4 (.slice A5 (D.waits.length+1) c5);unfold dcells at this ⊢;simpa using this
 · have e:(D.waits ++ [x]).length=D.waits.length+1:=by simp
   show World.ownsRow _ base 207 129 (.slice A5 (D.waits ++ [x]).length c5) (D.waits ++ [x]).length (jZ (D.waits ++ [x]))
   rw[e];exact (OwS.setFar ho hst5 aU 4 _).2
 · rcases hg with e | e | e | e | e | e | e
   · exact h.bs g (.inl e)
   · exact h.bs g (.inr (.inl e))
   · exact h.bs g (.inr (.inr (.inl e)))
   · exact h.bs g (.inr (.inr (.inr (.inl e))))
   · exact h.bs g (.inr (.inr (.inr (.inr (.inl e)))))
   · exact h.bs g (.inr (.inr (.inr (.inr (.inr (.inl e))))))
   · exact (ho.2.lt g (by cases A5 with | none=>cases e | some a=>simpa [Value.ownBlock] using e)).1
theorem fold_set (S:List Value):∀ (j:Nat) (arr:Array Value),1+j+S.length<=arr.size->List.foldl (fun cs (x:Value × Nat)=>cs.setIfInBounds (1+x.2) x.1) arr (S.zipIdx j)=(splice arr.toList (1+j) S).toArray:=by
 induction S with
 | nil=>intro j arr h;simp[splice]
 | cons s S ih=>
   intro j arr h;rw[List.zipIdx_cons,List.foldl_cons,ih (j+1) _ (by simp at h ⊢;omega),Array.toList_setIfInBounds,show 1+(j+1)=1+j+1 by omega,m0 _ _ _ _ (by simp at h ⊢;omega)]
theorem build_piece (S:List Value)(v:Value)(hS:S.length=128):List.foldl (fun cs (x:Value × Nat)=>cs.setIfInBounds (1+x.2) x.1) (Tryz.zeroCells207.setIfInBounds 0 v) S.zipIdx=(v :: S).toArray:=by
 have hz:Tryz.zeroCells207.size=129:=by kernel_rfl
 rw[fold_set S 0 _ (by simp[hz,hS])];have e:∀ (a:Array Value),a.size=129->splice (a.setIfInBounds 0 v).toList (1+0) S=v :: S:=fun a ha=>by
  obtain⟨l⟩:=a;simp at ha
  cases l with
  | nil=>simp at ha
  | cons x l=>
    simp only[splice,Array.toList_setIfInBounds,List.set_cons_zero,Nat.add_zero,List.take_succ_cons,List.take_zero,List.singleton_append,hS];rw[aP (by simp;simp at ha;omega),List.append_nil]
 rw[e _ hz]
theorem fold_all (S:List Value):∀ (j:Nat) (arr:Array Value),j+S.length<=arr.size->List.foldl (fun cs (x:Value × Nat)=>cs.setIfInBounds x.2 x.1) arr (S.zipIdx j)=(splice arr.toList j S).toArray:=by
 induction S with
 | nil=>intro j arr h;simp[splice]
 | cons s S ih=>
   intro j arr h;rw[List.zipIdx_cons,List.foldl_cons,ih (j+1) _ (by simp at h ⊢;omega),Array.toList_setIfInBounds,m0 _ _ _ _ (by simp at h ⊢;omega)]
theorem write_ok (h:bC w base p A c D)(n:Int)(b:List UInt8)(hb:b.length=128)(hn:mayV D n=0)(hf:fullB D n=false)(hw:D.waits.length<1000000)(hbase:base<=w.heap.size) :
 Ca 258 #[.pointer (some ⟨p.d,0,none⟩),I n,aggB b] w (WrPost w base p A D n b):=by
 have hmay:∀ o,Ca 259 #[.pointer (some ⟨p.d,0,none⟩),I n] (w.alloc o) fun e w'=>e=.returned (I (mayV D n))/\(w.alloc o)=w':=fun o=>jI (h.alloc o) n
 rw[hn] at hmay;obtain⟨_,h0,h1⟩:=kT hn;obtain⟨k,rfl⟩:∃ k:Nat,n=(k:Int):=⟨n.toNat,aS⟩;have hk:k<D.many:=aS;have hl8:=h.st.lt;have hl7:=h.bm.lt;have hl6:=h.bn.lt;have hH:=aT h;have hleft:∀ o,Ca 295 #[.pointer (some ⟨p.d,0,none⟩)] (w.alloc o) fun e w'=>e=.returned (I (D.room - (fj D.might:Nat)))/\(w.alloc o)=w':=fun o=>left_any (h.alloc o)
 have cm:=j5 h.bm k (by rw[h.ok.might];exact hk);have c3:=h.cells.2.2.2.1;have c4:=h.cells.2.2.2.2.1;have c1:=h.cells.2.1;have hsm:Hid (∀ v ∈ b.map bv,v.oneCell'=true):=ew;have hlb:Hid ((b.map bv).length=128):=by show _=_;simp[hb]
 have hbk:=aT (Blk.new w 205 (b.map bv));have Hi:=aT (zero_of_info dy).2;have hmany:=h.ok.many1;have hb0:=hb;unfold aggB;generalize hB:b.map bv=S at *;have HB:=aT hB;have hbl:=aT hb0;have hAd:=h.nd.2.2.2.2.2;have hstw:=h.st;clear hb0;obtain⟨V,hV⟩:∃ V,(I (k:Int) :: S)=V:=⟨_,rfl⟩;have hVl:Hid (V.length=129):=by show _=_;rw[<- hV,aF,hlb.out]
 have hVp:Hid (V=ez (k,b)):=by show _=_;rw[<- hV,<- hB];rfl
 have HV:=aT hV;clear hV;unfold fullB at hf;rw[ax] at hf;clear h hn hB hb;have goal1:∀ (mg:Bool),D.might.getD k false=mg->True:=fun _ _=>trivial
 clear goal1;generalize D.might.getD k false=mg at *
 cases mg
 case' false=>
  have hf':(D.room - ((fj D.might:Nat):Int) == 0)=false:=hf;generalize D.room - ((fj D.might:Nat):Int)=left at *
 all_goals
  clear hf;go_enter Tryz.func258,Tryz.ntmps258;go_wp2_with (first | (go_at_call 259;go_call (hmay _) as e w1 ⟨rfl,rfl⟩) | (go_at_call 295;go_call (hleft _) as e w1 ⟨rfl,rfl⟩) | fail);refine wp_region_held_drew (S:=fun w'=>w'.rangeAt w.heap.size 0 S) bM (hbk.out.drew.range (n:=128) kG) (fun hHeld=>?_);refine aV 0 ?_;refine aV 1 ?_;refine aV 2 ?_;refine aV 3 ?_;refine aV 5 ?_;refine wpAnyH_take (i:=6) (v:=_) rfl bT bT bT (fun _ _ _ h=>h) (yieldsIf_load_mid (by rfl) _ _ rfl _ _ rfl S _ (fun _ h=>h) Tryz.underlying205 rfl (by rw[hlb.out];exact Hi.out)) gU ?_;refine bJ ?_;refine aV 7 ?_ (hy:=Or.inl ⟨by rfl,by (intro w hSw;(try dsimp only at hSw);have hl9:=hlb.out;go_simp;rw[build_piece _ _ hl9,HV.out])⟩);refine wpAnyH_ready (rs:=[4,8]) bT aZ ?_;refine AllReadyH.cons rfl (fun K hK=>?_) (AllReadyH.cons rfl (fun K hK=>?_) AllReadyH.nil);go_simp;refine hK.out _ _ (hHeld) (fun hHeld=>?_);clear hK K;refine bJ ?_;refine bR 8 (fun K hK=>?_);have hl9:=hVl.out;go_simp;rw[fold_all V 0 _ (by rw[hl9];exact Nat.le_of_eq rfl),dS _ _ (by rw[hl9];rfl)];refine hK.out _ _ (fun j v hv=>World.rangeAt_alloc hHeld _ j v hv) (fun hHeld=>?_);clear hK K;refine bJ ?_;rotate_left 1;have hl9:=hVl.out;go_simp;rw[fold_all V 0 _ (by rw[hl9];exact Nat.le_of_eq rfl),dS _ _ (by rw[hl9];rfl)];refine hK.out _ _ (fun j v hv=>World.rangeAt_alloc hHeld _ j v hv) (fun hHeld=>?_);clear hK K;refine bJ ?_;refine bR 4 (fun K hK=>?_);go_simp;refine hK.out _ _ (hHeld) (fun hHeld=>?_);clear hK K;refine bJ ?_
  all_goals
   refine bR 9 (fun K hK=>?_);refine step_appS rfl rfl elemPiece nS (s:=.tmp 31) (N:=D.waits.length+1) (L:=D.waits ++ [(k,b)]) rfl (hH.out.waS.below (b:=w.heap.size) bc aW) rfl (k:=[(k,b)]) (RdS.of_cells (g:=w.heap.size+1) (cs:=V.toArray) (t:=207) (dP _ _ aZ) (by simp[ez,hbl.out]) (by rw[hVp.out];simp)) rfl rfl bQ aS cR ?_;intro A5 c5 w5 hown5 hg5 hat5 hb5;have hst5:Blk w5 p.d 198 (dcells p A c D):=Blk.grown bI hg5 hAd;have hbx5:Blk w5 w.heap.size 205 S:=Blk.grown bI hg5 (fun e=>by have:=hH.out.wa.lt _ (show (Value.slice A D.waits.length c).ownBlock=some w.heap.size by cases A with | none=>cases e | some a=>simpa [Value.ownBlock] using e);omega);have d54:=hst5.c4;have f54:=hst5.frozen 4;refine hK.out _ _ (hbx5.range (n:=128) kG) (fun hHeld=>?_);clear hK K;refine bJ ?_;refine aV 10 ?_;refine aV 11 ?_;refine bR 12 (fun K hK=>?_);go_simp;have hbx6:Blk (w5.setCell ⟨p.d,4,none⟩ (.slice A5 (D.waits.length+1) c5)) w.heap.size 205 S:=hbx5.far (by show w.heap.size≠p.d;omega) _;refine hK.out _ _ (hbx6.range (n:=128) kG) (fun hHeld=>?_);clear hK K;refine bJ ?_;refine wpAnyH_done bT ?_ _;have k5:Keep (fun g=>A.map (·.block)=some g) w w5:=(((Keep.refl _ w).alloc _).alloc _).drewD.then_grown hg5 (fun g e=>e);have h5:=hH.out.turnWaits k5 hown5 ⟨hk,hbl.out⟩ hw;have H5:=aT h5;obtain⟨e0,e1,e2,e3,e4,e5,e6,e7,e8⟩:=h5.cells;have hth:=h5.bn.there (k * 128) 128 (by rw[az];have:=h5.ok.now;simp only at this;rw[this];omega);have em:=j5 h5.bm k (by rw[h5.ok.might];exact hk);have fm:=h5.bm.frozen k;generalize hW6:w5.setCell ⟨p.d,4,none⟩ (.slice A5 (D.waits.length+1) c5)=w6 at *;have HW6:=aT hW6;have fmH:=aT fm;have emH:=aT em;have hthH:=aT hth;have hbx:=hbx6;clear hW6 h5 d54 f54 fm em hth;simp only at e1 e3;go_wp2;refine wp_region_held_drew (S:=fun w'=>w'.cell? ⟨p.d,1,none⟩=some (.slice (some ⟨p.gn,0,none⟩) D.many D.many)/\w'.cell? ⟨p.d,3,none⟩=some (.slice (some ⟨p.gm,0,none⟩) D.many D.many)/\w'.rangeAt w.heap.size 0 S) bM ⟨e1,e3,hbx.drew.range (n:=128) kG⟩ (fun hHeld=>?_);refine aV 0 ?_;refine aV 1 ?_;refine aV 2 ?_;refine aV 3 ?_ (hy:=Or.inl ⟨by rfl,by (exact pf)⟩);refine aV 4 ?_;refine aV 5 ?_;refine aV 6 ?_;refine aV 7 ?_;refine aV 8 ?_ (hy:=Or.inl ⟨by rfl,by (exact pf)⟩);refine aV 9 ?_;refine wpAnyH_take (i:=10) (v:=_) rfl bT bT bT (fun _ _ _ h=>h) (yieldsIf_load_mid (by rfl) _ _ rfl _ _ rfl S _ (fun _ h=>h.2.2) Tryz.underlying205 rfl (by rw[hlb.out];exact Hi.out)) gU ?_;refine bJ ?_;refine aV 11 ?_;refine bR 12 (fun K hK=>?_);rw[if_pos (by rfl)];refine wp_store_mid 205 (.tmp 50) (.tmp 49) rfl p.gn (k * 128) S.toArray rfl rfl (by rw[List.size_toArray,hlb.out];exact (World.there_drew _ _ _ _).2 hthH.out) (by rw[List.size_toArray,hlb.out];exact Hi.out) (all_oneCell_toArray hsm.out) ?_;have hD:bC w6.drew base p A5 c5 { D with waits:=D.waits ++ [(k,b)] }:=H5.out.drewN 1;have hbn7:=Blk.setCells S (k * 128) w6.drew _ hD.bn (by rw[az,hlb.out];have:=H5.out.ok.now;simp only at this;rw[this];omega);have kn7:Keep (·=p.gn) w6.drew (w6.drew.setCells p.gn (k * 128) S):=Keep.one (oY _ _ _ _);rw[<- HB.out,oX] at hbn7
   have h7:=bC.turnNow (w':=w6.drew.setCells p.gn (k * 128) S) (l:=splice D.now (k * 128) b) hD kn7 (by rw[<- HB.out];exact hbn7) (by rw[ji (by rw[H5.out.ok.now,hbl.out];simp only;omega)];exact H5.out.ok.now);have H7:=aT h7;have hbx7:Blk (w6.drew.setCells p.gn (k * 128) S) w.heap.size 205 S:=hbx.drew.setCellsFar aS S (k * 128) _;have em7:=j5 h7.bm k (by rw[h7.ok.might];exact hk);have fm7:=h7.bm.frozen k;have g1:=h7.cells.2.1;have g3:=h7.cells.2.2.2.1;simp only at g1 g3;simp only[List.toList_toArray];clear h7;generalize w6.drew.setCells p.gn (k * 128) S=w7 at *;refine hK.out _ _ (⟨g1,g3,hbx7.range (n:=128) kG⟩) (fun hHeld=>?_);clear hK K;refine bJ ?_;refine aV 13 ?_;refine bR 14 (fun K hK=>?_);go_simp;have h8:=H7.out.setMight k true;have hbx8:Blk (w7.setCell ⟨p.gm,k,none⟩ (.bool true)) w.heap.size 205 S:=hbx7.far (by show w.heap.size≠p.gm;omega) _;have g18:=h8.cells.2.1;have g38:=h8.cells.2.2.2.1;simp only at g18 g38;have H8:=aT h8;clear h8;refine hK.out _ _ (⟨g18,g38,hbx8.range (n:=128) kG⟩) (fun hHeld=>?_);clear hK K;refine bJ ?_;refine wpAnyH_done bT ?_ _;have H8':Hid (bC (w7.setCell ⟨p.gm,k,none⟩ (.bool true)) base p A5 c5 (putD D (k:Int) b)):=H8.out;have k8:Keep (foot p A) w (w7.setCell ⟨p.gm,k,none⟩ (.bool true)):=by
    have a5:Keep (foot p A) w w6:=by rw[<- HW6.out];exact (k5.mono (fun g _ e=>.inr (.inr (.inr (.inr (.inr (.inr e))))))).set_ _ (.inl rfl)
    exact ((a5.drewD.trans kn7 (fun g _ e=>.inr (.inr (.inl e)))).set_ _ (.inr (.inr (.inr (.inr (.inl rfl))))))
   generalize w7.setCell ⟨p.gm,k,none⟩ (.bool true)=w8 at *;obtain⟨bb,hbb⟩:∃ bb,(D.cut == 0)=bb:=⟨_,rfl⟩;have hgo:Ca 260 #[.pointer (some ⟨p.d,0,none⟩),I 2] w8 fun e w'=>e=.returned (.bool bb)/\bC w' base p A5 c5 (ey (putD D (k:Int) b) 2)/\Keep (foot p A5) w8 w':=(nR H8'.out 2).mono fun e w' ⟨h1,h2,h3,_⟩=>⟨by rw[h1,<- hbb];rfl,h2,h3⟩
   have hnew:∀ g,A5.map (·.block)=some g->A.map (·.block)=some g\/w.heap.size<=g:=fun g e=>by
    rcases hat5 with q | q
    · exact .inl (q ▸ e)
    · rw[q] at e;injection e with e;exact .inr (by rw[<- e];simp;omega)
   have hG:∀ g,g<w.heap.size->foot p A5 g->foot p A g:=fun g hg e=>by
    rcases e with e | e | e | e | e | e | e
    · exact .inl e
    · exact .inr (.inl e)
    · exact .inr (.inr (.inl e))
    · exact .inr (.inr (.inr (.inl e)))
    · exact .inr (.inr (.inr (.inr (.inl e))))
    · exact .inr (.inr (.inr (.inr (.inr (.inl e)))))
    · rcases hnew g e with q | q
      · exact .inr (.inr (.inr (.inr (.inr (.inr q)))))
      · omega
   have hret:Hid (cutE D=if bb=true then 50 else 0):=by
    show _=_
    unfold cutE;rw[<- hbb]
    by_cases q:D.cut=0
    · rw[if_pos q,if_pos (by rw[q];rfl)]
    · rw[if_neg q,if_neg (by rw[beq_iff_eq];exact q)]
   clear hbb em7 fm7 g1 g3 g18 g38 e0 e1 e2 e3 e4 e5 e6 e7 e8
   cases bb
   all_goals
    go_wp2_with (first | ((go_at_call 260;go_call (hgo) as e w9 ⟨rfl,h9,k9⟩);have H9:=aT h9;clear h9) | fail);go_ret;exact WrPost.mk (by rw[hret.out];rfl) H9.out (k8.trans k9 hG) hnew
theorem eA.same (h:bC w base p A c D)(hb:Below w.heap.size w w'):eA w base p A D w':=⟨A,c,h.below hb,Keep.of_below hb,fun _ e=>.inl e⟩
theorem write_no (h:bC w base p A c D)(n:Int)(b:List UInt8)(hn:mayV D n≠0) :
 Ca 258 #[.pointer (some ⟨p.d,0,none⟩),I n,aggB b] w fun e w'=>e=.returned (I (mayV D n))/\Below w.heap.size w w':=by
 have hmay:∀ o,Ca 259 #[.pointer (some ⟨p.d,0,none⟩),I n] (w.alloc o) fun e w'=>e=.returned (I (mayV D n))/\(w.alloc o)=w':=fun o=>jI (h.alloc o) n
 have hne:(mayV D n != 0)=true:=by rw[ag];exact hn
 unfold aggB;generalize b.map bv=S at *;generalize mayV D n=z at *;clear h hn;go_enter Tryz.func258,Tryz.ntmps258;go_wp2_with (first | (go_at_call 259;go_call (hmay _) as e w1 ⟨rfl,rfl⟩) | fail);go_ret;exact⟨rfl,bc⟩
theorem write_full (h:bC w base p A c D)(n:Int)(b:List UInt8)(hn:mayV D n=0)(hf:fullB D n=true) :
 Ca 258 #[.pointer (some ⟨p.d,0,none⟩),I n,aggB b] w fun e w'=>e=.returned (I 52)/\Below w.heap.size w w':=by
 have hmay:∀ o,Ca 259 #[.pointer (some ⟨p.d,0,none⟩),I n] (w.alloc o) fun e w'=>e=.returned (I (mayV D n))/\(w.alloc o)=w':=fun o=>jI (h.alloc o) n
 rw[hn] at hmay;obtain⟨_,h0,h1⟩:=kT hn;obtain⟨k,rfl⟩:∃ k:Nat,n=(k:Int):=⟨n.toNat,aS⟩;have hk:k<D.many:=aS;have hl8:=h.st.lt;have hl7:=h.bm.lt;have hleft:∀ o,Ca 295 #[.pointer (some ⟨p.d,0,none⟩)] (w.alloc o) fun e w'=>e=.returned (I (D.room - (fj D.might:Nat)))/\(w.alloc o)=w':=fun o=>left_any (h.alloc o)
 have cm:=j5 h.bm k (by rw[h.ok.might];exact hk);have c3:=h.cells.2.2.2.1;unfold fullB at hf;rw[ax] at hf;unfold aggB;generalize b.map bv=S at *;clear h hn;generalize D.might.getD k false=mg at *
 cases mg with
 | true=>simp at hf
 | false=>
   have hf':(D.room - ((fj D.might:Nat):Int) == 0)=true:=hf;generalize D.room - ((fj D.might:Nat):Int)=left at *;clear hf;go_enter Tryz.func258,Tryz.ntmps258;go_wp2_with (first | (go_at_call 259;go_call (hmay _) as e w1 ⟨rfl,rfl⟩) | (go_at_call 295;go_call (hleft _) as e w1 ⟨rfl,rfl⟩) | fail);go_ret;exact⟨rfl,bc⟩
theorem write_any (h:bC w base p A c D)(n:Int)(b:List UInt8)(hb:b.length=128)(hw:D.waits.length<1000000)(hbase:base<=w.heap.size) :
 Ca 258 #[.pointer (some ⟨p.d,0,none⟩),I n,aggB b] w fun e w'=>e=.returned (I (eL D n b).2)/\eA w base p A (eL D n b).1 w':=by
 unfold eL
 by_cases hn:mayV D n=0
 · rw[if_neg aS]
   cases hf:fullB D n with
   | true=>
     rw[if_pos rfl];exact (write_full h n b hn hf).mono fun e w' ⟨h1,h2⟩=>⟨h1,eA.same h h2⟩
   | false=>
     rw[if_neg aZ];exact write_ok h n b hb hn hf hw hbase
 · rw[if_pos hn];exact (write_no h n b hn).mono fun e w' ⟨h1,h2⟩=>⟨h1,eA.same h h2⟩
end
section
variable {w:World} {base:Nat} {p:bE} {A:Option Addr} {c:Nat} {D:aX}
theorem mj:(Tryz.prog.info? 207).map (fun i=>(i.zero,i.size))=some (some (.agg (ez (0,bw)).toArray),129):=by kernel_rfl
theorem run_load_str {fs:Array Field}(hb:Blk w g t cs)(hu:P.underlying ty=some (.struct fs))(hi:(P.info? ty).map (·.size)=some n)
 (hx:xs.length=n) (hat:(cs.drop off).take n=xs):(loadVar ty ⟨g,off,none⟩).run P w=.ok (.agg xs.toArray) w:=by
 have hl:(loadCells ⟨g,off,none⟩ xs.length).run P w=.ok xs.toArray w :=
  run_loadCells_list (P:=P) w ⟨g,off,none⟩ xs (fun j v hv=>by
   have hadd:(⟨g,off,none⟩:Addr).add j=⟨g,off+j,none⟩:=by unfold Addr.add;split <;> simp_all
   have hj:j<xs.length:=by
    rcases ay j xs.length with h | h
    · exact h
    · rw[aK h] at hv;cases hv
   rw[hadd,hb.cell,<- List.getElem?_drop];rw[<- hat,aL,if_pos aS] at hv;exact hv)
 rw[hx] at hl
 cases hq:P.info? ty with
 | none=>simp[hq] at hi
 | some i=>
   have hs:i.size=n:=by simpa [hq] using hi
   have hagg:(isAgg ty).run P w=.ok true w:=by
    unfold isAgg;rw[Sem.run_bind,run_underlying hu w]
    rfl
   simp[loadVar,Sem.run_bind,hagg,sizeOf,typeInfo,hq,hs,hl]
theorem wp_load_str {o:Oper}{a:Act}{Q:Exit->Act->World->Prop}{K:Act->World->Prop}{x:Operand}(ho:o.op=.load ty x)(hx:a.eval x=.pointer (some ⟨g,off,none⟩)){fs:Array Field}(hb:Blk w g t cs)
 (hu:P.underlying ty=some (.struct fs)) (hi:(P.info? ty).map (·.size)=some n) (hl:xs.length=n) (hat:(cs.drop off).take n=xs)
 (h:K (a.put o.dst (.agg xs.toArray)) w):o.wp P a w K Q:=by
 unfold Oper.wp execOp;simp only[ho,hx,Instr.loadAt,Instr.sureAddr,Sem.run_bind,Sem.run_pure,Result.andThen_ok,run_load_str hb hu hi hl hat];exact h
theorem nT {ops:Array Oper}{rest:List Oper}{o:Oper}{a:Act}{Q:Exit->Act->World->Prop}(hgd:Region.wanted o (yielded ops a.tmps)=true){x:Operand}(ho:o.op=.load ty x)(hx:a.eval x=.pointer (some ⟨g,off,none⟩)){fs:Array Field}(hb:Blk w g t cs)
 (hu:P.underlying ty=some (.struct fs)) (hi:(P.info? ty).map (·.size)=some n) (hl:xs.length=n) (hat:(cs.drop off).take n=xs)
 (h:wpList P ops Q rest (a.put o.dst (.agg xs.toArray)) w):wpList P ops Q (o :: rest) a w :=
 wpList_step fun _ hK=>by rw[if_pos hgd];exact wp_load_str ho hx hb hu hi hl hat (hK _ _ h)
theorem bC.pieces (h:bC w base p A c D)(h0:0<D.waits.length):∃ ga cur,A=some ⟨ga,0,none⟩/\Blk w ga 207 cur/\cur.take (D.waits.length * 129)=jZ D.waits/\foot p A ga:=by
 rcases h.wa.2 with ⟨_,hn⟩ | ⟨g,cap,cur,hv,hb,hg,hnc,hm,hs,ht⟩
 · omega
 · injection hv with hv;subst hv;exact⟨g,cur.toList,rfl,by unfold Blk;rw[hg],ht,.inr (.inr (.inr (.inr (.inr (.inr rfl)))))⟩
theorem flat_piece:∀ (W:List (Nat × List UInt8)) (k:Nat),(∀ p ∈ W,p.2.length=128)->k<W.length->((jZ W).drop (k * 129)).take 129=ez (cY W k):=by
 intro W
 induction W with
 | nil=>intro k _ h;simp at h
 | cons x W ih=>
   intro k hp hk;have hx:=lC x (hp x aZ)
   cases k with
   | zero=>
     show ((ez x ++ jZ W).drop (0 * 129)).take 129=ez x
     rw[Nat.zero_mul,aG,List.take_append_of_le_length aS,au aS]
   | succ k=>
     show ((ez x ++ jZ W).drop ((k+1) * 129)).take 129=ez (cY W k)
     rw[List.drop_append,hx,aP aS,List.nil_append,show (k+1) * 129 - 129=k * 129 by omega];exact ih k (fun p hp'=>hp p (by simp[hp'])) (by simpa using hk)
theorem piece_at {cur:List Value}{W:List (Nat × List UInt8)}{k:Nat}(hc:cur.take (W.length * 129)=jZ W)(hp:∀ p ∈ W,p.2.length=128)(hk:k<W.length):(cur.drop (k * 129)).take 129=ez (cY W k):=by
 rw[<- flat_piece W k hp hk,<- hc,List.drop_take,List.take_take]
 congr 1
 omega
theorem flush_no (h:bC w base p A c D)(hn:mayV D 0≠0):Ca 201 #[.pointer (some ⟨p.d,0,none⟩)] w fun e w'=>e=.returned (I (mayV D 0))/\w=w':=by
 have hmay:=jI h 0;have hne:(mayV D 0 != 0)=true:=by rw[ag];exact hn
 generalize mayV D 0=z at *;clear h hn;go_enter Tryz.func201,Tryz.ntmps201;go_wp2_with (first | (go_at_call 259;go_call (hmay) as e w1 ⟨rfl,rfl⟩) | fail);go_ret;exact⟨rfl,rfl⟩
theorem flush_cut (h:bC w base p A c D)(hn:mayV D 0=0)(hc:D.cut=0):Ca 201 #[.pointer (some ⟨p.d,0,none⟩)] w fun e w'=>e=.returned (I 50)/\bC w' base p A c (ey D 3)/\Keep (foot p A) w w':=by
 have hmay:=jI h 0;rw[hn] at hmay;have hgo:Ca 260 #[.pointer (some ⟨p.d,0,none⟩),I 3] w fun e w'=>e=.returned (.bool true)/\bC w' base p A c (ey D 3)/\Keep (foot p A) w w':=(nR h 3).mono fun e w' ⟨h1,h2,h3,_⟩=>⟨by rw[h1,hc];rfl,h2,h3⟩
 clear h hn hc;go_enter Tryz.func201,Tryz.ntmps201;go_wp2_with (first | (go_at_call 259;go_call (hmay) as e w1 ⟨rfl,rfl⟩) | ((go_at_call 260;go_call (hgo) as e w1 ⟨rfl,h9,k9⟩);have H9:=aT h9;clear h9) | fail);go_ret;exact⟨rfl,H9.out,k9⟩
def keepD (E:aX)(k:Nat):aX:={ E with kept:=(fk E.waits (E.kept,E.inuse) k).1,inuse:=(fk E.waits (E.kept,E.inuse) k).2 }
def FlPost (w:World)(base:Nat)(p:bE)(A:Option Addr)(D':aX)(e:Ending)(w':World):Prop:=e=.returned (I 0)/\eA w base p A D' w'
theorem bC.noWaits (h:bC w base p A c D):bC (w.setCell ⟨p.d,4,none⟩ (.slice none 0 0)) base p none 0 { D with waits:=[] }:=by
 have k:Keep (·=p.d) w (w.setCell ⟨p.d,4,none⟩ (.slice none 0 0)):=Keep.one (dw _);obtain⟨n1,n2,n3,n4,n5,n6⟩:=h.nd;refine⟨⟨h.ok.many0,h.ok.many1,h.ok.kept,h.ok.now,h.ok.inuse,h.ok.might,fun p hp=>(by cases hp),h.ok.room,h.ok.cut,(by show 0<=_;omega)⟩,?_,h.bk.keep k n1,h.bn.keep k n2,h.bi.keep k n3,h.bm.keep k n4,⟨h.mt.1,h.mt.2.keep k n5⟩,World.ownsRow_nil _ base _ _,h.ne1,h.ne2,fun g hg=>?_⟩
 · have:=h.st.set_ 4 (.slice none 0 0);unfold dcells at this ⊢;simpa using this
 · rcases hg with e | e | e | e | e | e | e
   · exact h.bs g (.inl e)
   · exact h.bs g (.inr (.inl e))
   · exact h.bs g (.inr (.inr (.inl e)))
   · exact h.bs g (.inr (.inr (.inr (.inl e))))
   · exact h.bs g (.inr (.inr (.inr (.inr (.inl e)))))
   · exact h.bs g (.inr (.inr (.inr (.inr (.inr (.inl e))))))
   · cases e
theorem flush_ok (h:bC w base p A c D)(hn:mayV D 0=0)(hc:D.cut≠0):Ca 201 #[.pointer (some ⟨p.d,0,none⟩)] w (FlPost w base p A (jj (ey D 3))):=by
 have hmay:=jI h 0;rw[hn] at hmay;have hgo:Ca 260 #[.pointer (some ⟨p.d,0,none⟩),I 3] w fun e w'=>e=.returned (.bool false)/\bC w' base p A c (ey D 3)/\Keep (foot p A) w w':=(nR h 3).mono fun e w' ⟨h1,h2,h3,_⟩=>⟨by rw[h1,show (D.cut == 0)=false from by rw[af];exact hc],h2,h3⟩
 clear h hn hc;generalize ey D 3=E at *;have hz:=(zero_of_info mj).1;have HiP:=aT (zero_of_info mj).2;have Hi:=aT (zero_of_info dy).2;have hZl:Hid ((ez (0,bw)).length=129):=lC _ dI;generalize ez (0,bw)=Zp at *;go_enter Tryz.func201,Tryz.ntmps201;go_wp2_with (first | (go_at_call 259;go_call (hmay) as e w1 ⟨rfl,rfl⟩) | ((go_at_call 260;go_call (hgo) as e w1 ⟨rfl,h9,k9⟩);have H9:=aT h9;have c4:=h9.cells.2.2.2.2.1;clear h9) | fail);have hle:=H9.out.ok.few;go_loopw [18] (fun i wr=>∃ k:Nat,k<=E.waits.length/\i=I (k:Nat)/\bC wr base p A c (keepD E k)/\Keep (foot p A) w wr) (fun i _=>E.waits.length - (intOf i).toNat)
 case atStart=>exact⟨0,aS,rfl,H9.out,k9⟩
 case round=>
  obtain⟨k,hk,rfl,hX,kw⟩:=hrel
  by_cases hlt:k<E.waits.length
  · obtain⟨x1,x2⟩:=lA H9.out.ok hlt;obtain⟨ga,cur,hA,hcur,htake,hfoot⟩:=hX.pieces (by show 0<E.waits.length;omega);have hxat:=aT (piece_at (W:=E.waits) htake (fun p hp=>(H9.out.ok.waits p hp).2) hlt);have hVone:=aT (nS (cY E.waits k));have hVl:=aT (lC (cY E.waits k) x2);have hVS:Hid (ez (cY E.waits k)=I ((cY E.waits k).1:Int) :: (cY E.waits k).2.map bv):=rfl;have hnx:Hid (keepD E (k+1)={ keepD E k with kept:=splice (keepD E k).kept ((cY E.waits k).1 * 128) (cY E.waits k).2,inuse:=(keepD E k).inuse.set (cY E.waits k).1 true }):=rfl;have hm1:(keepD E k).many=E.many:=rfl;have hl1:=hX.st.lt;have hfl:=fun g hg=>hX.lt g hg
    have HX:=aT hX;have hks:=kw.size;clear hX htake;rw[<- hm1] at x1;have HM:=aT hm1;clear hm1;have hsm:Hid (∀ v ∈ (cY E.waits k).2.map bv,v.oneCell'=true):=ew;have hSl:Hid (((cY E.waits k).2.map bv).length=128):=by show _=_;rw[az];exact x2
    have HS:Hid ((cY E.waits k).2.map bv=(cY E.waits k).2.map bv):=rfl;generalize hV:ez (cY E.waits k)=V at *;generalize hxx:cY E.waits k=x at *;obtain⟨m,bs⟩:=x;simp only at x1 x2 hVS hnx hsm hSl HS;generalize keepD E k=F at *;have hmI:(m:Int)<F.many:=aS;have hb2l:=aT x2;clear x2 hxx hV;subst hA;go_wp2_with (first | (refine nT rfl (x:=.tmp 20) rfl rfl hcur Tryz.underlying207 HiP.out hVl.out hxat.out ?_) | (refine eu rfl (x:=.tmp 5) (y:=.tmp 21) rfl rfl rfl (t:=207) (cs:=Zp) (xs:=V) (Blk.top _ rfl rfl) HiP.out hVl.out (by rw[hZl.out];omega) hVone.out ?_;intro w2 hb2 hg2 hs2;rw[dS _ _ (hZl.out.trans hVl.out.symm)] at hb2;have H2:=aT ((HX.out.alloc (.cells Zp.toArray 207)).keep (F:=(·=wr.heap.size)) (Keep.one hg2) (fun g hg e=>by have:=hfl g hg;omega));have HB2:=aT hb2) | fail)
    try simp only[Act.put]
    obtain⟨e0,-,e2,-⟩:=H2.out.cells;have t0:w2.cell? ⟨wr.heap.size,0,none⟩=some (I (m:Int)):=by rw[HB2.out.cell,hVS.out];rfl
    have hrng:w2.rangeAt wr.heap.size 1 (bs.map bv):=HB2.out.range (n:=128) nj;have hth:=aT (H2.out.bk.there (m * 128) 128 (by rw[az];have:=H2.out.ok.kept;omega));have hgt1:wr.heap.size≠p.gk:=fun e=>by have:=hfl p.gk (.inr (.inl rfl));omega
    have hgt2:wr.heap.size≠p.gi:=fun e=>by have:=hfl p.gi (.inr (.inr (.inr (.inl rfl))));omega
    clear hb2 hcur hxat
    refine wp_region_held_drew (S:=fun w'=>w'.cell? ⟨p.d,0,none⟩=some (.slice (some ⟨p.gk,0,none⟩) F.many F.many)/\w'.cell? ⟨p.d,2,none⟩=some (.slice (some ⟨p.gi,0,none⟩) F.many F.many)/\w'.cell? ⟨wr.heap.size,0,none⟩=some (I (m:Int))/\w'.rangeAt wr.heap.size 1 (bs.map bv)) bM ⟨e0,e2,t0,fun j v hv=>hrng j v hv⟩ (fun hHeld=>?_);clear e0 e2 t0;refine aV 0 ?_;refine aV 1 ?_;refine aV 2 ?_;refine aV 3 ?_ (hy:=Or.inl ⟨by rfl,by (exact lT)⟩);refine aV 4 ?_;refine aV 5 ?_ (hy:=Or.inl ⟨by rfl,by (exact lT)⟩);refine aV 6 ?_;refine aV 7 ?_;refine aV 8 ?_;refine aV 9 ?_ (hy:=Or.inl ⟨by rfl,by (exact lT)⟩);refine aV 10 ?_;refine aV 11 ?_ (hy:=Or.inl ⟨by rfl,by (exact lT)⟩);refine aV 12 ?_;refine wpAnyH_take (i:=13) (v:=_) rfl bT bT bT (fun _ _ _ h=>h) (yieldsIf_load_mid (by rfl) _ _ rfl _ _ rfl (bs.map bv) _ (fun _ h=>h.2.2.2) Tryz.underlying205 rfl (by rw[hSl.out];exact Hi.out)) gU ?_;refine bJ ?_;refine aV 14 ?_;refine bR 15 (fun K hK=>?_);rw[if_pos (by rfl)];refine wp_store_mid 205 (.tmp 36) (.tmp 35) rfl p.gk (m * 128) (bs.map bv).toArray rfl rfl (by rw[List.size_toArray,hSl.out];exact (World.there_drew _ _ _ _).2 hth.out) (by rw[List.size_toArray,hSl.out];exact Hi.out) (all_oneCell_toArray hsm.out) ?_;have hD:bC w2.drew base p (some ⟨ga,0,none⟩) c F:=H2.out.drewN 1;have hbk7:=Blk.setCells (bs.map bv) (m * 128) w2.drew _ hD.bk (by rw[hSl.out,az];have:=H2.out.ok.kept;omega);have kk7:Keep (·=p.gk) w2.drew (w2.drew.setCells p.gk (m * 128) (bs.map bv)):=Keep.one (oY _ _ _ _);rw[oX] at hbk7;have h7:=bC.turnKept (w':=w2.drew.setCells p.gk (m * 128) (bs.map bv)) (l:=splice F.kept (m * 128) bs) hD kk7 hbk7 (by rw[ji (by rw[H2.out.ok.kept,hb2l.out];omega)];exact H2.out.ok.kept);have H7:=aT h7;have hbx7:=HB2.out.drew.setCellsFar hgt1 (bs.map bv) (m * 128) _;have hcm:m<F.inuse.length:=by rw[HX.out.ok.inuse];exact x1
    have em7:=j5 h7.bi m hcm;have fm7:=h7.bi.frozen m;obtain⟨g0,-,g2,-⟩:=h7.cells;simp only at g0 g2;have gt0:(w2.drew.setCells p.gk (m * 128) (bs.map bv)).cell? ⟨wr.heap.size,0,none⟩=some (I (m:Int)):=by rw[hbx7.cell,hVS.out];rfl
    have hrng7:(w2.drew.setCells p.gk (m * 128) (bs.map bv)).rangeAt wr.heap.size 1 (bs.map bv):=hbx7.range (n:=128) nj;have kA:Keep (foot p (some ⟨ga,0,none⟩)) w (w2.drew.setCells p.gk (m * 128) (bs.map bv)):=((kw.alloc (.cells Zp.toArray 207)).trans (G:=(·=wr.heap.size)) (Keep.one hg2) (fun g hg e=>by omega)).drewD.trans kk7 (fun g _ e=>.inr (.inl e));simp only[List.toList_toArray];clear h7 hbk7 kk7 hD hth hrng hHeld;generalize w2.drew.setCells p.gk (m * 128) (bs.map bv)=w7 at *;refine hK.out _ _ (⟨g0,g2,gt0,hrng7⟩) (fun hHeld=>?_);clear hK K;refine bJ ?_;refine aV 16 ?_;refine bR 17 (fun K hK=>?_);go_simp;have h8:=H7.out.setIn m true;have hbx8:Blk (w7.setCell ⟨p.gi,m,none⟩ (.bool true)) wr.heap.size 207 V:=hbx7.far (by exact hgt2) _;obtain⟨q0,-,q2,-⟩:=h8.cells;simp only at q0 q2;have qp:(w7.setCell ⟨p.gi,m,none⟩ (.bool true)).cell? ⟨wr.heap.size,0,none⟩=some (I (m:Int)):=by rw[hbx8.cell,hVS.out];rfl
    have H8:=aT h8;clear h8;refine hK.out _ _ (⟨q0,q2,qp,hbx8.range (n:=128) nj⟩) (fun hHeld=>?_);clear hK K;refine bJ ?_;refine wpAnyH_done bT ?_ _;go_wp2;go_roundw
    case rel=>exact⟨k+1,aS,by go_num,by rw[hnx.out];exact H8.out,kA.set_ _ (.inr (.inr (.inr (.inl rfl))))⟩
    case measure=>simp[intOf];omega
  · have hk9:k=E.waits.length:=aS;subst hk9;have f4:=hX.st.frozen 4;have c4':wr.cell? ⟨p.d,4,none⟩=some (.slice A E.waits.length c):=hX.cells.2.2.2.2.1;have HX:=aT hX;clear hX;go_wp2;go_ret;exact⟨rfl,none,0,HX.out.noWaits,kw.set_ _ (.inl rfl),fun g e=>by cases e⟩
theorem flush_any (h:bC w base p A c D):Ca 201 #[.pointer (some ⟨p.d,0,none⟩)] w fun e w'=>e=.returned (I (bH D).2)/\eA w base p A (bH D).1 w':=by
 unfold bH
 by_cases hn:mayV D 0=0
 · rw[if_neg aS]
   by_cases hc:D.cut=0
   · rw[if_pos hc];exact (flush_cut h hn hc).mono fun e w' ⟨h1,h2,h3⟩=>⟨h1,A,c,h2,h3,fun _ e=>.inl e⟩
   · rw[if_neg hc];exact flush_ok h hn hc
 · rw[if_pos hn];exact (flush_no h hn).mono fun e w' ⟨h1,h2⟩=>⟨h1,by subst h2;exact⟨A,c,h,Keep.refl _ _,fun _ e=>.inl e⟩⟩
end
