/- Parts: DiskD. -/
import Derived.Test.YtmeebofhlilcmaaGreatPr02
import Derived.Test.YtmeebofhlilcmaaGreatPr10
import Derived.Test.YtmeebofhlilcmaaGreatPr01
set_option linter.unusedVariables false
set_option linter.unusedSimpArgs false
set_option maxRecDepth 100000
set_option maxHeartbeats 40000000
namespace Go.Proofs.YtmeebofhlilcmaaGreat
open Go.RowKit
section
variable {w:World} {base:Nat} {p:qb9} {A:Option Addr} {c:Nat} {D:qa1}
theorem qw2 (p:Nat × List UInt8) (h:p.2.length=128):(qi7 p).length=129:=by simp [qi7,h]
theorem vf6:qj3 Tryz.prog 196 207 (.agg (qi7 (0,qa3)).toArray) 129 136:=qj3.mk' Tryz.underlying196 (by kernel_rfl) (by simp [Value.cells,qi7,qc0]) dcd
theorem RdS.of_cells {α:Type} {size g:Nat} {enc:α→List Value} {w:World} {cs:Array Value} {t:TypeId} {fr:Nat × Nat} (hg:w.heap[g]?=some (.cells cs t fr)) {l:List α} (hl:(l.flatMap enc).length=l.length * size) (h:cs.toList=l.flatMap enc):RdS size enc w (some ⟨g,0,none⟩) l.length l :=
  ⟨rfl,hl,Row.of_block hg 0 fun i hi => by
    rw [Nat.zero_add,← Array.getElem?_toList,h,List.getD_eq_getElem?_getD,List.getElem?_eq_getElem (by rw [hl];exact hi)];rfl⟩
theorem qs5 (x:Nat × List UInt8):∀ u ∈ qi7 x,u.oneCell'=true:=by
  intro u hu;simp only [qi7,List.mem_cons] at hu;rcases hu with rfl | hu
  · rfl
  · exact qk1 u hu
theorem qa7.waS (h:qa7 w base p A c D):OwS 129 qi7 w base 207 A D.waits.length c D.waits:=⟨rfl,h.wa⟩
def qe9 (w:World) (base:Nat) (p:qb9) (A:Option Addr) (D':qa1) (w':World):Prop :=
  ∃ A' c',qa7 w' base p A' c' D'∧Keep (foot p A) w w'∧(∀ g,A'.map (·.block)=some g→A.map (·.block)=some g∨w.heap.size≤g)
def cutE (D:qa1):Int:=if D.cut=0 then 50 else 0
def vm2 (w:World) (base:Nat) (p:qb9) (A:Option Addr) (D:qa1) (n:Int) (b:List UInt8) (e:Ending) (w':World):Prop:=e=.returned (.int .i64 (cutE D))∧qe9 w base p A (qo3 (putD D n b) 2) w'
theorem vm2.mk {w w':World} {n:Int} {b:List UInt8} {z:Int} {A':Option Addr} {c':Nat} (hz:cutE D=z) (h:qa7 w' base p A' c' (qo3 (putD D n b) 2)) (k:Keep (foot p A) w w') (hn:∀ g,A'.map (·.block)=some g→A.map (·.block)=some g∨w.heap.size≤g):vm2 w base p A D n b (.returned (.int .i64 z)) w' :=
  ⟨by rw [hz],A',c',h,k,hn⟩
theorem okWaits {D:qa1} (h:D.Ok) {x:Nat × List UInt8} (hx:x.1<D.many∧x.2.length=128) (hw:D.waits.length<1000000):({ D with waits:=D.waits ++ [x] }:qa1).Ok :=
  ⟨h.many0,h.many1,h.kept,h.now,h.inuse,h.might,fun p hp => (by
    rcases List.mem_append.1 hp with q | q
    · exact h.waits p q
    · obtain rfl:p=x:=by simpa using q
      exact hx),h.room,h.cut,(by simp;omega)⟩
theorem qa7.turnWaits {w5:World} {A5:Option Addr} {c5:Nat} {x:Nat × List UInt8} (h:qa7 w base p A c D) (k:Keep (fun g => A.map (·.block)=some g) w w5) (ho:OwS 129 qi7 w5 base 207 A5 (D.waits.length+1) c5 (D.waits ++ [x])) (hx:x.1<D.many∧x.2.length=128) (hw:D.waits.length<1000000) :
    qa7 (w5.setCell ⟨p.d,4,none⟩ (.slice A5 (D.waits.length+1) c5)) base p A5 c5 { D with waits:=D.waits ++ [x] }:=by
  have hA:∀ g,A.map (·.block)=some g→(Value.slice A D.waits.length c).ownBlock=some g:=fun g e => by cases A with | none => cases e | some a => simpa [Value.ownBlock] using e
  have hne:∀ {g:Nat} {t:TypeId} {cs:List Value},Blk w g t cs→207≠t→¬ A.map (·.block)=some g:=fun hg hne e => vh9 h.wa hg hne (hA _ e)
  have hst5:Blk w5 p.d 198 (vf8 p A c D):=h.st.keep k (hne h.st dcd);have k2:Keep (fun g => A.map (·.block)=some g∨g=p.d) w (w5.setCell ⟨p.d,4,none⟩ (.slice A5 (D.waits.length+1) c5)):=(k.mono (fun _ _ e => .inl e)).set_ _ (.inr rfl);have n:∀ {g:Nat} {t:TypeId} {cs:List Value},Blk w g t cs→207≠t→198≠t→¬ (A.map (·.block)=some g∨g=p.d):=fun hg h1 h2 e => by
    rcases e with e | e
    · exact hne hg h1 e
    · exact (h.st.ne_ hg h2) e.symm
  refine ⟨okWaits h.ok hx hw,?_,h.bk.keep k2 (n h.bk dcd dcd),h.bn.keep k2 (n h.bn dcd dcd),h.bi.keep k2 (n h.bi dcd dcd),h.bm.keep k2 (n h.bm dcd dcd),⟨h.mt.1,h.mt.2.keep k2 (n h.mt.2 dcd dcd)⟩,?_,h.ne1,h.ne2,fun g hg => ?_⟩
  · have:=hst5.set_ 4 (.slice A5 (D.waits.length+1) c5);unfold vf8 at this ⊢;simpa using this
  · have e:(D.waits ++ [x]).length=D.waits.length+1:=by simp
    show World.ownsRow _ base 207 129 (.slice A5 (D.waits ++ [x]).length c5) (D.waits ++ [x]).length (vd1 (D.waits ++ [x]))
    rw [e];exact (OwS.setFar ho hst5 dcd 4 _).2
  · rcases hg with e | e | e | e | e | e | e
    · exact h.bs g (.inl e)
    · exact h.bs g (.inr (.inl e))
    · exact h.bs g (.inr (.inr (.inl e)))
    · exact h.bs g (.inr (.inr (.inr (.inl e))))
    · exact h.bs g (.inr (.inr (.inr (.inr (.inl e)))))
    · exact h.bs g (.inr (.inr (.inr (.inr (.inr (.inl e))))))
    · exact (ho.2.lt g (by cases A5 with | none => cases e | some a => simpa [Value.ownBlock] using e)).1
theorem fold_set (S:List Value):∀ (j:Nat) (arr:Array Value),1+j+S.length≤arr.size→List.foldl (fun cs (x:Value × Nat) => cs.setIfInBounds (1+x.2) x.1) arr (S.zipIdx j)=(splice arr.toList (1+j) S).toArray:=by
  induction S with
  | nil => intro j arr h;simp [splice]
  | cons s S ih =>
    intro j arr h;rw [List.zipIdx_cons,List.foldl_cons,ih (j+1) _ (by simp at h ⊢;omega),Array.toList_setIfInBounds,show 1+(j+1)=1+j+1 by omega,vc7 _ _ _ _ (by simp at h ⊢;omega)]
theorem vl6 (S:List Value) (v:Value) (hS:S.length=128):List.foldl (fun cs (x:Value × Nat) => cs.setIfInBounds (1+x.2) x.1) (Tryz.zeroCells207.setIfInBounds 0 v) S.zipIdx=(v :: S).toArray:=by
  have hz:Tryz.zeroCells207.size=129:=by kernel_rfl
  rw [fold_set S 0 _ (by simp [hz,hS])];have e:∀ (a:Array Value),a.size=129→splice (a.setIfInBounds 0 v).toList (1+0) S=v :: S:=fun a ha => by
    obtain ⟨l⟩:=a;simp at ha
    cases l with
    | nil => simp at ha
    | cons x l =>
      simp only [splice,Array.toList_setIfInBounds,List.set_cons_zero,Nat.add_zero,List.take_succ_cons,List.take_zero,List.singleton_append,hS];rw [List.drop_of_length_le (by simp;simp at ha;omega),List.append_nil]
  rw [e _ hz]
theorem vi7 (S:List Value):∀ (j:Nat) (arr:Array Value),j+S.length≤arr.size→List.foldl (fun cs (x:Value × Nat) => cs.setIfInBounds x.2 x.1) arr (S.zipIdx j)=(splice arr.toList j S).toArray:=by
  induction S with
  | nil => intro j arr h;simp [splice]
  | cons s S ih =>
    intro j arr h;rw [List.zipIdx_cons,List.foldl_cons,ih (j+1) _ (by simp at h ⊢;omega),Array.toList_setIfInBounds,vc7 _ _ _ _ (by simp at h ⊢;omega)]
theorem write_ok (h:qa7 w base p A c D) (n:Int) (b:List UInt8) (hb:b.length=128) (hn:mayV D n=0) (hf:fullB D n=false) (hw:D.waits.length<1000000) (hbase:base≤w.heap.size) :
    Calls Tryz.prog 258 #[.pointer (some ⟨p.d,0,none⟩),.int .i64 n,aggB b] w (vm2 w base p A D n b):=by
  have hmay:∀ o,Calls Tryz.prog 259 #[.pointer (some ⟨p.d,0,none⟩),.int .i64 n] (w.alloc o) fun e w' => e=.returned (.int .i64 (mayV D n))∧(w.alloc o)=w':=fun o => qz8 (h.alloc o) n
  rw [hn] at hmay;obtain ⟨_,h0,h1⟩:=qz9 hn;obtain ⟨k,rfl⟩:∃ k:Nat,n=(k:Int):=⟨n.toNat,omg⟩;have hk:k<D.many:=omg;have hl8:=h.st.lt;have hl7:=h.bm.lt;have hl6:=h.bn.lt;have hH:=hdd h;have hleft:∀ o,Calls Tryz.prog 295 #[.pointer (some ⟨p.d,0,none⟩)] (w.alloc o) fun e w' => e=.returned (.int .i64 (D.room - (qu1 D.might:Nat)))∧(w.alloc o)=w':=fun o => left_any (h.alloc o)
  have cm:=qm5 h.bm k (by rw [h.ok.might];exact hk);have c3:=h.cells.2.2.2.1;have c4:=h.cells.2.2.2.2.1;have c1:=h.cells.2.1;have hsm:Hid (∀ v ∈ b.map bv,v.oneCell'=true):=qk1;have hlb:Hid ((b.map bv).length=128):=by show _=_;simp [hb]
  have hbk:=hdd (Blk.new w 205 (b.map bv));have Hi:=hdd (zero_of_info qe1).2;have hmany:=h.ok.many1;have hb0:=hb;unfold aggB;generalize hB:b.map bv=S at *;have HB:=hdd hB;have hbl:=hdd hb0;have hAd:=h.nd.2.2.2.2.2;have hstw:=h.st;clear hb0;obtain ⟨V,hV⟩:∃ V,(Value.int .i64 (k:Int) :: S)=V:=⟨_,rfl⟩;have hVl:Hid (V.length=129):=by show _=_;rw [← hV,List.length_cons,hlb.out]
  have hVp:Hid (V=qi7 (k,b)):=by show _=_;rw [← hV,← hB];rfl
  have HV:=hdd hV;clear hV;unfold fullB at hf;rw [Int.toNat_natCast] at hf;clear h hn hB hb;have goal1:∀ (mg:Bool),D.might.getD k false=mg→True:=fun _ _ => trivial
  clear goal1;generalize D.might.getD k false=mg at *
  cases mg with
  | true =>
    clear hf;go_enter Tryz.func258,Tryz.ntmps258;go_wp2_with (first | (go_at_call 259;(with_reducible refine (hmay _).mono ?_);rintro e w1 ⟨rfl,rfl⟩) | (go_at_call 295;(with_reducible refine (hleft _).mono ?_);rintro e w1 ⟨rfl,rfl⟩) | fail "no arm");refine wp_region_held_drew (S:=fun w' => w'.rangeAt w.heap.size 0 S) (by kernel_rfl) (hbk.out.drew.range (n:=128) (by rw [List.drop_zero,List.take_of_length_le (by rw [hlb.out];omega)])) (fun hHeld => ?_);refine tkS 0 ?_;refine tkS 1 ?_;refine tkS 2 ?_;refine tkS 3 ?_;refine tkS 5 ?_;refine wpAnyH_take (i:=6) (v:=_) rfl (by decide +kernel) (by decide +kernel) (by decide +kernel) (fun _ _ _ h => h) (yieldsIf_load_mid (by rfl) _ _ rfl _ _ rfl S _ (fun _ h => h) Tryz.underlying205 rfl (by rw [hlb.out];exact Hi.out)) (by assumption) ?_;refine nmz ?_;refine tkS 7 ?_ (hy:=Or.inl ⟨by rfl,by (intro w hSw;(try dsimp only at hSw);have hl9:=hlb.out;go_simp;rw [vl6 _ _ hl9,HV.out])⟩);refine wpAnyH_ready (rs:=[4,8]) (by decide +kernel) smp ?_;refine AllReadyH.cons rfl (fun K hK => ?_) (AllReadyH.cons rfl (fun K hK => ?_) AllReadyH.nil)
    · go_simp;refine hK.out _ _ (hHeld) (fun hHeld => ?_);clear hK K;refine nmz ?_;refine on1 8 (fun K hK => ?_);have hl9:=hVl.out;go_simp;rw [vi7 V 0 _ (by rw [hl9];exact Nat.le_of_eq rfl),qc1 _ _ (by rw [hl9];rfl)];refine hK.out _ _ (fun j v hv => World.rangeAt_alloc hHeld _ j v hv) (fun hHeld => ?_);clear hK K;refine nmz ?_;refine on1 9 (fun K hK => ?_);refine ve5 rfl rfl vf6 qs5 (s:=.tmp 31) (N:=D.waits.length+1) (L:=D.waits ++ [(k,b)]) rfl (hH.out.waS.below (b:=w.heap.size) gwn nlr) rfl (k:=[(k,b)]) (RdS.of_cells (g:=w.heap.size+1) (cs:=V.toArray) (t:=207) (qd3 _ _ smp) (by simp [qi7,hbl.out]) (by rw [hVp.out];simp)) rfl rfl uml omg (by simp;omega) ?_;intro A5 c5 w5 hown5 hg5 hat5 hb5;have hst5:Blk w5 p.d 198 (vf8 p A c D):=Blk.grown blq hg5 hAd;have hbx5:Blk w5 w.heap.size 205 S:=Blk.grown blq hg5 (fun e => by have:=hH.out.wa.lt _ (show (Value.slice A D.waits.length c).ownBlock=some w.heap.size by cases A with | none => cases e | some a => simpa [Value.ownBlock] using e);omega);have d54:w5.cell? ⟨p.d,4,none⟩=some (.slice A D.waits.length c):=hst5.cell 4;have f54:=hst5.frozen 4;refine hK.out _ _ (hbx5.range (n:=128) (by rw [List.drop_zero,List.take_of_length_le (by rw [hlb.out];omega)])) (fun hHeld => ?_);clear hK K;refine nmz ?_;refine tkS 10 ?_;refine tkS 11 ?_;refine on1 12 (fun K hK => ?_);go_simp;have hbx6:Blk (w5.setCell ⟨p.d,4,none⟩ (.slice A5 (D.waits.length+1) c5)) w.heap.size 205 S:=hbx5.far (by show w.heap.size≠p.d;omega) _;refine hK.out _ _ (hbx6.range (n:=128) (by rw [List.drop_zero,List.take_of_length_le (by rw [hlb.out];omega)])) (fun hHeld => ?_);clear hK K;refine nmz ?_;refine wpAnyH_done (by decide +kernel) ?_ _;have k5:Keep (fun g => A.map (·.block)=some g) w w5:=(((Keep.refl _ w).alloc _).alloc _).drewD.then_grown hg5 (fun g e => e);have h5:=hH.out.turnWaits k5 hown5 ⟨hk,hbl.out⟩ hw;have H5:=hdd h5;obtain ⟨e0,e1,e2,e3,e4,e5,e6,e7,e8⟩:=h5.cells;have hth:(w5.setCell ⟨p.d,4,none⟩ (.slice A5 (D.waits.length+1) c5)).there p.gn (k * 128) 128:=h5.bn.there (k * 128) 128 (by rw [List.length_map];have:=h5.ok.now;simp only at this;rw [this];omega);have em:=qm5 h5.bm k (by rw [h5.ok.might];exact hk);have fm:=h5.bm.frozen k;generalize hW6:w5.setCell ⟨p.d,4,none⟩ (.slice A5 (D.waits.length+1) c5)=w6 at *;have HW6:=hdd hW6;have fmH:=hdd fm;have emH:=hdd em;have hthH:=hdd hth;have hbx:Blk w6 w.heap.size 205 S:=hbx6;clear hW6 h5 d54 f54 fm em hth;simp only at e1 e3;go_wp2;refine wp_region_held_drew (S:=fun w' => w'.cell? ⟨p.d,1,none⟩=some (.slice (some ⟨p.gn,0,none⟩) D.many D.many)∧w'.cell? ⟨p.d,3,none⟩=some (.slice (some ⟨p.gm,0,none⟩) D.many D.many)∧w'.rangeAt w.heap.size 0 S) (by kernel_rfl) ⟨e1,e3,hbx.drew.range (n:=128) (by rw [List.drop_zero,List.take_of_length_le (by rw [hlb.out];omega)])⟩ (fun hHeld => ?_);refine tkS 0 ?_;refine tkS 1 ?_;refine tkS 2 ?_;refine tkS 3 ?_ (hy:=Or.inl ⟨by rfl,by (intro w hSw;(try dsimp only at hSw);obtain ⟨s1,s3,s5⟩:=hSw;go_simp;rfl)⟩);refine tkS 4 ?_;refine tkS 5 ?_;refine tkS 6 ?_;refine tkS 7 ?_;refine tkS 8 ?_ (hy:=Or.inl ⟨by rfl,by (intro w hSw;(try dsimp only at hSw);obtain ⟨s1,s3,s5⟩:=hSw;go_simp;rfl)⟩);refine tkS 9 ?_;refine wpAnyH_take (i:=10) (v:=_) rfl (by decide +kernel) (by decide +kernel) (by decide +kernel) (fun _ _ _ h => h) (yieldsIf_load_mid (by rfl) _ _ rfl _ _ rfl S _ (fun _ h => h.2.2) Tryz.underlying205 rfl (by rw [hlb.out];exact Hi.out)) (by assumption) ?_;refine nmz ?_;refine tkS 11 ?_;refine on1 12 (fun K hK => ?_);rw [if_pos (by rfl)]
      refine wp_store_mid 205 (.tmp 50) (.tmp 49) rfl p.gn (k * 128) S.toArray rfl rfl (by rw [List.size_toArray,hlb.out];exact (World.there_drew _ _ _ _).2 hthH.out) (by rw [List.size_toArray,hlb.out];exact Hi.out) (all_oneCell_toArray hsm.out) ?_;have hD:qa7 w6.drew base p A5 c5 { D with waits:=D.waits ++ [(k,b)] }:=H5.out.drewN 1;have hbn7:=Blk.setCells S (k * 128) w6.drew _ hD.bn (by rw [List.length_map,hlb.out];have:=H5.out.ok.now;simp only at this;rw [this];omega);have kn7:Keep (·=p.gn) w6.drew (w6.drew.setCells p.gn (k * 128) S):=Keep.one (qm9 _ _ _ _);rw [← HB.out,qv9] at hbn7;have h7:=qa7.turnNow (w':=w6.drew.setCells p.gn (k * 128) S) (l:=splice D.now (k * 128) b) hD kn7 (by rw [← HB.out];exact hbn7) (by rw [qj6 (by rw [H5.out.ok.now,hbl.out];simp only;omega)];exact H5.out.ok.now);have H7:=hdd h7;have hbx7:Blk (w6.drew.setCells p.gn (k * 128) S) w.heap.size 205 S:=hbx.drew.setCellsFar omg S (k * 128) _;have em7:=qm5 h7.bm k (by rw [h7.ok.might];exact hk);have fm7:=h7.bm.frozen k;have g1:=h7.cells.2.1;have g3:=h7.cells.2.2.2.1;simp only at g1 g3;simp only [List.toList_toArray];clear h7;generalize w6.drew.setCells p.gn (k * 128) S=w7 at *;refine hK.out _ _ (⟨g1,g3,hbx7.range (n:=128) (by rw [List.drop_zero,List.take_of_length_le (by rw [hlb.out];omega)])⟩) (fun hHeld => ?_);clear hK K;refine nmz ?_;refine tkS 13 ?_;refine on1 14 (fun K hK => ?_);go_simp;have h8:=H7.out.setMight k true;have hbx8:Blk (w7.setCell ⟨p.gm,k,none⟩ (.bool true)) w.heap.size 205 S:=hbx7.far (by show w.heap.size≠p.gm;omega) _;have g18:=h8.cells.2.1;have g38:=h8.cells.2.2.2.1;simp only at g18 g38;have H8:=hdd h8;clear h8;refine hK.out _ _ (⟨g18,g38,hbx8.range (n:=128) (by rw [List.drop_zero,List.take_of_length_le (by rw [hlb.out];omega)])⟩) (fun hHeld => ?_);clear hK K;refine nmz ?_;refine wpAnyH_done (by decide +kernel) ?_ _;have H8':Hid (qa7 (w7.setCell ⟨p.gm,k,none⟩ (.bool true)) base p A5 c5 (putD D (k:Int) b)):=H8.out;have k8:Keep (foot p A) w (w7.setCell ⟨p.gm,k,none⟩ (.bool true)):=by
        have a5:Keep (foot p A) w w6:=by rw [← HW6.out];exact (k5.mono (fun g _ e => .inr (.inr (.inr (.inr (.inr (.inr e))))))).set_ _ (.inl rfl)
        exact ((a5.drewD.trans kn7 (fun g _ e => .inr (.inr (.inl e)))).set_ _ (.inr (.inr (.inr (.inr (.inl rfl))))))
      generalize w7.setCell ⟨p.gm,k,none⟩ (.bool true)=w8 at *;obtain ⟨bb,hbb⟩:∃ bb,(D.cut == 0)=bb:=⟨_,rfl⟩;have hgo:Calls Tryz.prog 260 #[.pointer (some ⟨p.d,0,none⟩),.int .i64 2] w8 fun e w' => e=.returned (.bool bb)∧qa7 w' base p A5 c5 (qo3 (putD D (k:Int) b) 2)∧Keep (foot p A5) w8 w':=(vb7 H8'.out 2).mono fun e w' ⟨h1,h2,h3,_⟩ => ⟨by rw [h1,← hbb];rfl,h2,h3⟩
      have hnew:∀ g,A5.map (·.block)=some g→A.map (·.block)=some g∨w.heap.size≤g:=fun g e => by
        rcases hat5 with q | q
        · exact .inl (q ▸ e)
        · rw [q] at e;injection e with e;exact .inr (by rw [← e];simp;omega)
      have hG:∀ g,g<w.heap.size→foot p A5 g→foot p A g:=fun g hg e => by
        rcases e with e | e | e | e | e | e | e
        · exact .inl e
        · exact .inr (.inl e)
        · exact .inr (.inr (.inl e))
        · exact .inr (.inr (.inr (.inl e)))
        · exact .inr (.inr (.inr (.inr (.inl e))))
        · exact .inr (.inr (.inr (.inr (.inr (.inl e)))))
        · rcases hnew g e with q | q
          · exact .inr (.inr (.inr (.inr (.inr (.inr q)))))
          · omega
      have hret:Hid (cutE D=if bb=true then 50 else 0):=by
        show _=_
        unfold cutE;rw [← hbb]
        by_cases q:D.cut=0
        · rw [if_pos q,if_pos (by rw [q];rfl)]
        · rw [if_neg q,if_neg (by rw [beq_iff_eq];exact q)]
      clear hbb em7 fm7 g1 g3 g18 g38 e0 e1 e2 e3 e4 e5 e6 e7 e8
      cases bb
      all_goals
        go_wp2_with (first | ((go_at_call 260;(with_reducible refine (hgo).mono ?_);rintro e w9 ⟨rfl,h9,k9⟩);have H9:=hdd h9;clear h9) | fail "no arm");go_ret;exact vm2.mk (by rw [hret.out];rfl) H9.out (k8.trans k9 hG) hnew
    · have hl9:=hVl.out;go_simp;rw [vi7 V 0 _ (by rw [hl9];exact Nat.le_of_eq rfl),qc1 _ _ (by rw [hl9];rfl)];refine hK.out _ _ (fun j v hv => World.rangeAt_alloc hHeld _ j v hv) (fun hHeld => ?_);clear hK K;refine nmz ?_;refine on1 4 (fun K hK => ?_);go_simp;refine hK.out _ _ (hHeld) (fun hHeld => ?_);clear hK K;refine nmz ?_;refine on1 9 (fun K hK => ?_);refine ve5 rfl rfl vf6 qs5 (s:=.tmp 31) (N:=D.waits.length+1) (L:=D.waits ++ [(k,b)]) rfl (hH.out.waS.below (b:=w.heap.size) gwn nlr) rfl (k:=[(k,b)]) (RdS.of_cells (g:=w.heap.size+1) (cs:=V.toArray) (t:=207) (qd3 _ _ smp) (by simp [qi7,hbl.out]) (by rw [hVp.out];simp)) rfl rfl uml omg (by simp;omega) ?_;intro A5 c5 w5 hown5 hg5 hat5 hb5;have hst5:Blk w5 p.d 198 (vf8 p A c D):=Blk.grown blq hg5 hAd;have hbx5:Blk w5 w.heap.size 205 S:=Blk.grown blq hg5 (fun e => by have:=hH.out.wa.lt _ (show (Value.slice A D.waits.length c).ownBlock=some w.heap.size by cases A with | none => cases e | some a => simpa [Value.ownBlock] using e);omega);have d54:w5.cell? ⟨p.d,4,none⟩=some (.slice A D.waits.length c):=hst5.cell 4;have f54:=hst5.frozen 4;refine hK.out _ _ (hbx5.range (n:=128) (by rw [List.drop_zero,List.take_of_length_le (by rw [hlb.out];omega)])) (fun hHeld => ?_);clear hK K;refine nmz ?_;refine tkS 10 ?_;refine tkS 11 ?_;refine on1 12 (fun K hK => ?_);go_simp;have hbx6:Blk (w5.setCell ⟨p.d,4,none⟩ (.slice A5 (D.waits.length+1) c5)) w.heap.size 205 S:=hbx5.far (by show w.heap.size≠p.d;omega) _;refine hK.out _ _ (hbx6.range (n:=128) (by rw [List.drop_zero,List.take_of_length_le (by rw [hlb.out];omega)])) (fun hHeld => ?_);clear hK K;refine nmz ?_;refine wpAnyH_done (by decide +kernel) ?_ _;have k5:Keep (fun g => A.map (·.block)=some g) w w5:=(((Keep.refl _ w).alloc _).alloc _).drewD.then_grown hg5 (fun g e => e);have h5:=hH.out.turnWaits k5 hown5 ⟨hk,hbl.out⟩ hw;have H5:=hdd h5;obtain ⟨e0,e1,e2,e3,e4,e5,e6,e7,e8⟩:=h5.cells;have hth:(w5.setCell ⟨p.d,4,none⟩ (.slice A5 (D.waits.length+1) c5)).there p.gn (k * 128) 128:=h5.bn.there (k * 128) 128 (by rw [List.length_map];have:=h5.ok.now;simp only at this;rw [this];omega);have em:=qm5 h5.bm k (by rw [h5.ok.might];exact hk);have fm:=h5.bm.frozen k;generalize hW6:w5.setCell ⟨p.d,4,none⟩ (.slice A5 (D.waits.length+1) c5)=w6 at *;have HW6:=hdd hW6;have fmH:=hdd fm;have emH:=hdd em;have hthH:=hdd hth;have hbx:Blk w6 w.heap.size 205 S:=hbx6;clear hW6 h5 d54 f54 fm em hth;simp only at e1 e3;go_wp2;refine wp_region_held_drew (S:=fun w' => w'.cell? ⟨p.d,1,none⟩=some (.slice (some ⟨p.gn,0,none⟩) D.many D.many)∧w'.cell? ⟨p.d,3,none⟩=some (.slice (some ⟨p.gm,0,none⟩) D.many D.many)∧w'.rangeAt w.heap.size 0 S) (by kernel_rfl) ⟨e1,e3,hbx.drew.range (n:=128) (by rw [List.drop_zero,List.take_of_length_le (by rw [hlb.out];omega)])⟩ (fun hHeld => ?_);refine tkS 0 ?_;refine tkS 1 ?_;refine tkS 2 ?_;refine tkS 3 ?_ (hy:=Or.inl ⟨by rfl,by (intro w hSw;(try dsimp only at hSw);obtain ⟨s1,s3,s5⟩:=hSw;go_simp;rfl)⟩);refine tkS 4 ?_;refine tkS 5 ?_;refine tkS 6 ?_;refine tkS 7 ?_;refine tkS 8 ?_ (hy:=Or.inl ⟨by rfl,by (intro w hSw;(try dsimp only at hSw);obtain ⟨s1,s3,s5⟩:=hSw;go_simp;rfl)⟩);refine tkS 9 ?_;refine wpAnyH_take (i:=10) (v:=_) rfl (by decide +kernel) (by decide +kernel) (by decide +kernel) (fun _ _ _ h => h) (yieldsIf_load_mid (by rfl) _ _ rfl _ _ rfl S _ (fun _ h => h.2.2) Tryz.underlying205 rfl (by rw [hlb.out];exact Hi.out)) (by assumption) ?_;refine nmz ?_;refine tkS 11 ?_;refine on1 12 (fun K hK => ?_);rw [if_pos (by rfl)]
      refine wp_store_mid 205 (.tmp 50) (.tmp 49) rfl p.gn (k * 128) S.toArray rfl rfl (by rw [List.size_toArray,hlb.out];exact (World.there_drew _ _ _ _).2 hthH.out) (by rw [List.size_toArray,hlb.out];exact Hi.out) (all_oneCell_toArray hsm.out) ?_;have hD:qa7 w6.drew base p A5 c5 { D with waits:=D.waits ++ [(k,b)] }:=H5.out.drewN 1;have hbn7:=Blk.setCells S (k * 128) w6.drew _ hD.bn (by rw [List.length_map,hlb.out];have:=H5.out.ok.now;simp only at this;rw [this];omega);have kn7:Keep (·=p.gn) w6.drew (w6.drew.setCells p.gn (k * 128) S):=Keep.one (qm9 _ _ _ _);rw [← HB.out,qv9] at hbn7;have h7:=qa7.turnNow (w':=w6.drew.setCells p.gn (k * 128) S) (l:=splice D.now (k * 128) b) hD kn7 (by rw [← HB.out];exact hbn7) (by rw [qj6 (by rw [H5.out.ok.now,hbl.out];simp only;omega)];exact H5.out.ok.now);have H7:=hdd h7;have hbx7:Blk (w6.drew.setCells p.gn (k * 128) S) w.heap.size 205 S:=hbx.drew.setCellsFar omg S (k * 128) _;have em7:=qm5 h7.bm k (by rw [h7.ok.might];exact hk);have fm7:=h7.bm.frozen k;have g1:=h7.cells.2.1;have g3:=h7.cells.2.2.2.1;simp only at g1 g3;simp only [List.toList_toArray];clear h7;generalize w6.drew.setCells p.gn (k * 128) S=w7 at *;refine hK.out _ _ (⟨g1,g3,hbx7.range (n:=128) (by rw [List.drop_zero,List.take_of_length_le (by rw [hlb.out];omega)])⟩) (fun hHeld => ?_);clear hK K;refine nmz ?_;refine tkS 13 ?_;refine on1 14 (fun K hK => ?_);go_simp;have h8:=H7.out.setMight k true;have hbx8:Blk (w7.setCell ⟨p.gm,k,none⟩ (.bool true)) w.heap.size 205 S:=hbx7.far (by show w.heap.size≠p.gm;omega) _;have g18:=h8.cells.2.1;have g38:=h8.cells.2.2.2.1;simp only at g18 g38;have H8:=hdd h8;clear h8;refine hK.out _ _ (⟨g18,g38,hbx8.range (n:=128) (by rw [List.drop_zero,List.take_of_length_le (by rw [hlb.out];omega)])⟩) (fun hHeld => ?_);clear hK K;refine nmz ?_;refine wpAnyH_done (by decide +kernel) ?_ _;have H8':Hid (qa7 (w7.setCell ⟨p.gm,k,none⟩ (.bool true)) base p A5 c5 (putD D (k:Int) b)):=H8.out;have k8:Keep (foot p A) w (w7.setCell ⟨p.gm,k,none⟩ (.bool true)):=by
        have a5:Keep (foot p A) w w6:=by rw [← HW6.out];exact (k5.mono (fun g _ e => .inr (.inr (.inr (.inr (.inr (.inr e))))))).set_ _ (.inl rfl)
        exact ((a5.drewD.trans kn7 (fun g _ e => .inr (.inr (.inl e)))).set_ _ (.inr (.inr (.inr (.inr (.inl rfl))))))
      generalize w7.setCell ⟨p.gm,k,none⟩ (.bool true)=w8 at *;obtain ⟨bb,hbb⟩:∃ bb,(D.cut == 0)=bb:=⟨_,rfl⟩;have hgo:Calls Tryz.prog 260 #[.pointer (some ⟨p.d,0,none⟩),.int .i64 2] w8 fun e w' => e=.returned (.bool bb)∧qa7 w' base p A5 c5 (qo3 (putD D (k:Int) b) 2)∧Keep (foot p A5) w8 w':=(vb7 H8'.out 2).mono fun e w' ⟨h1,h2,h3,_⟩ => ⟨by rw [h1,← hbb];rfl,h2,h3⟩
      have hnew:∀ g,A5.map (·.block)=some g→A.map (·.block)=some g∨w.heap.size≤g:=fun g e => by
        rcases hat5 with q | q
        · exact .inl (q ▸ e)
        · rw [q] at e;injection e with e;exact .inr (by rw [← e];simp;omega)
      have hG:∀ g,g<w.heap.size→foot p A5 g→foot p A g:=fun g hg e => by
        rcases e with e | e | e | e | e | e | e
        · exact .inl e
        · exact .inr (.inl e)
        · exact .inr (.inr (.inl e))
        · exact .inr (.inr (.inr (.inl e)))
        · exact .inr (.inr (.inr (.inr (.inl e))))
        · exact .inr (.inr (.inr (.inr (.inr (.inl e)))))
        · rcases hnew g e with q | q
          · exact .inr (.inr (.inr (.inr (.inr (.inr q)))))
          · omega
      have hret:Hid (cutE D=if bb=true then 50 else 0):=by
        show _=_
        unfold cutE;rw [← hbb]
        by_cases q:D.cut=0
        · rw [if_pos q,if_pos (by rw [q];rfl)]
        · rw [if_neg q,if_neg (by rw [beq_iff_eq];exact q)]
      clear hbb em7 fm7 g1 g3 g18 g38 e0 e1 e2 e3 e4 e5 e6 e7 e8
      cases bb
      all_goals
        go_wp2_with (first | ((go_at_call 260;(with_reducible refine (hgo).mono ?_);rintro e w9 ⟨rfl,h9,k9⟩);have H9:=hdd h9;clear h9) | fail "no arm");go_ret;exact vm2.mk (by rw [hret.out];rfl) H9.out (k8.trans k9 hG) hnew
  | false =>
    have hf':(D.room - ((qu1 D.might:Nat):Int) == 0)=false:=hf;generalize D.room - ((qu1 D.might:Nat):Int)=left at *;clear hf;go_enter Tryz.func258,Tryz.ntmps258;go_wp2_with (first | (go_at_call 259;(with_reducible refine (hmay _).mono ?_);rintro e w1 ⟨rfl,rfl⟩) | (go_at_call 295;(with_reducible refine (hleft _).mono ?_);rintro e w1 ⟨rfl,rfl⟩) | fail "no arm");refine wp_region_held_drew (S:=fun w' => w'.rangeAt w.heap.size 0 S) (by kernel_rfl) (hbk.out.drew.range (n:=128) (by rw [List.drop_zero,List.take_of_length_le (by rw [hlb.out];omega)])) (fun hHeld => ?_);refine tkS 0 ?_;refine tkS 1 ?_;refine tkS 2 ?_;refine tkS 3 ?_;refine tkS 5 ?_;refine wpAnyH_take (i:=6) (v:=_) rfl (by decide +kernel) (by decide +kernel) (by decide +kernel) (fun _ _ _ h => h) (yieldsIf_load_mid (by rfl) _ _ rfl _ _ rfl S _ (fun _ h => h) Tryz.underlying205 rfl (by rw [hlb.out];exact Hi.out)) (by assumption) ?_;refine nmz ?_;refine tkS 7 ?_ (hy:=Or.inl ⟨by rfl,by (intro w hSw;(try dsimp only at hSw);have hl9:=hlb.out;go_simp;rw [vl6 _ _ hl9,HV.out])⟩);refine wpAnyH_ready (rs:=[4,8]) (by decide +kernel) smp ?_;refine AllReadyH.cons rfl (fun K hK => ?_) (AllReadyH.cons rfl (fun K hK => ?_) AllReadyH.nil)
    · go_simp;refine hK.out _ _ (hHeld) (fun hHeld => ?_);clear hK K;refine nmz ?_;refine on1 8 (fun K hK => ?_);have hl9:=hVl.out;go_simp;rw [vi7 V 0 _ (by rw [hl9];exact Nat.le_of_eq rfl),qc1 _ _ (by rw [hl9];rfl)];refine hK.out _ _ (fun j v hv => World.rangeAt_alloc hHeld _ j v hv) (fun hHeld => ?_);clear hK K;refine nmz ?_;refine on1 9 (fun K hK => ?_);refine ve5 rfl rfl vf6 qs5 (s:=.tmp 31) (N:=D.waits.length+1) (L:=D.waits ++ [(k,b)]) rfl (hH.out.waS.below (b:=w.heap.size) gwn nlr) rfl (k:=[(k,b)]) (RdS.of_cells (g:=w.heap.size+1) (cs:=V.toArray) (t:=207) (qd3 _ _ smp) (by simp [qi7,hbl.out]) (by rw [hVp.out];simp)) rfl rfl uml omg (by simp;omega) ?_;intro A5 c5 w5 hown5 hg5 hat5 hb5;have hst5:Blk w5 p.d 198 (vf8 p A c D):=Blk.grown blq hg5 hAd;have hbx5:Blk w5 w.heap.size 205 S:=Blk.grown blq hg5 (fun e => by have:=hH.out.wa.lt _ (show (Value.slice A D.waits.length c).ownBlock=some w.heap.size by cases A with | none => cases e | some a => simpa [Value.ownBlock] using e);omega);have d54:w5.cell? ⟨p.d,4,none⟩=some (.slice A D.waits.length c):=hst5.cell 4;have f54:=hst5.frozen 4;refine hK.out _ _ (hbx5.range (n:=128) (by rw [List.drop_zero,List.take_of_length_le (by rw [hlb.out];omega)])) (fun hHeld => ?_);clear hK K;refine nmz ?_;refine tkS 10 ?_;refine tkS 11 ?_;refine on1 12 (fun K hK => ?_);go_simp;have hbx6:Blk (w5.setCell ⟨p.d,4,none⟩ (.slice A5 (D.waits.length+1) c5)) w.heap.size 205 S:=hbx5.far (by show w.heap.size≠p.d;omega) _;refine hK.out _ _ (hbx6.range (n:=128) (by rw [List.drop_zero,List.take_of_length_le (by rw [hlb.out];omega)])) (fun hHeld => ?_);clear hK K;refine nmz ?_;refine wpAnyH_done (by decide +kernel) ?_ _;have k5:Keep (fun g => A.map (·.block)=some g) w w5:=(((Keep.refl _ w).alloc _).alloc _).drewD.then_grown hg5 (fun g e => e);have h5:=hH.out.turnWaits k5 hown5 ⟨hk,hbl.out⟩ hw;have H5:=hdd h5;obtain ⟨e0,e1,e2,e3,e4,e5,e6,e7,e8⟩:=h5.cells;have hth:(w5.setCell ⟨p.d,4,none⟩ (.slice A5 (D.waits.length+1) c5)).there p.gn (k * 128) 128:=h5.bn.there (k * 128) 128 (by rw [List.length_map];have:=h5.ok.now;simp only at this;rw [this];omega);have em:=qm5 h5.bm k (by rw [h5.ok.might];exact hk);have fm:=h5.bm.frozen k;generalize hW6:w5.setCell ⟨p.d,4,none⟩ (.slice A5 (D.waits.length+1) c5)=w6 at *;have HW6:=hdd hW6;have fmH:=hdd fm;have emH:=hdd em;have hthH:=hdd hth;have hbx:Blk w6 w.heap.size 205 S:=hbx6;clear hW6 h5 d54 f54 fm em hth;simp only at e1 e3;go_wp2;refine wp_region_held_drew (S:=fun w' => w'.cell? ⟨p.d,1,none⟩=some (.slice (some ⟨p.gn,0,none⟩) D.many D.many)∧w'.cell? ⟨p.d,3,none⟩=some (.slice (some ⟨p.gm,0,none⟩) D.many D.many)∧w'.rangeAt w.heap.size 0 S) (by kernel_rfl) ⟨e1,e3,hbx.drew.range (n:=128) (by rw [List.drop_zero,List.take_of_length_le (by rw [hlb.out];omega)])⟩ (fun hHeld => ?_);refine tkS 0 ?_;refine tkS 1 ?_;refine tkS 2 ?_;refine tkS 3 ?_ (hy:=Or.inl ⟨by rfl,by (intro w hSw;(try dsimp only at hSw);obtain ⟨s1,s3,s5⟩:=hSw;go_simp;rfl)⟩);refine tkS 4 ?_;refine tkS 5 ?_;refine tkS 6 ?_;refine tkS 7 ?_;refine tkS 8 ?_ (hy:=Or.inl ⟨by rfl,by (intro w hSw;(try dsimp only at hSw);obtain ⟨s1,s3,s5⟩:=hSw;go_simp;rfl)⟩);refine tkS 9 ?_;refine wpAnyH_take (i:=10) (v:=_) rfl (by decide +kernel) (by decide +kernel) (by decide +kernel) (fun _ _ _ h => h) (yieldsIf_load_mid (by rfl) _ _ rfl _ _ rfl S _ (fun _ h => h.2.2) Tryz.underlying205 rfl (by rw [hlb.out];exact Hi.out)) (by assumption) ?_;refine nmz ?_;refine tkS 11 ?_;refine on1 12 (fun K hK => ?_);rw [if_pos (by rfl)]
      refine wp_store_mid 205 (.tmp 50) (.tmp 49) rfl p.gn (k * 128) S.toArray rfl rfl (by rw [List.size_toArray,hlb.out];exact (World.there_drew _ _ _ _).2 hthH.out) (by rw [List.size_toArray,hlb.out];exact Hi.out) (all_oneCell_toArray hsm.out) ?_;have hD:qa7 w6.drew base p A5 c5 { D with waits:=D.waits ++ [(k,b)] }:=H5.out.drewN 1;have hbn7:=Blk.setCells S (k * 128) w6.drew _ hD.bn (by rw [List.length_map,hlb.out];have:=H5.out.ok.now;simp only at this;rw [this];omega);have kn7:Keep (·=p.gn) w6.drew (w6.drew.setCells p.gn (k * 128) S):=Keep.one (qm9 _ _ _ _);rw [← HB.out,qv9] at hbn7;have h7:=qa7.turnNow (w':=w6.drew.setCells p.gn (k * 128) S) (l:=splice D.now (k * 128) b) hD kn7 (by rw [← HB.out];exact hbn7) (by rw [qj6 (by rw [H5.out.ok.now,hbl.out];simp only;omega)];exact H5.out.ok.now);have H7:=hdd h7;have hbx7:Blk (w6.drew.setCells p.gn (k * 128) S) w.heap.size 205 S:=hbx.drew.setCellsFar omg S (k * 128) _;have em7:=qm5 h7.bm k (by rw [h7.ok.might];exact hk);have fm7:=h7.bm.frozen k;have g1:=h7.cells.2.1;have g3:=h7.cells.2.2.2.1;simp only at g1 g3;simp only [List.toList_toArray];clear h7;generalize w6.drew.setCells p.gn (k * 128) S=w7 at *;refine hK.out _ _ (⟨g1,g3,hbx7.range (n:=128) (by rw [List.drop_zero,List.take_of_length_le (by rw [hlb.out];omega)])⟩) (fun hHeld => ?_);clear hK K;refine nmz ?_;refine tkS 13 ?_;refine on1 14 (fun K hK => ?_);go_simp;have h8:=H7.out.setMight k true;have hbx8:Blk (w7.setCell ⟨p.gm,k,none⟩ (.bool true)) w.heap.size 205 S:=hbx7.far (by show w.heap.size≠p.gm;omega) _;have g18:=h8.cells.2.1;have g38:=h8.cells.2.2.2.1;simp only at g18 g38;have H8:=hdd h8;clear h8;refine hK.out _ _ (⟨g18,g38,hbx8.range (n:=128) (by rw [List.drop_zero,List.take_of_length_le (by rw [hlb.out];omega)])⟩) (fun hHeld => ?_);clear hK K;refine nmz ?_;refine wpAnyH_done (by decide +kernel) ?_ _;have H8':Hid (qa7 (w7.setCell ⟨p.gm,k,none⟩ (.bool true)) base p A5 c5 (putD D (k:Int) b)):=H8.out;have k8:Keep (foot p A) w (w7.setCell ⟨p.gm,k,none⟩ (.bool true)):=by
        have a5:Keep (foot p A) w w6:=by rw [← HW6.out];exact (k5.mono (fun g _ e => .inr (.inr (.inr (.inr (.inr (.inr e))))))).set_ _ (.inl rfl)
        exact ((a5.drewD.trans kn7 (fun g _ e => .inr (.inr (.inl e)))).set_ _ (.inr (.inr (.inr (.inr (.inl rfl))))))
      generalize w7.setCell ⟨p.gm,k,none⟩ (.bool true)=w8 at *;obtain ⟨bb,hbb⟩:∃ bb,(D.cut == 0)=bb:=⟨_,rfl⟩;have hgo:Calls Tryz.prog 260 #[.pointer (some ⟨p.d,0,none⟩),.int .i64 2] w8 fun e w' => e=.returned (.bool bb)∧qa7 w' base p A5 c5 (qo3 (putD D (k:Int) b) 2)∧Keep (foot p A5) w8 w':=(vb7 H8'.out 2).mono fun e w' ⟨h1,h2,h3,_⟩ => ⟨by rw [h1,← hbb];rfl,h2,h3⟩
      have hnew:∀ g,A5.map (·.block)=some g→A.map (·.block)=some g∨w.heap.size≤g:=fun g e => by
        rcases hat5 with q | q
        · exact .inl (q ▸ e)
        · rw [q] at e;injection e with e;exact .inr (by rw [← e];simp;omega)
      have hG:∀ g,g<w.heap.size→foot p A5 g→foot p A g:=fun g hg e => by
        rcases e with e | e | e | e | e | e | e
        · exact .inl e
        · exact .inr (.inl e)
        · exact .inr (.inr (.inl e))
        · exact .inr (.inr (.inr (.inl e)))
        · exact .inr (.inr (.inr (.inr (.inl e))))
        · exact .inr (.inr (.inr (.inr (.inr (.inl e)))))
        · rcases hnew g e with q | q
          · exact .inr (.inr (.inr (.inr (.inr (.inr q)))))
          · omega
      have hret:Hid (cutE D=if bb=true then 50 else 0):=by
        show _=_
        unfold cutE;rw [← hbb]
        by_cases q:D.cut=0
        · rw [if_pos q,if_pos (by rw [q];rfl)]
        · rw [if_neg q,if_neg (by rw [beq_iff_eq];exact q)]
      clear hbb em7 fm7 g1 g3 g18 g38 e0 e1 e2 e3 e4 e5 e6 e7 e8
      cases bb
      all_goals
        go_wp2_with (first | ((go_at_call 260;(with_reducible refine (hgo).mono ?_);rintro e w9 ⟨rfl,h9,k9⟩);have H9:=hdd h9;clear h9) | fail "no arm");go_ret;exact vm2.mk (by rw [hret.out];rfl) H9.out (k8.trans k9 hG) hnew
    · have hl9:=hVl.out;go_simp;rw [vi7 V 0 _ (by rw [hl9];exact Nat.le_of_eq rfl),qc1 _ _ (by rw [hl9];rfl)];refine hK.out _ _ (fun j v hv => World.rangeAt_alloc hHeld _ j v hv) (fun hHeld => ?_);clear hK K;refine nmz ?_;refine on1 4 (fun K hK => ?_);go_simp;refine hK.out _ _ (hHeld) (fun hHeld => ?_);clear hK K;refine nmz ?_;refine on1 9 (fun K hK => ?_);refine ve5 rfl rfl vf6 qs5 (s:=.tmp 31) (N:=D.waits.length+1) (L:=D.waits ++ [(k,b)]) rfl (hH.out.waS.below (b:=w.heap.size) gwn nlr) rfl (k:=[(k,b)]) (RdS.of_cells (g:=w.heap.size+1) (cs:=V.toArray) (t:=207) (qd3 _ _ smp) (by simp [qi7,hbl.out]) (by rw [hVp.out];simp)) rfl rfl uml omg (by simp;omega) ?_;intro A5 c5 w5 hown5 hg5 hat5 hb5;have hst5:Blk w5 p.d 198 (vf8 p A c D):=Blk.grown blq hg5 hAd;have hbx5:Blk w5 w.heap.size 205 S:=Blk.grown blq hg5 (fun e => by have:=hH.out.wa.lt _ (show (Value.slice A D.waits.length c).ownBlock=some w.heap.size by cases A with | none => cases e | some a => simpa [Value.ownBlock] using e);omega);have d54:w5.cell? ⟨p.d,4,none⟩=some (.slice A D.waits.length c):=hst5.cell 4;have f54:=hst5.frozen 4;refine hK.out _ _ (hbx5.range (n:=128) (by rw [List.drop_zero,List.take_of_length_le (by rw [hlb.out];omega)])) (fun hHeld => ?_);clear hK K;refine nmz ?_;refine tkS 10 ?_;refine tkS 11 ?_;refine on1 12 (fun K hK => ?_);go_simp;have hbx6:Blk (w5.setCell ⟨p.d,4,none⟩ (.slice A5 (D.waits.length+1) c5)) w.heap.size 205 S:=hbx5.far (by show w.heap.size≠p.d;omega) _;refine hK.out _ _ (hbx6.range (n:=128) (by rw [List.drop_zero,List.take_of_length_le (by rw [hlb.out];omega)])) (fun hHeld => ?_);clear hK K;refine nmz ?_;refine wpAnyH_done (by decide +kernel) ?_ _;have k5:Keep (fun g => A.map (·.block)=some g) w w5:=(((Keep.refl _ w).alloc _).alloc _).drewD.then_grown hg5 (fun g e => e);have h5:=hH.out.turnWaits k5 hown5 ⟨hk,hbl.out⟩ hw;have H5:=hdd h5;obtain ⟨e0,e1,e2,e3,e4,e5,e6,e7,e8⟩:=h5.cells;have hth:(w5.setCell ⟨p.d,4,none⟩ (.slice A5 (D.waits.length+1) c5)).there p.gn (k * 128) 128:=h5.bn.there (k * 128) 128 (by rw [List.length_map];have:=h5.ok.now;simp only at this;rw [this];omega);have em:=qm5 h5.bm k (by rw [h5.ok.might];exact hk);have fm:=h5.bm.frozen k;generalize hW6:w5.setCell ⟨p.d,4,none⟩ (.slice A5 (D.waits.length+1) c5)=w6 at *;have HW6:=hdd hW6;have fmH:=hdd fm;have emH:=hdd em;have hthH:=hdd hth;have hbx:Blk w6 w.heap.size 205 S:=hbx6;clear hW6 h5 d54 f54 fm em hth;simp only at e1 e3;go_wp2;refine wp_region_held_drew (S:=fun w' => w'.cell? ⟨p.d,1,none⟩=some (.slice (some ⟨p.gn,0,none⟩) D.many D.many)∧w'.cell? ⟨p.d,3,none⟩=some (.slice (some ⟨p.gm,0,none⟩) D.many D.many)∧w'.rangeAt w.heap.size 0 S) (by kernel_rfl) ⟨e1,e3,hbx.drew.range (n:=128) (by rw [List.drop_zero,List.take_of_length_le (by rw [hlb.out];omega)])⟩ (fun hHeld => ?_);refine tkS 0 ?_;refine tkS 1 ?_;refine tkS 2 ?_;refine tkS 3 ?_ (hy:=Or.inl ⟨by rfl,by (intro w hSw;(try dsimp only at hSw);obtain ⟨s1,s3,s5⟩:=hSw;go_simp;rfl)⟩);refine tkS 4 ?_;refine tkS 5 ?_;refine tkS 6 ?_;refine tkS 7 ?_;refine tkS 8 ?_ (hy:=Or.inl ⟨by rfl,by (intro w hSw;(try dsimp only at hSw);obtain ⟨s1,s3,s5⟩:=hSw;go_simp;rfl)⟩);refine tkS 9 ?_;refine wpAnyH_take (i:=10) (v:=_) rfl (by decide +kernel) (by decide +kernel) (by decide +kernel) (fun _ _ _ h => h) (yieldsIf_load_mid (by rfl) _ _ rfl _ _ rfl S _ (fun _ h => h.2.2) Tryz.underlying205 rfl (by rw [hlb.out];exact Hi.out)) (by assumption) ?_;refine nmz ?_;refine tkS 11 ?_;refine on1 12 (fun K hK => ?_);rw [if_pos (by rfl)]
      refine wp_store_mid 205 (.tmp 50) (.tmp 49) rfl p.gn (k * 128) S.toArray rfl rfl (by rw [List.size_toArray,hlb.out];exact (World.there_drew _ _ _ _).2 hthH.out) (by rw [List.size_toArray,hlb.out];exact Hi.out) (all_oneCell_toArray hsm.out) ?_;have hD:qa7 w6.drew base p A5 c5 { D with waits:=D.waits ++ [(k,b)] }:=H5.out.drewN 1;have hbn7:=Blk.setCells S (k * 128) w6.drew _ hD.bn (by rw [List.length_map,hlb.out];have:=H5.out.ok.now;simp only at this;rw [this];omega);have kn7:Keep (·=p.gn) w6.drew (w6.drew.setCells p.gn (k * 128) S):=Keep.one (qm9 _ _ _ _);rw [← HB.out,qv9] at hbn7;have h7:=qa7.turnNow (w':=w6.drew.setCells p.gn (k * 128) S) (l:=splice D.now (k * 128) b) hD kn7 (by rw [← HB.out];exact hbn7) (by rw [qj6 (by rw [H5.out.ok.now,hbl.out];simp only;omega)];exact H5.out.ok.now);have H7:=hdd h7;have hbx7:Blk (w6.drew.setCells p.gn (k * 128) S) w.heap.size 205 S:=hbx.drew.setCellsFar omg S (k * 128) _;have em7:=qm5 h7.bm k (by rw [h7.ok.might];exact hk);have fm7:=h7.bm.frozen k;have g1:=h7.cells.2.1;have g3:=h7.cells.2.2.2.1;simp only at g1 g3;simp only [List.toList_toArray];clear h7;generalize w6.drew.setCells p.gn (k * 128) S=w7 at *;refine hK.out _ _ (⟨g1,g3,hbx7.range (n:=128) (by rw [List.drop_zero,List.take_of_length_le (by rw [hlb.out];omega)])⟩) (fun hHeld => ?_);clear hK K;refine nmz ?_;refine tkS 13 ?_;refine on1 14 (fun K hK => ?_);go_simp;have h8:=H7.out.setMight k true;have hbx8:Blk (w7.setCell ⟨p.gm,k,none⟩ (.bool true)) w.heap.size 205 S:=hbx7.far (by show w.heap.size≠p.gm;omega) _;have g18:=h8.cells.2.1;have g38:=h8.cells.2.2.2.1;simp only at g18 g38;have H8:=hdd h8;clear h8;refine hK.out _ _ (⟨g18,g38,hbx8.range (n:=128) (by rw [List.drop_zero,List.take_of_length_le (by rw [hlb.out];omega)])⟩) (fun hHeld => ?_);clear hK K;refine nmz ?_;refine wpAnyH_done (by decide +kernel) ?_ _;have H8':Hid (qa7 (w7.setCell ⟨p.gm,k,none⟩ (.bool true)) base p A5 c5 (putD D (k:Int) b)):=H8.out;have k8:Keep (foot p A) w (w7.setCell ⟨p.gm,k,none⟩ (.bool true)):=by
        have a5:Keep (foot p A) w w6:=by rw [← HW6.out];exact (k5.mono (fun g _ e => .inr (.inr (.inr (.inr (.inr (.inr e))))))).set_ _ (.inl rfl)
        exact ((a5.drewD.trans kn7 (fun g _ e => .inr (.inr (.inl e)))).set_ _ (.inr (.inr (.inr (.inr (.inl rfl))))))
      generalize w7.setCell ⟨p.gm,k,none⟩ (.bool true)=w8 at *;obtain ⟨bb,hbb⟩:∃ bb,(D.cut == 0)=bb:=⟨_,rfl⟩;have hgo:Calls Tryz.prog 260 #[.pointer (some ⟨p.d,0,none⟩),.int .i64 2] w8 fun e w' => e=.returned (.bool bb)∧qa7 w' base p A5 c5 (qo3 (putD D (k:Int) b) 2)∧Keep (foot p A5) w8 w':=(vb7 H8'.out 2).mono fun e w' ⟨h1,h2,h3,_⟩ => ⟨by rw [h1,← hbb];rfl,h2,h3⟩
      have hnew:∀ g,A5.map (·.block)=some g→A.map (·.block)=some g∨w.heap.size≤g:=fun g e => by
        rcases hat5 with q | q
        · exact .inl (q ▸ e)
        · rw [q] at e;injection e with e;exact .inr (by rw [← e];simp;omega)
      have hG:∀ g,g<w.heap.size→foot p A5 g→foot p A g:=fun g hg e => by
        rcases e with e | e | e | e | e | e | e
        · exact .inl e
        · exact .inr (.inl e)
        · exact .inr (.inr (.inl e))
        · exact .inr (.inr (.inr (.inl e)))
        · exact .inr (.inr (.inr (.inr (.inl e))))
        · exact .inr (.inr (.inr (.inr (.inr (.inl e)))))
        · rcases hnew g e with q | q
          · exact .inr (.inr (.inr (.inr (.inr (.inr q)))))
          · omega
      have hret:Hid (cutE D=if bb=true then 50 else 0):=by
        show _=_
        unfold cutE;rw [← hbb]
        by_cases q:D.cut=0
        · rw [if_pos q,if_pos (by rw [q];rfl)]
        · rw [if_neg q,if_neg (by rw [beq_iff_eq];exact q)]
      clear hbb em7 fm7 g1 g3 g18 g38 e0 e1 e2 e3 e4 e5 e6 e7 e8
      cases bb
      all_goals
        go_wp2_with (first | ((go_at_call 260;(with_reducible refine (hgo).mono ?_);rintro e w9 ⟨rfl,h9,k9⟩);have H9:=hdd h9;clear h9) | fail "no arm");go_ret;exact vm2.mk (by rw [hret.out];rfl) H9.out (k8.trans k9 hG) hnew
theorem qe9.same (h:qa7 w base p A c D) {w':World} (hb:Below w.heap.size w w'):qe9 w base p A D w':=⟨A,c,h.below hb,Keep.of_below hb,fun _ e => .inl e⟩
theorem write_no (h:qa7 w base p A c D) (n:Int) (b:List UInt8) (hn:mayV D n≠0) :
    Calls Tryz.prog 258 #[.pointer (some ⟨p.d,0,none⟩),.int .i64 n,aggB b] w fun e w' => e=.returned (.int .i64 (mayV D n))∧Below w.heap.size w w':=by
  have hmay:∀ o,Calls Tryz.prog 259 #[.pointer (some ⟨p.d,0,none⟩),.int .i64 n] (w.alloc o) fun e w' => e=.returned (.int .i64 (mayV D n))∧(w.alloc o)=w':=fun o => qz8 (h.alloc o) n
  have hne:(mayV D n != 0)=true:=by rw [bne_iff_ne];exact hn
  unfold aggB;generalize b.map bv=S at *;generalize mayV D n=z at *;clear h hn;go_enter Tryz.func258,Tryz.ntmps258;go_wp2_with (first | (go_at_call 259;(with_reducible refine (hmay _).mono ?_);rintro e w1 ⟨rfl,rfl⟩) | fail "no arm");go_ret;exact ⟨rfl,gwn⟩
theorem write_full (h:qa7 w base p A c D) (n:Int) (b:List UInt8) (hn:mayV D n=0) (hf:fullB D n=true) :
    Calls Tryz.prog 258 #[.pointer (some ⟨p.d,0,none⟩),.int .i64 n,aggB b] w fun e w' => e=.returned (.int .i64 52)∧Below w.heap.size w w':=by
  have hmay:∀ o,Calls Tryz.prog 259 #[.pointer (some ⟨p.d,0,none⟩),.int .i64 n] (w.alloc o) fun e w' => e=.returned (.int .i64 (mayV D n))∧(w.alloc o)=w':=fun o => qz8 (h.alloc o) n
  rw [hn] at hmay;obtain ⟨_,h0,h1⟩:=qz9 hn;obtain ⟨k,rfl⟩:∃ k:Nat,n=(k:Int):=⟨n.toNat,omg⟩;have hk:k<D.many:=omg;have hl8:=h.st.lt;have hl7:=h.bm.lt;have hleft:∀ o,Calls Tryz.prog 295 #[.pointer (some ⟨p.d,0,none⟩)] (w.alloc o) fun e w' => e=.returned (.int .i64 (D.room - (qu1 D.might:Nat)))∧(w.alloc o)=w':=fun o => left_any (h.alloc o)
  have cm:=qm5 h.bm k (by rw [h.ok.might];exact hk);have c3:=h.cells.2.2.2.1;unfold fullB at hf;rw [Int.toNat_natCast] at hf;unfold aggB;generalize b.map bv=S at *;clear h hn;generalize D.might.getD k false=mg at *
  cases mg with
  | true => simp at hf
  | false =>
    have hf':(D.room - ((qu1 D.might:Nat):Int) == 0)=true:=hf;generalize D.room - ((qu1 D.might:Nat):Int)=left at *;clear hf;go_enter Tryz.func258,Tryz.ntmps258;go_wp2_with (first | (go_at_call 259;(with_reducible refine (hmay _).mono ?_);rintro e w1 ⟨rfl,rfl⟩) | (go_at_call 295;(with_reducible refine (hleft _).mono ?_);rintro e w1 ⟨rfl,rfl⟩) | fail "no arm");go_ret;exact ⟨rfl,gwn⟩
theorem write_any (h:qa7 w base p A c D) (n:Int) (b:List UInt8) (hb:b.length=128) (hw:D.waits.length<1000000) (hbase:base≤w.heap.size) :
    Calls Tryz.prog 258 #[.pointer (some ⟨p.d,0,none⟩),.int .i64 n,aggB b] w fun e w' => e=.returned (.int .i64 (qk3 D n b).2)∧qe9 w base p A (qk3 D n b).1 w':=by
  unfold qk3
  by_cases hn:mayV D n=0
  · rw [if_neg omg]
    cases hf:fullB D n with
    | true =>
      rw [if_pos rfl];exact (write_full h n b hn hf).mono fun e w' ⟨h1,h2⟩ => ⟨h1,qe9.same h h2⟩
    | false =>
      rw [if_neg smp];exact write_ok h n b hb hn hf hw hbase
  · rw [if_pos hn];exact (write_no h n b hn).mono fun e w' ⟨h1,h2⟩ => ⟨h1,qe9.same h h2⟩
end
end Go.Proofs.YtmeebofhlilcmaaGreat
