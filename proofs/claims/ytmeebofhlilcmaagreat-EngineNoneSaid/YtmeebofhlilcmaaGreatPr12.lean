/- Parts: DiskE. -/
import Derived.Test.YtmeebofhlilcmaaGreatPr02
import Derived.Test.YtmeebofhlilcmaaGreatPr11
set_option linter.unusedVariables false
set_option linter.unusedSimpArgs false
set_option maxRecDepth 100000
set_option maxHeartbeats 40000000
namespace Go.Proofs.YtmeebofhlilcmaaGreat
open Go.RowKit
section
variable {w:World} {base:Nat} {p:qb9} {A:Option Addr} {c:Nat} {D:qa1}
theorem ve1:(Tryz.prog.info? 207).map (fun i => (i.zero,i.size))=some (some (.agg (qi7 (0,qa3)).toArray),129):=by kernel_rfl
theorem run_load_str {P:Program} {w:World} {g off n:Nat} {t ty:TypeId} {fs:Array Field} {cs xs:List Value} (hb:Blk w g t cs) (hu:P.underlying ty=some (.struct fs)) (hi:(P.info? ty).map (·.size)=some n)
    (hx:xs.length=n) (hat:(cs.drop off).take n=xs):(loadVar ty ⟨g,off,none⟩).run P w=.ok (.agg xs.toArray) w:=by
  have hl:(loadCells ⟨g,off,none⟩ xs.length).run P w=.ok xs.toArray w :=
    run_loadCells_list (P:=P) w ⟨g,off,none⟩ xs (fun j v hv => by
      have hadd:(⟨g,off,none⟩:Addr).add j=⟨g,off+j,none⟩:=by unfold Addr.add;split <;> simp_all
      have hj:j<xs.length:=by
        rcases Nat.lt_or_ge j xs.length with h | h
        · exact h
        · rw [List.getElem?_eq_none h] at hv;cases hv
      rw [hadd,hb.cell,← List.getElem?_drop];rw [← hat,List.getElem?_take,if_pos omg] at hv;exact hv)
  rw [hx] at hl
  cases hq:P.info? ty with
  | none => simp [hq] at hi
  | some i =>
    have hs:i.size=n:=by simpa [hq] using hi
    have hagg:(isAgg ty).run P w=.ok true w:=by
      unfold isAgg;rw [Sem.run_bind,run_underlying hu w]
      rfl
    simp [loadVar,Sem.run_bind,hagg,sizeOf,typeInfo,hq,hs,hl]
theorem wp_load_str {P:Program} {w:World} {o:Oper} {a:Act} {Q:Exit→Act→World→Prop} {K:Act→World→Prop} {ty:TypeId} {x:Operand} (ho:o.op=.load ty x) {g off n:Nat} (hx:a.eval x=.pointer (some ⟨g,off,none⟩)) {t:TypeId} {fs:Array Field} {cs xs:List Value} (hb:Blk w g t cs)
    (hu:P.underlying ty=some (.struct fs)) (hi:(P.info? ty).map (·.size)=some n) (hl:xs.length=n) (hat:(cs.drop off).take n=xs)
    (h:K (a.put o.dst (.agg xs.toArray)) w):o.wp P a w K Q:=by
  unfold Oper.wp execOp;simp only [ho,hx,Instr.loadAt,Instr.sureAddr,Sem.run_bind,Sem.run_pure,Result.andThen_ok,run_load_str hb hu hi hl hat];exact h
theorem qs7 {P:Program} {w:World} {ops:Array Oper} {rest:List Oper} {o:Oper} {a:Act} {Q:Exit→Act→World→Prop} (hgd:Region.wanted o (yielded ops a.tmps)=true) {ty:TypeId} {x:Operand} (ho:o.op=.load ty x) {g off n:Nat} (hx:a.eval x=.pointer (some ⟨g,off,none⟩)) {t:TypeId} {fs:Array Field} {cs xs:List Value} (hb:Blk w g t cs)
    (hu:P.underlying ty=some (.struct fs)) (hi:(P.info? ty).map (·.size)=some n) (hl:xs.length=n) (hat:(cs.drop off).take n=xs)
    (h:wpList P ops Q rest (a.put o.dst (.agg xs.toArray)) w):wpList P ops Q (o :: rest) a w :=
  wpList_step fun _ hK => by rw [if_pos hgd];exact wp_load_str ho hx hb hu hi hl hat (hK _ _ h)
theorem qa7.pieces (h:qa7 w base p A c D) (h0:0<D.waits.length):∃ ga cur,A=some ⟨ga,0,none⟩∧Blk w ga 207 cur∧cur.take (D.waits.length * 129)=vd1 D.waits∧foot p A ga:=by
  rcases h.wa.2 with ⟨_,hn⟩ | ⟨g,cap,cur,hv,hb,hg,hnc,hm,hs,ht⟩
  · omega
  · injection hv with hv;subst hv;exact ⟨g,cur.toList,rfl,by unfold Blk;rw [hg],ht,.inr (.inr (.inr (.inr (.inr (.inr rfl)))))⟩
theorem flat_piece:∀ (W:List (Nat × List UInt8)) (k:Nat),(∀ p ∈ W,p.2.length=128)→k<W.length→((vd1 W).drop (k * 129)).take 129=qi7 (qd2 W k):=by
  intro W
  induction W with
  | nil => intro k _ h;simp at h
  | cons x W ih =>
    intro k hp hk;have hx:(qi7 x).length=129:=qw2 x (hp x smp)
    cases k with
    | zero =>
      show ((qi7 x ++ vd1 W).drop (0 * 129)).take 129=qi7 x
      rw [Nat.zero_mul,List.drop_zero,List.take_append_of_le_length omg,List.take_of_length_le omg]
    | succ k =>
      show ((qi7 x ++ vd1 W).drop ((k+1) * 129)).take 129=qi7 (qd2 W k)
      rw [List.drop_append,hx,List.drop_of_length_le omg,List.nil_append,show (k+1) * 129 - 129=k * 129 by omega];exact ih k (fun p hp' => hp p (by simp [hp'])) (by simpa using hk)
theorem piece_at {cur:List Value} {W:List (Nat × List UInt8)} {k:Nat} (hc:cur.take (W.length * 129)=vd1 W) (hp:∀ p ∈ W,p.2.length=128) (hk:k<W.length):(cur.drop (k * 129)).take 129=qi7 (qd2 W k):=by
  rw [← flat_piece W k hp hk,← hc,List.drop_take,List.take_take]
  congr 1
  omega
theorem flush_no (h:qa7 w base p A c D) (hn:mayV D 0≠0):Calls Tryz.prog 201 #[.pointer (some ⟨p.d,0,none⟩)] w fun e w' => e=.returned (.int .i64 (mayV D 0))∧w=w':=by
  have hmay:=qz8 h 0;have hne:(mayV D 0 != 0)=true:=by rw [bne_iff_ne];exact hn
  generalize mayV D 0=z at *;clear h hn;go_enter Tryz.func201,Tryz.ntmps201;go_wp2_with (first | (go_at_call 259;(with_reducible refine (hmay).mono ?_);rintro e w1 ⟨rfl,rfl⟩) | fail "no arm");go_ret;exact ⟨rfl,rfl⟩
theorem flush_cut (h:qa7 w base p A c D) (hn:mayV D 0=0) (hc:D.cut=0):Calls Tryz.prog 201 #[.pointer (some ⟨p.d,0,none⟩)] w fun e w' => e=.returned (.int .i64 50)∧qa7 w' base p A c (qo3 D 3)∧Keep (foot p A) w w':=by
  have hmay:=qz8 h 0;rw [hn] at hmay;have hgo:Calls Tryz.prog 260 #[.pointer (some ⟨p.d,0,none⟩),.int .i64 3] w fun e w' => e=.returned (.bool true)∧qa7 w' base p A c (qo3 D 3)∧Keep (foot p A) w w':=(vb7 h 3).mono fun e w' ⟨h1,h2,h3,_⟩ => ⟨by rw [h1,hc];rfl,h2,h3⟩
  clear h hn hc;go_enter Tryz.func201,Tryz.ntmps201;go_wp2_with (first | (go_at_call 259;(with_reducible refine (hmay).mono ?_);rintro e w1 ⟨rfl,rfl⟩) | ((go_at_call 260;(with_reducible refine (hgo).mono ?_);rintro e w1 ⟨rfl,h9,k9⟩);have H9:=hdd h9;clear h9) | fail "no arm");go_ret;exact ⟨rfl,H9.out,k9⟩
def keepD (E:qa1) (k:Nat):qa1:={ E with kept:=(qu2 E.waits (E.kept,E.inuse) k).1,inuse:=(qu2 E.waits (E.kept,E.inuse) k).2 }
def FlPost (w:World) (base:Nat) (p:qb9) (A:Option Addr) (D':qa1) (e:Ending) (w':World):Prop:=e=.returned (.int .i64 0)∧qe9 w base p A D' w'
theorem qa7.noWaits (h:qa7 w base p A c D):qa7 (w.setCell ⟨p.d,4,none⟩ (.slice none 0 0)) base p none 0 { D with waits:=[] }:=by
  have k:Keep (·=p.d) w (w.setCell ⟨p.d,4,none⟩ (.slice none 0 0)):=Keep.one (qb5 _);obtain ⟨n1,n2,n3,n4,n5,n6⟩:=h.nd;refine ⟨⟨h.ok.many0,h.ok.many1,h.ok.kept,h.ok.now,h.ok.inuse,h.ok.might,fun p hp => (by cases hp),h.ok.room,h.ok.cut,(by show 0≤_;omega)⟩,?_,h.bk.keep k n1,h.bn.keep k n2,h.bi.keep k n3,h.bm.keep k n4,⟨h.mt.1,h.mt.2.keep k n5⟩,World.ownsRow_nil _ base _ _,h.ne1,h.ne2,fun g hg => ?_⟩
  · have:=h.st.set_ 4 (.slice none 0 0);unfold vf8 at this ⊢;simpa using this
  · rcases hg with e | e | e | e | e | e | e
    · exact h.bs g (.inl e)
    · exact h.bs g (.inr (.inl e))
    · exact h.bs g (.inr (.inr (.inl e)))
    · exact h.bs g (.inr (.inr (.inr (.inl e))))
    · exact h.bs g (.inr (.inr (.inr (.inr (.inl e)))))
    · exact h.bs g (.inr (.inr (.inr (.inr (.inr (.inl e))))))
    · cases e
theorem flush_ok (h:qa7 w base p A c D) (hn:mayV D 0=0) (hc:D.cut≠0):Calls Tryz.prog 201 #[.pointer (some ⟨p.d,0,none⟩)] w (FlPost w base p A (vf5 (qo3 D 3))):=by
  have hmay:=qz8 h 0;rw [hn] at hmay;have hgo:Calls Tryz.prog 260 #[.pointer (some ⟨p.d,0,none⟩),.int .i64 3] w fun e w' => e=.returned (.bool false)∧qa7 w' base p A c (qo3 D 3)∧Keep (foot p A) w w':=(vb7 h 3).mono fun e w' ⟨h1,h2,h3,_⟩ => ⟨by rw [h1,show (D.cut == 0)=false from by rw [beq_eq_false_iff_ne];exact hc],h2,h3⟩
  clear h hn hc;generalize qo3 D 3=E at *;have hz:=(zero_of_info ve1).1;have HiP:=hdd (zero_of_info ve1).2;have Hi:=hdd (zero_of_info qe1).2;have hZl:Hid ((qi7 (0,qa3)).length=129):=qw2 _ qc0;generalize qi7 (0,qa3)=Zp at *;go_enter Tryz.func201,Tryz.ntmps201;go_wp2_with (first | (go_at_call 259;(with_reducible refine (hmay).mono ?_);rintro e w1 ⟨rfl,rfl⟩) | ((go_at_call 260;(with_reducible refine (hgo).mono ?_);rintro e w1 ⟨rfl,h9,k9⟩);have H9:=hdd h9;have c4:w1.cell? ⟨p.d,4,none⟩=some (.slice A E.waits.length c):=h9.cells.2.2.2.2.1;clear h9) | fail "no arm");have hle:=H9.out.ok.few;go_loopw [18] (fun i wr => ∃ k:Nat,k≤E.waits.length∧i=.int .i64 (k:Nat)∧qa7 wr base p A c (keepD E k)∧Keep (foot p A) w wr) (fun i _ => E.waits.length - (intOf i).toNat)
  case atStart => exact ⟨0,omg,rfl,H9.out,k9⟩
  case round =>
    obtain ⟨k,hk,rfl,hX,kw⟩:=hrel
    by_cases hlt:k<E.waits.length
    · obtain ⟨x1,x2⟩:=qw3 H9.out.ok hlt;obtain ⟨ga,cur,hA,hcur,htake,hfoot⟩:=hX.pieces (by show 0<E.waits.length;omega);have hxat:=hdd (piece_at (W:=E.waits) htake (fun p hp => (H9.out.ok.waits p hp).2) hlt);have hVone:=hdd (qs5 (qd2 E.waits k));have hVl:=hdd (qw2 (qd2 E.waits k) x2);have hVS:Hid (qi7 (qd2 E.waits k)=.int .i64 ((qd2 E.waits k).1:Int) :: (qd2 E.waits k).2.map bv):=rfl;have hnx:Hid (keepD E (k+1)={ keepD E k with kept:=splice (keepD E k).kept ((qd2 E.waits k).1 * 128) (qd2 E.waits k).2,inuse:=(keepD E k).inuse.set (qd2 E.waits k).1 true }):=rfl;have hm1:(keepD E k).many=E.many:=rfl;have hl1:=hX.st.lt;have hfl:=fun g hg => hX.lt g hg
      have HX:=hdd hX;have hks:=kw.size;clear hX htake;rw [← hm1] at x1;have HM:=hdd hm1;clear hm1;have hsm:Hid (∀ v ∈ (qd2 E.waits k).2.map bv,v.oneCell'=true):=qk1;have hSl:Hid (((qd2 E.waits k).2.map bv).length=128):=by show _=_;rw [List.length_map];exact x2
      have HS:Hid ((qd2 E.waits k).2.map bv=(qd2 E.waits k).2.map bv):=rfl;generalize hV:qi7 (qd2 E.waits k)=V at *;generalize hxx:qd2 E.waits k=x at *;obtain ⟨m,bs⟩:=x;simp only at x1 x2 hVS hnx hsm hSl HS;generalize keepD E k=F at *;have hmI:(m:Int)<F.many:=omg;have hb2l:=hdd x2;clear x2 hxx hV;subst hA;go_wp2_with (first | (refine qs7 rfl (x:=.tmp 20) rfl rfl hcur Tryz.underlying207 HiP.out hVl.out hxat.out ?_) | (refine qb2 rfl (x:=.tmp 5) (y:=.tmp 21) rfl rfl rfl (t:=207) (cs:=Zp) (xs:=V) (Blk.top _ rfl rfl) HiP.out hVl.out (by rw [hZl.out];omega) hVone.out ?_;intro w2 hb2 hg2 hs2;rw [qc1 _ _ (hZl.out.trans hVl.out.symm)] at hb2;have H2:=hdd ((HX.out.alloc (.cells Zp.toArray 207)).keep (F:=(·=wr.heap.size)) (Keep.one hg2) (fun g hg e => by have:=hfl g hg;omega));have HB2:=hdd hb2) | fail "no arm")
      try simp only [Act.put]
      obtain ⟨e0,-,e2,-⟩:=H2.out.cells;have t0:w2.cell? ⟨wr.heap.size,0,none⟩=some (.int .i64 (m:Int)):=by rw [HB2.out.cell,hVS.out];rfl
      have hrng:w2.rangeAt wr.heap.size 1 (bs.map bv):=HB2.out.range (n:=128) (by rw [hVS.out,List.drop_succ_cons,List.drop_zero,List.take_of_length_le (by rw [hSl.out];omega)]);have hth:=hdd (H2.out.bk.there (m * 128) 128 (by rw [List.length_map];have:=H2.out.ok.kept;omega));have hgt1:wr.heap.size≠p.gk:=fun e => by have:=hfl p.gk (.inr (.inl rfl));omega
      have hgt2:wr.heap.size≠p.gi:=fun e => by have:=hfl p.gi (.inr (.inr (.inr (.inl rfl))));omega
      clear hb2 hcur hxat
      refine wp_region_held_drew (S:=fun w' => w'.cell? ⟨p.d,0,none⟩=some (.slice (some ⟨p.gk,0,none⟩) F.many F.many)∧w'.cell? ⟨p.d,2,none⟩=some (.slice (some ⟨p.gi,0,none⟩) F.many F.many)∧w'.cell? ⟨wr.heap.size,0,none⟩=some (.int .i64 (m:Int))∧w'.rangeAt wr.heap.size 1 (bs.map bv)) (by kernel_rfl) ⟨e0,e2,t0,fun j v hv => hrng j v hv⟩ (fun hHeld => ?_);clear e0 e2 t0;refine tkS 0 ?_;refine tkS 1 ?_;refine tkS 2 ?_;refine tkS 3 ?_ (hy:=Or.inl ⟨by rfl,by (intro w hSw;(try dsimp only at hSw);obtain ⟨s1,s2,s3,s4⟩:=hSw;go_simp;rfl)⟩);refine tkS 4 ?_;refine tkS 5 ?_ (hy:=Or.inl ⟨by rfl,by (intro w hSw;(try dsimp only at hSw);obtain ⟨s1,s2,s3,s4⟩:=hSw;go_simp;rfl)⟩);refine tkS 6 ?_;refine tkS 7 ?_;refine tkS 8 ?_;refine tkS 9 ?_ (hy:=Or.inl ⟨by rfl,by (intro w hSw;(try dsimp only at hSw);obtain ⟨s1,s2,s3,s4⟩:=hSw;go_simp;rfl)⟩);refine tkS 10 ?_;refine tkS 11 ?_ (hy:=Or.inl ⟨by rfl,by (intro w hSw;(try dsimp only at hSw);obtain ⟨s1,s2,s3,s4⟩:=hSw;go_simp;rfl)⟩);refine tkS 12 ?_;refine wpAnyH_take (i:=13) (v:=_) rfl (by decide +kernel) (by decide +kernel) (by decide +kernel) (fun _ _ _ h => h) (yieldsIf_load_mid (by rfl) _ _ rfl _ _ rfl (bs.map bv) _ (fun _ h => h.2.2.2) Tryz.underlying205 rfl (by rw [hSl.out];exact Hi.out)) (by assumption) ?_;refine nmz ?_;refine tkS 14 ?_;refine on1 15 (fun K hK => ?_);rw [if_pos (by rfl)];refine wp_store_mid 205 (.tmp 36) (.tmp 35) rfl p.gk (m * 128) (bs.map bv).toArray rfl rfl (by rw [List.size_toArray,hSl.out];exact (World.there_drew _ _ _ _).2 hth.out) (by rw [List.size_toArray,hSl.out];exact Hi.out) (all_oneCell_toArray hsm.out) ?_;have hD:qa7 w2.drew base p (some ⟨ga,0,none⟩) c F:=H2.out.drewN 1;have hbk7:=Blk.setCells (bs.map bv) (m * 128) w2.drew _ hD.bk (by rw [hSl.out,List.length_map];have:=H2.out.ok.kept;omega);have kk7:Keep (·=p.gk) w2.drew (w2.drew.setCells p.gk (m * 128) (bs.map bv)):=Keep.one (qm9 _ _ _ _);rw [qv9] at hbk7;have h7:=qa7.turnKept (w':=w2.drew.setCells p.gk (m * 128) (bs.map bv)) (l:=splice F.kept (m * 128) bs) hD kk7 hbk7 (by rw [qj6 (by rw [H2.out.ok.kept,hb2l.out];omega)];exact H2.out.ok.kept);have H7:=hdd h7;have hbx7:Blk (w2.drew.setCells p.gk (m * 128) (bs.map bv)) wr.heap.size 207 V:=HB2.out.drew.setCellsFar hgt1 (bs.map bv) (m * 128) _;have hcm:m<F.inuse.length:=by rw [HX.out.ok.inuse];exact x1
      have em7:=qm5 h7.bi m hcm;have fm7:=h7.bi.frozen m;obtain ⟨g0,-,g2,-⟩:=h7.cells;simp only at g0 g2;have gt0:(w2.drew.setCells p.gk (m * 128) (bs.map bv)).cell? ⟨wr.heap.size,0,none⟩=some (.int .i64 (m:Int)):=by rw [hbx7.cell,hVS.out];rfl
      have hrng7:(w2.drew.setCells p.gk (m * 128) (bs.map bv)).rangeAt wr.heap.size 1 (bs.map bv):=hbx7.range (n:=128) (by rw [hVS.out,List.drop_succ_cons,List.drop_zero,List.take_of_length_le (by rw [hSl.out];omega)]);have kA:Keep (foot p (some ⟨ga,0,none⟩)) w (w2.drew.setCells p.gk (m * 128) (bs.map bv)):=((kw.alloc (.cells Zp.toArray 207)).trans (G:=(·=wr.heap.size)) (Keep.one hg2) (fun g hg e => by omega)).drewD.trans kk7 (fun g _ e => .inr (.inl e));simp only [List.toList_toArray];clear h7 hbk7 kk7 hD hth hrng hHeld;generalize w2.drew.setCells p.gk (m * 128) (bs.map bv)=w7 at *;refine hK.out _ _ (⟨g0,g2,gt0,hrng7⟩) (fun hHeld => ?_);clear hK K;refine nmz ?_;refine tkS 16 ?_;refine on1 17 (fun K hK => ?_);go_simp;have h8:=H7.out.setIn m true;have hbx8:Blk (w7.setCell ⟨p.gi,m,none⟩ (.bool true)) wr.heap.size 207 V:=hbx7.far (by exact hgt2) _;obtain ⟨q0,-,q2,-⟩:=h8.cells;simp only at q0 q2;have qt0:(w7.setCell ⟨p.gi,m,none⟩ (.bool true)).cell? ⟨wr.heap.size,0,none⟩=some (.int .i64 (m:Int)):=by rw [hbx8.cell,hVS.out];rfl
      have H8:=hdd h8;clear h8;refine hK.out _ _ (⟨q0,q2,qt0,hbx8.range (n:=128) (by rw [hVS.out,List.drop_succ_cons,List.drop_zero,List.take_of_length_le (by rw [hSl.out];omega)])⟩) (fun hHeld => ?_);clear hK K;refine nmz ?_;refine wpAnyH_done (by decide +kernel) ?_ _;go_wp2;go_roundw
      case rel => exact ⟨k+1,omg,by go_num,by rw [hnx.out];exact H8.out,kA.set_ _ (.inr (.inr (.inr (.inl rfl))))⟩
      case measure => simp [intOf];omega
    · have hk9:k=E.waits.length:=omg;subst hk9;have f4:=hX.st.frozen 4;have c4':wr.cell? ⟨p.d,4,none⟩=some (.slice A E.waits.length c):=hX.cells.2.2.2.2.1;have HX:=hdd hX;clear hX;go_wp2;go_ret;exact ⟨rfl,none,0,HX.out.noWaits,kw.set_ _ (.inl rfl),fun g e => by cases e⟩
theorem flush_any (h:qa7 w base p A c D):Calls Tryz.prog 201 #[.pointer (some ⟨p.d,0,none⟩)] w fun e w' => e=.returned (.int .i64 (qb0 D).2)∧qe9 w base p A (qb0 D).1 w':=by
  unfold qb0
  by_cases hn:mayV D 0=0
  · rw [if_neg omg]
    by_cases hc:D.cut=0
    · rw [if_pos hc];exact (flush_cut h hn hc).mono fun e w' ⟨h1,h2,h3⟩ => ⟨h1,A,c,h2,h3,fun _ e => .inl e⟩
    · rw [if_neg hc];exact flush_ok h hn hc
  · rw [if_pos hn];exact (flush_no h hn).mono fun e w' ⟨h1,h2⟩ => ⟨h1,by subst h2;exact ⟨A,c,h,Keep.refl _ _,fun _ e => .inl e⟩⟩
end
end Go.Proofs.YtmeebofhlilcmaaGreat
