/- Parts: DiskJ, DiskI, DiskL, AreaA, AreaB. -/
import Derived.Test.YtmeebofhlilcmaaGreatPr10
import Derived.Test.YtmeebofhlilcmaaGreatPr14
import Derived.Test.YtmeebofhlilcmaaGreatPr13
import Derived.Test.YtmeebofhlilcmaaGreatPr01
import Derived.Test.YtmeebofhlilcmaaGreatPr02
set_option linter.unusedVariables false
set_option linter.unusedSimpArgs false
set_option maxRecDepth 100000
set_option maxHeartbeats 40000000
namespace Go.Proofs.YtmeebofhlilcmaaGreat
open Go.RowKit
theorem qa7.belowK {w w':World} {base:Nat} {p:qb9} {A:Option Addr} {c:Nat} {D:qa1} (h:qa7 w base p A c D) (k:Keep (foot p A) w w') (hb:base≤w.heap.size):Below base w w':=k.below h.bs hb
section
variable {w:World} {base:Nat} {p:qb9} {A:Option Addr} {c:Nat} {D:qa1}
theorem qx7 {P:Program} {t e:TypeId} {n:Nat} (hu:P.underlying t=some (.array n e)) (hs:(P.info? e).map (·.size)=some 1) (g o:Nat) (W:World) :
    (Instr.sliceAt t (.pointer (some ⟨g,o,none⟩)) none none none).run P W=.ok (.slice (some ⟨g,o,none⟩) n n) W:=by
  have e1:P.arrayLen t=n:=by unfold Program.arrayLen;rw [hu]
  have e2:P.elem t=e:=by unfold Program.elem;rw [hu]
  cases hq:P.info? e with
  | none => simp [hq] at hs
  | some i =>
    have hsz:i.size=1:=by simpa [hq] using hs
    rw [run_sliceAt_array_all W t ⟨g,o,none⟩ (by rw [e1,e2];exact hu),e2,e1];have hso:(sizeOf e).run P W=.ok 1 W:=by simp [sizeOf,typeInfo,hq,hsz]
    have hadd:(⟨g,o,none⟩:Addr).add 0=⟨g,o,none⟩:=by simp [Addr.add]
    rw [hso];simp [slicedAt,hadd]
end
section
variable {w w':World} {base:Nat} {p:qb9} {A:Option Addr} {c:Nat} {D:qa1}
theorem qa7.foot_ty (h:qa7 w base p A c D) {g:Nat} {t:TypeId} {cs:List Value} (hb:Blk w g t cs) (hg:foot p A g):t=198∨t=205∨t=4∨t=300∨t=207:=by
  have ty:∀ {t':TypeId} {cs':List Value},Blk w g t' cs'→t=t':=fun h' => by
    unfold Blk at hb h';rw [hb] at h';injection h' with h';injection h' with _ ht
  rcases hg with rfl | rfl | rfl | rfl | rfl | rfl | hg
  · exact .inl (ty h.st)
  · exact .inr (.inl (ty h.bk))
  · exact .inr (.inl (ty h.bn))
  · exact .inr (.inr (.inl (ty h.bi)))
  · exact .inr (.inr (.inl (ty h.bm)))
  · exact .inr (.inr (.inr (.inl (ty h.mt.2))))
  · rcases h.wa.2 with ⟨hv,_⟩ | ⟨g',cap,cur,hv,_,hh,_⟩
    · injection hv with hv;subst hv;cases hg
    · injection hv with hv;subst hv;simp only [Option.map_some,Option.some.injEq] at hg;subst hg;exact .inr (.inr (.inr (.inr (ty (cs':=cur.toList) (by unfold Blk;rw [hh])))))
end
def qa5 (w:World) (base:Nat) (p:qb9) (D:qa1):Prop:=∃ A c,qa7 w base p A c D
theorem qe9.s {w w':World} {base:Nat} {p:qb9} {A:Option Addr} {D:qa1} (h:qe9 w base p A D w'):qa5 w' base p D:=by
  obtain ⟨A',c',h,_⟩:=h;exact ⟨A',c',h⟩
theorem qa7.s {w:World} {base:Nat} {p:qb9} {A:Option Addr} {c:Nat} {D:qa1} (h:qa7 w base p A c D):qa5 w base p D:=⟨A,c,h⟩
theorem qa5.below {w w':World} {base:Nat} {p:qb9} {D:qa1} (h:qa5 w base p D) (hb:Below w.heap.size w w'):qa5 w' base p D:=by
  obtain ⟨A,c,h⟩:=h;exact ⟨A,c,h.below hb⟩
def qa8 (w:World) (ga d f m:Nat):Prop:=Blk w ga 289 [.pointer (some ⟨d,0,none⟩),.int .i64 (f:Int),.int .i64 (m:Int)]
def qt2 (D:qa1) (n:Int):qa1 × List UInt8 × Int:=if mayV D n≠0 then (D,qa3,mayV D n) else (qj0 D,qf1 D.now n,0)
theorem vk3 {D:qa1} (h:D.Ok) (n:Int):(qt2 D n).2.1.length=128:=by
  unfold qt2
  split
  · exact qc0
  · rename_i hm;obtain ⟨_,h0,h1⟩:=qz9 (D:=D) (n:=n) omg;exact ql9 h.now h0 h1
section
variable {w w':World} {base ga f m:Nat} {p:qb9} {A:Option Addr} {c:Nat} {D:qa1}
theorem qa8.below {d:Nat} (h:qa8 w ga d f m) (hb:Below w.heap.size w w'):qa8 w' ga d f m:=Blk.below h hb h.lt
theorem qa8.keep {d:Nat} {F:Nat→Prop} (h:qa8 w ga d f m) (k:Keep F w w') (hF:¬ F ga):qa8 w' ga d f m:=Blk.keep h k hF
theorem qa8.notFoot {d:Nat} (h:qa8 w ga d f m) (hd:qa7 w base p A c D):¬ foot p A ga:=fun e => by
  rcases hd.foot_ty h e with q | q | q | q | q <;> exact absurd q dcd
theorem qa8.spares {d:Nat} (h:qa8 w ga d f m) (hd:qa7 w base p A c D) (k:Keep (foot p A) w w'):qa8 w' ga d f m:=h.keep k (h.notFoot hd)
theorem dread_any (h:qa7 w base p A c D) (n:Int):Calls Tryz.prog 236 #[.pointer (some ⟨p.d,0,none⟩),.int .i64 n] w fun e w' =>
    e=.returned (.tuple #[aggB (qt2 D n).2.1,.int .i64 (qt2 D n).2.2])∧qa7 w' base p A c (qt2 D n).1∧Keep (foot p A) w w':=by
  unfold qt2
  by_cases hn:mayV D n=0
  · rw [if_neg omg];exact read_yes h n hn
  · rw [if_pos hn];exact (read_no h n hn).mono fun e w' ⟨h1,h2⟩ => ⟨h1,h.below h2,Keep.of_below h2⟩
theorem qo9 {d:Nat} (h:qa8 w ga d f m):Calls Tryz.prog 113 #[.pointer (some ⟨ga,0,none⟩)] w fun e w' => e=.returned (.int .i64 (m:Nat))∧w=w':=by
  have c2:w.cell? ⟨ga,2,none⟩=some (.int .i64 (m:Int)):=Blk.cell h 2;clear h;go_enter Tryz.func113,Tryz.ntmps113;go_wp2;go_ret;exact ⟨rfl,rfl⟩
/-! 'at' within the area: what the closure does at the disk's sector. -/
theorem at_read {d:Nat} {x1 x2:Value} {R:Int→World→Prop} (h:qa8 w ga d f m) (n:Int) (h0:0≤n) (h1:n<m) (hfm:f+m≤4096)
    (hF:Calls Tryz.prog 235 #[.int .i64 ((f:Int)+n),x1,x2] w (fun e w' => ∃ z,e=.returned (.int .i64 z)∧R z w')) :
    Calls Tryz.prog 234 #[.pointer (some ⟨ga,0,none⟩),.int .i64 n,.func (.func 235) #[] #[x1,x2]] w fun e w' => ∃ z,e=.returned (.int .i64 z)∧R z w':=by
  have c0:w.cell? ⟨ga,0,none⟩=some (.pointer (some ⟨d,0,none⟩)):=Blk.cell h 0;have c1:w.cell? ⟨ga,1,none⟩=some (.int .i64 (f:Int)):=Blk.cell h 1;have c2:w.cell? ⟨ga,2,none⟩=some (.int .i64 (m:Int)):=Blk.cell h 2;clear h;go_enter Tryz.func234,Tryz.ntmps234;go_wp2_with (first | ((go_at_call 235;(with_reducible refine (hF).mono ?_);rintro e w2 ⟨z,rfl,hR⟩)) | fail "no arm");go_ret;exact ⟨z,rfl,hR⟩
theorem at_write {d:Nat} {x1 x2:Value} {R:Int→World→Prop} (h:qa8 w ga d f m) (n:Int) (h0:0≤n) (h1:n<m) (hfm:f+m≤4096)
    (hF:Calls Tryz.prog 257 #[.int .i64 ((f:Int)+n),x1,x2] w (fun e w' => ∃ z,e=.returned (.int .i64 z)∧R z w')) :
    Calls Tryz.prog 234 #[.pointer (some ⟨ga,0,none⟩),.int .i64 n,.func (.func 257) #[] #[x1,x2]] w fun e w' => ∃ z,e=.returned (.int .i64 z)∧R z w':=by
  have c0:w.cell? ⟨ga,0,none⟩=some (.pointer (some ⟨d,0,none⟩)):=Blk.cell h 0;have c1:w.cell? ⟨ga,1,none⟩=some (.int .i64 (f:Int)):=Blk.cell h 1;have c2:w.cell? ⟨ga,2,none⟩=some (.int .i64 (m:Int)):=Blk.cell h 2;clear h;go_enter Tryz.func234,Tryz.ntmps234;go_wp2_with (first | ((go_at_call 257;(with_reducible refine (hF).mono ?_);rintro e w2 ⟨z,rfl,hR⟩)) | fail "no arm");go_ret;exact ⟨z,rfl,hR⟩
theorem at_out {d k:Nat} {caps:Array Value} (h:qa8 w ga d f m) (n:Int) (hn:n<0∨(m:Int)≤n) :
    Calls Tryz.prog 234 #[.pointer (some ⟨ga,0,none⟩),.int .i64 n,.func (.func k) #[] caps] w fun e w' => e=.returned (.int .i64 51)∧w=w':=by
  have c0:w.cell? ⟨ga,0,none⟩=some (.pointer (some ⟨d,0,none⟩)):=Blk.cell h 0;have c2:w.cell? ⟨ga,2,none⟩=some (.int .i64 (m:Int)):=Blk.cell h 2;clear h;have hc:n<0∨(0≤n∧(m:Int)≤n):=omg;clear hn;rcases hc with h1 | ⟨h1,h2⟩
  all_goals
    go_enter Tryz.func234,Tryz.ntmps234;go_wp2;go_ret;exact ⟨rfl,rfl⟩
end
def qb4 (D:qa1) (f m:Nat) (n:Int):qa1 × List UInt8 × Int:=if n<0∨(m:Int)≤n then (D,qa3,51) else qt2 D ((f:Int)+n)
def qa9 (D:qa1) (f m:Nat) (n:Int) (b:List UInt8):qa1 × Int:=if n<0∨(m:Int)≤n then (D,51) else qk3 D ((f:Int)+n) b
section
variable {w w':World} {base ga f m:Nat} {p:qb9} {A:Option Addr} {c:Nat} {D:qa1}
theorem aReadV_len (h:D.Ok) (n:Int):(qb4 D f m n).2.1.length=128:=by
  unfold qb4
  split
  · exact qc0
  · exact vk3 h _
theorem read1_any {g2 g6:Nat} (h:qa7 w base p A c D) (ha:qa8 w ga p.d f m) (hbox:Blk w g2 188 [.pointer (some ⟨ga,0,none⟩)]) {Z:List UInt8} (hx:BlkB w g6 205 Z) (hZ:Z.length=128) (hnf:¬ foot p A g6) (n:Int) :
    Calls Tryz.prog 235 #[.int .i64 n,.pointer (some ⟨g2,0,none⟩),.pointer (some ⟨g6,0,none⟩)] w fun e w' => ∃ z,e=.returned (.int .i64 z) ∧
      (z=(qt2 D n).2.2∧qa7 w' base p A c (qt2 D n).1∧BlkB w' g6 205 (qt2 D n).2.1∧Keep (fun g => foot p A g∨g=g6) w w'):=by
  have Hi:=hdd (zero_of_info qe1).2;have hl:=vk3 h.ok n;have hrd:=dread_any h n;generalize qt2 D n=R at *;obtain ⟨D',S,z⟩:=R;simp only at hl hrd ⊢;have c0:w.cell? ⟨g2,0,none⟩=some (.pointer (some ⟨ga,0,none⟩)):=hbox.cell 0;have c1:w.cell? ⟨ga,0,none⟩=some (.pointer (some ⟨p.d,0,none⟩)):=Blk.cell ha 0;have hsl:Hid ((S.map bv).length=128):=by show _=_;rw [List.length_map,hl]
  have hsm:=hdd (qk1 (l:=S));have hzl:Hid ((Z.map bv).length=128):=by show _=_;rw [List.length_map,hZ]
  have HX:=hdd hx;have H:=hdd h;unfold aggB at hrd;unfold BlkB at HX ⊢;generalize S.map bv=SV at *;clear h ha hbox hx hl hZ;go_enter Tryz.func235,Tryz.ntmps235;go_wp2_with (first | ((go_at_call 236;(with_reducible refine (hrd).mono ?_);rintro e w1 ⟨rfl,h1,k1⟩);have hx1:=HX.out.keep k1 hnf;have H1:=hdd h1;clear h1) | (refine qb2 rfl (x:=.tmp 2) (y:=.tmp 12) rfl rfl rfl hx1 Hi.out hsl.out (by rw [hzl.out];omega) hsm.out ?_;intro w2 hb2 hg2 hs2;rw [qc1 _ _ (hzl.out.trans hsl.out.symm)] at hb2) | fail "no arm");go_ret;exact ⟨z,rfl,rfl,H1.out.keep (F:=(·=g6)) (Keep.one hg2) (fun g hg e => hnf (e ▸ hg)),hb2,(k1.mono (fun g _ hg => .inl hg)).trans (G:=(·=g6)) (Keep.one hg2) (fun g _ e => .inr e)⟩
theorem aread_any (h:qa7 w base p A c D) (ha:qa8 w ga p.d f m) (hfm:f+m≤D.many) (n:Int) :
    Calls Tryz.prog 162 #[.pointer (some ⟨ga,0,none⟩),.int .i64 n] w fun e w' => e=.returned (.tuple #[aggB (qb4 D f m n).2.1,.int .i64 (qb4 D f m n).2.2])∧qa7 w' base p A c (qb4 D f m n).1∧Keep (foot p A) w w':=by
  have hz:=(zero_of_info qe1).1;have Hi:=hdd (zero_of_info qe1).2;have hlz:Hid ((qa3.map bv).length=128):=by show _=_;simp [qc0]
  have HZm:=hdd (qk1 (l:=qa3));have hfm4:f+m≤4096:=by have:=h.ok.many1;omega
  have hl4:=hdd (fun g hg => h.lt g hg);have H:=hdd h;have HA:=hdd ha;unfold qb4
  by_cases hn:n<0∨(m:Int)≤n
  · rw [if_pos hn];simp only;have hout:=fun o1 o2 o3 => at_out (k:=235) (caps:=#[.pointer (some ⟨w.heap.size,0,none⟩),.pointer (some ⟨w.heap.size+2,0,none⟩)]) (((ha.below ((Below.refl _ _).alloc nlr o1)).below ((Below.refl _ _).alloc nlr o2)).below ((Below.refl _ _).alloc nlr o3)) n hn
    unfold aggB at *;generalize qa3.map bv=Z at *;clear h ha hn;go_enter Tryz.func162,Tryz.ntmps162;go_wp2_with (first | (go_at_call 234;(with_reducible refine (hout _ _ _).mono ?_);rintro e w1 ⟨rfl,rfl⟩) | (refine qb8 rfl (x:=.tmp 6) rfl rfl (t:=205) (cs:=Z) blq Tryz.underlying205 Hi.out hlz.out (xs:=Z) (by rw [List.drop_zero,List.take_of_length_le (by rw [hlz.out];omega)]) ?_) | (refine qb2 rfl (x:=.tmp 4) (y:=.tmp 12) rfl rfl rfl (t:=205) (cs:=Z) (xs:=Z) blq Hi.out hlz.out (by rw [hlz.out];omega) HZm.out ?_;intro w2 hb2 hg2 hs2;rw [qc1 _ _ rfl] at hb2) | fail "no arm");refine bodyPost_ret (v:=.tuple #[.agg Z.toArray,.int .i64 51]) (qi6 Tryz.results162 _ rfl rfl hb2 Tryz.underlying205 Hi.out hlz.out) rfl ?_;have hb:Below w.heap.size w w2:=qb6 ((((Below.refl w.heap.size w).alloc nlr _).alloc szz _).alloc szz _) hg2 szz szz;exact ⟨rfl,H.out.below hb,Keep.of_below hb⟩
  · rw [if_neg hn];have hin:=fun W (q1:qa7 W base p A c D) q2 g2 g6 q3 q4 q5 => at_read (w:=W) (ga:=ga) (d:=p.d) (f:=f) (m:=m) (x1:=.pointer (some ⟨g2,0,none⟩)) (x2:=.pointer (some ⟨g6,0,none⟩)) (R:=fun z w' => z=(qt2 D ((f:Int)+n)).2.2∧qa7 w' base p A c (qt2 D ((f:Int)+n)).1∧BlkB w' g6 205 (qt2 D ((f:Int)+n)).2.1∧Keep (fun g => foot p A g∨g=g6) W w') q2 n omg omg hfm4 (read1_any (g2:=g2) (g6:=g6) q1 q2 q3 (Z:=qa3) q4 qc0 q5 ((f:Int)+n))
    have hl:=vk3 h.ok ((f:Int)+n);generalize qt2 D ((f:Int)+n)=RR at *;obtain ⟨D',S,z⟩:=RR;simp only at hl hin ⊢;have hsl:Hid ((S.map bv).length=128):=by show _=_;rw [List.length_map,hl]
    have hsm:=hdd (qk1 (l:=S));unfold aggB BlkB at *;generalize S.map bv=SV at *;generalize qa3.map bv=Z at *;clear h ha hn hl;go_enter Tryz.func162,Tryz.ntmps162;go_wp2_with (first | ((go_at_call 234;(with_reducible refine (hin _ (((H.out.alloc _).alloc _).alloc _) (((HA.out.below ((Below.refl _ _).alloc nlr _)).below ((Below.refl _ _).alloc nlr _)).below ((Below.refl _ _).alloc nlr _)) w.heap.size (w.heap.size+2) blq blq (fun e => by have:=hl4.out _ e;omega)).mono ?_);rintro e w1 ⟨z9,rfl,hz9,h1,hx1,k1⟩);subst hz9;have hr1:=Blk.keep (g:=w.heap.size+1) (t:=205) (cs:=Z) blq k1 (fun e => by rcases e with e | e;have:=hl4.out _ e;omega;omega);have H1:=hdd h1;clear h1) | (refine qb8 rfl (x:=.tmp 6) rfl rfl hx1 Tryz.underlying205 Hi.out hsl.out (xs:=SV) (by rw [List.drop_zero,List.take_of_length_le (by rw [hsl.out];omega)]) ?_) | (refine qb2 rfl (x:=.tmp 4) (y:=.tmp 12) rfl rfl rfl hr1 Hi.out hsl.out (by rw [hlz.out];omega) hsm.out ?_;intro w2 hb2 hg2 hs2;rw [qc1 _ _ (hlz.out.trans hsl.out.symm)] at hb2) | fail "no arm");refine bodyPost_ret (v:=.tuple #[.agg SV.toArray,.int .i64 z9]) (qi6 Tryz.results162 _ rfl rfl hb2 Tryz.underlying205 Hi.out hsl.out) rfl ?_;refine ⟨rfl,H1.out.keep (F:=(·=w.heap.size+1)) (Keep.one hg2) (fun g hg e => by have:=hl4.out _ hg;omega),?_⟩;have k2:Keep (fun g => foot p A g∨g=w.heap.size+2∨g=w.heap.size+1) w w2:=((((((Keep.refl _ w).alloc _).alloc _).alloc _).trans k1 (fun g _ e => by rcases e with e | e;exact .inl e;exact .inr (.inl e))).trans (G:=(·=w.heap.size+1)) (Keep.one hg2) (fun g _ e => .inr (.inr e)));exact k2.mono (fun g hg e => by rcases e with e | e | e;exact e;omega;omega)
theorem write1_any {g3 g5:Nat} (h:qa7 w base p A c D) (ha:qa8 w ga p.d f m) (hbox:Blk w g3 188 [.pointer (some ⟨ga,0,none⟩)]) {S:List UInt8} (hx:BlkB w g5 205 S) (hS:S.length=128) (hnf:¬ foot p A g5) (n:Int) (hw:D.waits.length<1000000) (hbase:base≤w.heap.size) :
    Calls Tryz.prog 257 #[.int .i64 n,.pointer (some ⟨g3,0,none⟩),.pointer (some ⟨g5,0,none⟩)] w fun e w' => ∃ z,e=.returned (.int .i64 z)∧(z=(qk3 D n S).2∧qe9 w base p A (qk3 D n S).1 w'):=by
  have Hi:=hdd (zero_of_info qe1).2;have hwr:=fun w' (hb:Below w.heap.size w w') => write_any (h.below hb) n S hS hw (by have:=hb.size;omega)
  have c0:w.cell? ⟨g3,0,none⟩=some (.pointer (some ⟨ga,0,none⟩)):=hbox.cell 0;have c1:w.cell? ⟨ga,0,none⟩=some (.pointer (some ⟨p.d,0,none⟩)):=Blk.cell ha 0;have hsl:Hid ((S.map bv).length=128):=by show _=_;rw [List.length_map,hS]
  have hxr:=Blk.range (o:=0) (n:=128) (xs:=S.map bv) hx (by rw [List.drop_zero,List.take_of_length_le (by rw [hsl.out];omega)]);generalize (qk3 D n S).1=D' at *;generalize (qk3 D n S).2=z at *;unfold aggB at hwr;unfold BlkB at hx;generalize S.map bv=SV at *;have hnx:∀ w1 w2,Below w.heap.size w w1→qe9 w1 base p A D' w2→qe9 w base p A D' w2:=fun w1 w2 hb ⟨A',c',h1,k,n⟩ => ⟨A',c',h1,(Keep.of_below hb).trans k (fun _ _ e => e),fun g e => by rcases n g e with q | q;exact .inl q;exact .inr (by have:=hb.size;omega)⟩
  have HX:=hdd hx;have HB:=hdd hbox;have HA:=hdd ha;have H:=hdd h;clear h ha hbox hx hS;go_enter Tryz.func257,Tryz.ntmps257;go_wp2;refine wp_region_held_drew (S:=fun w' => w'.cell? ⟨g3,0,none⟩=some (.pointer (some ⟨ga,0,none⟩))∧w'.cell? ⟨ga,0,none⟩=some (.pointer (some ⟨p.d,0,none⟩))∧w'.rangeAt g5 0 SV) (by kernel_rfl) ⟨c0,c1,hxr⟩ (fun hHeld => ?_);refine tkS 0 ?_ (hy:=Or.inl ⟨by rfl,by (intro w hSw;(try dsimp only at hSw);obtain ⟨s1,s2,s3⟩:=hSw;go_simp;rfl)⟩);refine tkS 1 ?_;refine tkS 2 ?_;refine tkS 3 ?_ (hy:=Or.inl ⟨by rfl,by (intro w hSw;(try dsimp only at hSw);obtain ⟨s1,s2,s3⟩:=hSw;go_simp;rfl)⟩);refine tkS 4 ?_;refine wpAnyH_take (i:=5) (v:=_) rfl (by decide +kernel) (by decide +kernel) (by decide +kernel) (fun _ _ _ h => h) (yieldsIf_load_mid (by rfl) _ _ rfl _ _ rfl SV _ (fun _ h => h.2.2) Tryz.underlying205 rfl (by rw [hsl.out];exact Hi.out)) (by assumption) ?_;refine nmz ?_;refine on1 6 (fun K hK => ?_);go_simp
  (go_at_call 258;(with_reducible refine (hwr _ gwn).mono ?_);rintro e w1 ⟨rfl,hN⟩)
  have hN2:=hnx _ _ gwn hN;have kk:=(show Keep (foot p A) w w1 from (by obtain ⟨_,_,_,k,_⟩:=hN2;exact k));have HB1:=HB.out.keep kk (fun e => by rcases H.out.foot_ty HB.out e with q | q | q | q | q <;> exact absurd q dcd);have HA1:=HA.out.spares H.out kk;have HX1:=HX.out.keep kk hnf;have d0:w1.cell? ⟨g3,0,none⟩=some (.pointer (some ⟨ga,0,none⟩)):=HB1.cell 0;have d1:w1.cell? ⟨ga,0,none⟩=some (.pointer (some ⟨p.d,0,none⟩)):=Blk.cell HA1 0;have d2:=Blk.range (o:=0) (n:=128) (xs:=SV) HX1 (by rw [List.drop_zero,List.take_of_length_le (by rw [hsl.out];omega)]);have HN2:=hdd hN2;clear hN2 hN HB1 HA1 HX1;refine hK.out _ _ (⟨d0,d1,d2⟩) (fun hHeld => ?_);clear hK K;refine nmz ?_;refine tkS 7 ?_;refine wpAnyH_done (by decide +kernel) ?_ _;go_wp2;go_ret;exact ⟨z,rfl,rfl,hnx _ _ (Below.refl _ _) HN2.out⟩
theorem vh4 (h:qa7 w base p A c D) (ha:qa8 w ga p.d f m) (hfm:f+m≤D.many) (n:Int) (S:List UInt8) (hS:S.length=128) (hw:D.waits.length<1000000) (hbase:base≤w.heap.size) :
    Calls Tryz.prog 200 #[.pointer (some ⟨ga,0,none⟩),.int .i64 n,aggB S] w fun e w' => e=.returned (.int .i64 (qa9 D f m n S).2)∧qe9 w base p A (qa9 D f m n S).1 w':=by
  have hfm4:f+m≤4096:=by have:=h.ok.many1;omega
  have Hi:=hdd (zero_of_info qe1).2;have hl4:=hdd (fun g hg => h.lt g hg);have hsl:Hid ((S.map bv).length=128):=by show _=_;rw [List.length_map,hS]
  have hnx:∀ D' w1 w2,Below w.heap.size w w1→qe9 w1 base p A D' w2→qe9 w base p A D' w2:=fun D' w1 w2 hb ⟨A',c',h1,k,n⟩ => ⟨A',c',h1,(Keep.of_below hb).trans k (fun _ _ e => e),fun g e => by rcases n g e with q | q;exact .inl q;exact .inr (by have:=hb.size;omega)⟩
  have H:=hdd h;have HA:=hdd ha;unfold qa9
  by_cases hn:n<0∨(m:Int)≤n
  · rw [if_pos hn];simp only;have hout:=fun o1 o2 => at_out (k:=257) (caps:=#[.pointer (some ⟨w.heap.size,0,none⟩),.pointer (some ⟨w.heap.size+1,0,none⟩)]) ((ha.below ((Below.refl _ _).alloc nlr o1)).below ((Below.refl _ _).alloc nlr o2)) n hn
    unfold aggB at *;generalize S.map bv=SV at *;clear h ha hn;go_enter Tryz.func200,Tryz.ntmps200;go_wp2_with (first | (go_at_call 234;(with_reducible refine (hout _ _).mono ?_);rintro e w1 ⟨rfl,rfl⟩) | fail "no arm");go_ret;exact ⟨rfl,hnx _ _ _ gwn (qe9.same ((H.out.alloc _).alloc _) (Below.refl _ _))⟩
  · rw [if_neg hn];have hin:=fun W (q1:qa7 W base p A c D) q2 g2 g6 q3 q4 q5 q6 => at_write (w:=W) (ga:=ga) (d:=p.d) (f:=f) (m:=m) (x1:=.pointer (some ⟨g2,0,none⟩)) (x2:=.pointer (some ⟨g6,0,none⟩)) (R:=fun z w' => z=(qk3 D ((f:Int)+n) S).2∧qe9 W base p A (qk3 D ((f:Int)+n) S).1 w') q2 n omg omg hfm4 (write1_any (g3:=g2) (g5:=g6) q1 q2 q3 (S:=S) q4 hS q5 ((f:Int)+n) hw q6)
    generalize qk3 D ((f:Int)+n) S=RR at *;obtain ⟨D',z⟩:=RR;simp only at hin ⊢;unfold aggB BlkB at *;generalize S.map bv=SV at *;clear h ha hn;go_enter Tryz.func200,Tryz.ntmps200;go_wp2_with (first | ((go_at_call 234;(with_reducible refine (hin _ ((H.out.alloc _).alloc _) ((HA.out.below ((Below.refl _ _).alloc nlr _)).below ((Below.refl _ _).alloc nlr _)) w.heap.size (w.heap.size+1) blq blq (fun e => by have:=hl4.out _ e;omega) szz).mono ?_);rintro e w1 ⟨z9,rfl,hz9,hN⟩)) | fail "no arm");go_ret;subst hz9;exact ⟨rfl,hnx _ _ _ gwn hN⟩
end
end Go.Proofs.YtmeebofhlilcmaaGreat
