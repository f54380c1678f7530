/- Parts: PlainDisk, DiskG, DiskA, DiskC. -/
import Derived.Test.YtmeebofhlilcmaaGreatPr02
import Derived.Test.YtmeebofhlilcmaaGreatPr07
import Derived.Test.YtmeebofhlilcmaaGreatPr09
import Derived.Test.YtmeebofhlilcmaaGreatPr01
import Derived.Deep.RegionHeld3
set_option linter.unusedVariables false
set_option linter.unusedSimpArgs false
set_option maxRecDepth 100000
set_option maxHeartbeats 40000000
namespace Go.Proofs.YtmeebofhlilcmaaGreat
open Go.RowKit
structure qa1 where
  many:Nat
  kept:List UInt8
  now:List UInt8
  inuse:List Bool
  might:List Bool
  waits:List (Nat × List UInt8)
  room:Int
  cut:Int
  off:Bool
  ops:List Int
structure qa1.Ok (D:qa1):Prop where
  many0:1≤D.many
  many1:D.many≤4096
  kept:D.kept.length=D.many * 128
  now:D.now.length=D.many * 128
  inuse:D.inuse.length=D.many
  might:D.might.length=D.many
  waits:∀ p ∈ D.waits,p.1<D.many∧p.2.length=128
  room:0≤D.room∧D.room≤D.many
  cut:-1≤D.cut∧D.cut≤9223372036854775807
  few:D.waits.length≤1000000
def qu1 (l:List Bool):Nat:=(l.filter id).length
theorem trues_take (l:List Bool) (k:Nat) (h:k<l.length):qu1 (l.take (k+1))=qu1 (l.take k)+if l.getD k false then 1 else 0:=by
  rw [List.take_succ_eq_append_getElem h];unfold qu1;rw [List.filter_append,List.length_append,List.getD_eq_getElem?_getD,List.getElem?_eq_getElem h]
  cases l[k] <;> rfl
theorem trues_le (l:List Bool):qu1 l≤l.length:=List.length_filter_le _ _
def mayV (D:qa1) (n:Int):Int:=if D.off then 50 else if n<0∨(D.many:Int)≤n then 51 else 0
theorem qz9 {D:qa1} {n:Int} (h:mayV D n=0):D.off=false∧0≤n∧n<D.many:=by
  unfold mayV at h
  cases ho:D.off
  · rw [ho] at h;simp only [Bool.false_eq_true,if_false] at h
    by_cases h1:n<0∨(D.many:Int)≤n
    · rw [if_pos h1] at h;simp at h
    · exact ⟨rfl,omg,omg⟩
  · rw [ho] at h;simp at h
def qo3 (D:qa1) (kind:Int):qa1:={ D with off:=D.cut == 0,cut:=if 0≤D.cut then D.cut - 1 else D.cut,ops:=mAdd D.ops kind 1 }
def qf1 (l:List UInt8) (n:Int):List UInt8:=(l.drop (n.toNat * 128)).take 128
theorem ql9 {l:List UInt8} {n:Int} {s:Nat} (h:l.length=s * 128) (h0:0≤n) (h1:n<s):(qf1 l n).length=128:=by
  unfold qf1;rw [List.length_take,List.length_drop,h];omega
theorem qj6 {α:Type} {l k:List α} {off:Nat} (h:off+k.length≤l.length):(splice l off k).length=l.length:=by
  simp [splice];omega
def putD (D:qa1) (n:Int) (b:List UInt8):qa1:={ D with waits:=D.waits ++ [(n.toNat,b)],now:=splice D.now (n.toNat * 128) b,might:=D.might.set n.toNat true }
def fullB (D:qa1) (n:Int):Bool:=!(D.might.getD n.toNat false) && (D.room - (qu1 D.might:Nat) == 0)
def qj0 (D:qa1):qa1:={ D with ops:=mAdd D.ops 1 1 }
def qk3 (D:qa1) (n:Int) (b:List UInt8):qa1 × Int :=
  if mayV D n≠0 then (D,mayV D n) else if fullB D n=true then (D,52) else (qo3 (putD D n b) 2,if D.cut=0 then 50 else 0)
def qd2 (W:List (Nat × List UInt8)) (k:Nat):Nat × List UInt8:=W.getD k (0,[])
def qu2 (W:List (Nat × List UInt8)) (s:List UInt8 × List Bool):Nat→List UInt8 × List Bool
  | 0 => s
  | k+1 => (splice (qu2 W s k).1 ((qd2 W k).1 * 128) (qd2 W k).2,(qu2 W s k).2.set (qd2 W k).1 true)
def vf5 (D:qa1):qa1:={ D with kept:=(qu2 D.waits (D.kept,D.inuse) D.waits.length).1,inuse:=(qu2 D.waits (D.kept,D.inuse) D.waits.length).2,waits:=[] }
def qb0 (D:qa1):qa1 × Int:=if mayV D 0≠0 then (D,mayV D 0) else if D.cut=0 then (qo3 D 3,50) else (vf5 (qo3 D 3),0)
def qr0 (W:List (Nat × List UInt8)) (cs:List UInt8) (s:List UInt8 × List Bool):Nat→List UInt8 × List Bool
  | 0 => s
  | k+1 => (splice (qr0 W cs s k).1 ((qd2 W k).1 * 128) ((qd2 W k).2.take (min (qa4 cs k) 128)),if 0<qa4 cs k then (qr0 W cs s k).2.set (qd2 W k).1 true else (qr0 W cs s k).2)
def crashE (D:qa1) (cs:List UInt8):List UInt8 × List Bool:=qr0 D.waits cs (D.kept,D.inuse) (min D.waits.length cs.length)
def qp3 (D:qa1) (cs:List UInt8):qa1:={ D with kept:=(crashE D cs).1,inuse:=(crashE D cs).2,waits:=[],off:=false,cut:=-1,now:=(crashE D cs).1,might:=(crashE D cs).2 }
def newV (many:Nat) (room:Int):qa1:=⟨many,List.replicate (many * 128) 0,List.replicate (many * 128) 0,List.replicate many false,List.replicate many false,[],room,-1,false,[0,0,0,0,0,0]⟩
theorem qw3 {D:qa1} (h:D.Ok) {k:Nat} (hk:k<D.waits.length):(qd2 D.waits k).1<D.many∧(qd2 D.waits k).2.length=128:=by
  unfold qd2;rw [List.getD_eq_getElem?_getD,List.getElem?_eq_getElem hk];exact h.waits _ (List.getElem_mem hk)
theorem keepK_len {D:qa1} (h:D.Ok):∀ k,k≤D.waits.length→(qu2 D.waits (D.kept,D.inuse) k).1.length=D.many * 128∧(qu2 D.waits (D.kept,D.inuse) k).2.length=D.many:=by
  intro k
  induction k with
  | zero => intro _;exact ⟨h.kept,h.inuse⟩
  | succ k ih =>
    intro hk;obtain ⟨h1,h2⟩:=ih omg;obtain ⟨p1,p2⟩:=qw3 h (show k<D.waits.length by omega);unfold qu2;refine ⟨?_,by rw [List.length_set];exact h2⟩;rw [qj6 (by rw [h1,p2];omega)];exact h1
theorem vp6 {D:qa1} (h:D.Ok) (cs:List UInt8):∀ k,k≤D.waits.length→(qr0 D.waits cs (D.kept,D.inuse) k).1.length=D.many * 128∧(qr0 D.waits cs (D.kept,D.inuse) k).2.length=D.many:=by
  intro k
  induction k with
  | zero => intro _;exact ⟨h.kept,h.inuse⟩
  | succ k ih =>
    intro hk;obtain ⟨h1,h2⟩:=ih omg;obtain ⟨p1,p2⟩:=qw3 h (show k<D.waits.length by omega);unfold qr0;refine ⟨?_,by split;rw [List.length_set];exact h2;exact h2⟩;rw [qj6 (by rw [h1,List.length_take,p2];omega)];exact h1
theorem vi6 {D:qa1} (h:D.Ok) (kind:Int):(qo3 D kind).Ok :=
  ⟨h.many0,h.many1,h.kept,h.now,h.inuse,h.might,h.waits,h.room,by have:=h.cut;unfold qo3;simp only;split <;> omega,h.few⟩
theorem putD_ok {D:qa1} (h:D.Ok) {n:Int} (h0:0≤n) (h1:n<D.many) {b:List UInt8} (hb:b.length=128) (hw:D.waits.length<1000000):(putD D n b).Ok:=by
  refine ⟨h.many0,h.many1,h.kept,?_,h.inuse,by simp [putD];exact h.might,fun p hp => ?_,h.room,h.cut,by simp [putD];omega⟩
  · unfold putD;simp only;rw [qj6 (by rw [h.now,hb];omega)];exact h.now
  · unfold putD at hp;rcases List.mem_append.1 hp with q | q
    · exact h.waits p q
    · obtain rfl:p=(n.toNat,b):=by simpa using q
      exact ⟨by show n.toNat<D.many;omega,hb⟩
theorem flushD_ok {D:qa1} (h:D.Ok):(vf5 D).Ok :=
  ⟨h.many0,h.many1,(keepK_len h _ nlr).1,h.now,(keepK_len h _ nlr).2,h.might,fun p hp => (by cases hp),h.room,h.cut,by show 0≤1000000;omega⟩
theorem crashV_ok {D:qa1} (h:D.Ok) (cs:List UInt8):(qp3 D cs).Ok:=by
  have hl:=vp6 h cs (min D.waits.length cs.length) (Nat.min_le_left _ _);exact ⟨h.many0,h.many1,hl.1,hl.1,hl.2,hl.2,fun p hp => (by cases hp),h.room,⟨by show (-1:Int)≤-1;omega,by show (-1:Int)≤_;omega⟩,by show 0≤1000000;omega⟩
theorem newV_ok {many:Nat} {room:Int} (h0:1≤many) (h1:many≤4096) (r0:0≤room) (r1:room≤many):(newV many room).Ok :=
  ⟨h0,h1,by simp [newV],by simp [newV],by simp [newV],by simp [newV],fun p hp => (by cases hp),⟨r0,r1⟩,⟨by show (-1:Int)≤-1;omega,by show (-1:Int)≤_;omega⟩,by show 0≤1000000;omega⟩
theorem trues_all {l:List Bool} {n:Nat} (hn:n<l.length) (h:l.getD n false=false):qu1 l<l.length:=by
  induction l generalizing n with
  | nil => simp at hn
  | cons b l ih =>
    cases n with
    | zero =>
      have hb:b=false:=by simpa using h
      subst hb;have:=trues_le l
      show (List.filter id (false :: l)).length<_
      rw [List.filter_cons_of_neg smp];unfold qu1 at this;simp only [List.length_cons];omega
    | succ n =>
      have:=ih (n:=n) (by simpa using hn) (by simpa using h);unfold qu1 at this ⊢
      cases b with
      | true => rw [List.filter_cons_of_pos rfl,List.length_cons,List.length_cons];omega
      | false => rw [List.filter_cons_of_neg smp,List.length_cons];omega
theorem pieceAt_app {W:List (Nat × List UInt8)} (x:Nat × List UInt8):qd2 (W ++ [x]) W.length=x:=by
  unfold qd2;rw [List.getD_eq_getElem?_getD,List.getElem?_append_right nlr];simp
theorem pieceAt_pre {W:List (Nat × List UInt8)} (V:List (Nat × List UInt8)) {k:Nat} (h:k<W.length):qd2 (W ++ V) k=qd2 W k:=by
  unfold qd2;rw [List.getD_eq_getElem?_getD,List.getD_eq_getElem?_getD,List.getElem?_append_left h]
theorem keepK_pre {W:List (Nat × List UInt8)} (V:List (Nat × List UInt8)) (s:List UInt8 × List Bool):∀ k,k≤W.length→qu2 (W ++ V) s k=qu2 W s k:=by
  intro k
  induction k with
  | zero => intro _;rfl
  | succ k ih => intro h;unfold qu2;rw [ih omg,pieceAt_pre V omg]
theorem keepK_app (W:List (Nat × List UInt8)) (x:Nat × List UInt8) (s:List UInt8 × List Bool):qu2 (W ++ [x]) s (W ++ [x]).length=(splice (qu2 W s W.length).1 (x.1 * 128) x.2,(qu2 W s W.length).2.set x.1 true):=by
  rw [List.length_append,List.length_singleton]
  show (splice (qu2 (W ++ [x]) s W.length).1 _ _,_)=_
  rw [keepK_pre [x] s _ nlr,pieceAt_app]
structure Calm (D:qa1):Prop where
  ok:D.Ok
  cut:D.cut=-1
  off:D.off=false
  room:D.room=D.many
  now:D.now=(qu2 D.waits (D.kept,D.inuse) D.waits.length).1
  might:D.might=(qu2 D.waits (D.kept,D.inuse) D.waits.length).2
theorem calm_new {many:Nat} (h0:1≤many) (h1:many≤4096):Calm (newV many many):=⟨newV_ok h0 h1 omg omg,rfl,rfl,rfl,rfl,rfl⟩
theorem qi4 {l k:List UInt8} {off:Nat} (h:off+k.length≤l.length) (q:Nat):qa4 (splice l off k) q=if off≤q∧q<off+k.length then qa4 k (q - off) else qa4 l q:=by
  unfold qa4 splice;rw [List.getD_eq_getElem?_getD,List.getD_eq_getElem?_getD,List.getD_eq_getElem?_getD];have ht:(l.take off).length=off:=by rw [List.length_take];omega
  rcases Nat.lt_or_ge q off with h1 | h1
  · rw [if_neg omg,List.getElem?_append_left omg,List.getElem?_take,if_pos h1]
  · rw [List.getElem?_append_right omg,ht];rcases Nat.lt_or_ge q (off+k.length) with h2 | h2
    · rw [if_pos ⟨h1,h2⟩,List.getElem?_append_left omg]
    · rw [if_neg omg,List.getElem?_append_right omg,List.getElem?_drop,show off+k.length+(q - off - k.length)=q by omega]
theorem va7 {l:List UInt8} {n i:Nat} (h:i<n):qa4 (l.take n) i=qa4 l i:=by
  unfold qa4;rw [List.getD_eq_getElem?_getD,List.getD_eq_getElem?_getD,List.getElem?_take,if_pos h]
theorem qq0 {l:List UInt8} {n i:Nat} (h:i<128):qa4 (qf1 l (n:Int)) i=qa4 l (n * 128+i):=by
  unfold qf1;rw [va7 h];unfold qa4;rw [List.getD_eq_getElem?_getD,List.getD_eq_getElem?_getD,List.getElem?_drop,Int.toNat_natCast]
structure qb9 where
  d:Nat
  gk:Nat
  gn:Nat
  gi:Nat
  gm:Nat
  gc:Nat
def vl7 (b:Bool):Value:=.bool b
def qi7 (p:Nat × List UInt8):List Value:=.int .i64 (p.1:Int) :: p.2.map bv
def vd1 (l:List (Nat × List UInt8)):List Value:=l.flatMap qi7
def vf8 (p:qb9) (A:Option Addr) (c:Nat) (D:qa1):List Value :=
  [.slice (some ⟨p.gk,0,none⟩) D.many D.many,.slice (some ⟨p.gn,0,none⟩) D.many D.many,.slice (some ⟨p.gi,0,none⟩) D.many D.many,.slice (some ⟨p.gm,0,none⟩) D.many D.many,
    .slice A D.waits.length c,.int .i64 D.room,.int .i64 D.cut,.bool D.off,.pointer (some ⟨p.gc,0,none⟩)]
def foot (p:qb9) (A:Option Addr) (g:Nat):Prop:=g=p.d∨g=p.gk∨g=p.gn∨g=p.gi∨g=p.gm∨g=p.gc∨A.map (·.block)=some g
structure qa7 (w:World) (base:Nat) (p:qb9) (A:Option Addr) (c:Nat) (D:qa1):Prop where
  ok:D.Ok
  st:Blk w p.d 198 (vf8 p A c D)
  bk:BlkB w p.gk 205 D.kept
  bn:BlkB w p.gn 205 D.now
  bi:Blk w p.gi 4 (D.inuse.map vl7)
  bm:Blk w p.gm 4 (D.might.map vl7)
  mt:qb1 w p.gc D.ops
  wa:w.ownsRow base 207 129 (.slice A D.waits.length c) D.waits.length (vd1 D.waits)
  ne1:p.gk≠p.gn
  ne2:p.gi≠p.gm
  bs:∀ g,foot p A g→base≤g
section
variable {w w':World} {base:Nat} {p:qb9} {A:Option Addr} {c:Nat} {D:qa1}
theorem qa7.lt (h:qa7 w base p A c D):∀ g,foot p A g→g<w.heap.size:=by
  intro g hg;rcases hg with rfl | rfl | rfl | rfl | rfl | rfl | hg
  · exact h.st.lt
  · exact h.bk.lt
  · exact h.bn.lt
  · exact h.bi.lt
  · exact h.bm.lt
  · exact h.mt.2.lt
  · cases A with
    | none => cases hg
    | some a => exact (h.wa.lt g (by simpa [Value.ownBlock] using hg)).2
theorem qa7.keep {F:Nat→Prop} (h:qa7 w base p A c D) (k:Keep F w w') (hn:∀ g,foot p A g→¬ F g):qa7 w' base p A c D :=
  ⟨h.ok,h.st.keep k (hn _ (.inl rfl)),h.bk.keep k (hn _ (.inr (.inl rfl))),h.bn.keep k (hn _ (.inr (.inr (.inl rfl)))),h.bi.keep k (hn _ (.inr (.inr (.inr (.inl rfl))))),
    h.bm.keep k (hn _ (.inr (.inr (.inr (.inr (.inl rfl)))))),⟨h.mt.1,h.mt.2.keep k (hn _ (.inr (.inr (.inr (.inr (.inr (.inl rfl)))))))⟩,
    qn4 h.wa k (fun g hg => hn g (.inr (.inr (.inr (.inr (.inr (.inr (by cases A with | none => simp [Value.ownBlock] at hg | some a => simpa [Value.ownBlock] using hg)))))))),h.ne1,h.ne2,h.bs⟩
theorem qa7.below (h:qa7 w base p A c D) (hb:Below w.heap.size w w'):qa7 w' base p A c D:=h.keep (Keep.of_below (F:=fun _ => False) hb) (fun _ _ e => e)
theorem qa7.drewN (h:qa7 w base p A c D) (k:Nat):qa7 (w.drewN k) base p A c D:=h.keep ((Keep.refl (fun _ => False) w).drewN k) (fun _ _ e => e)
theorem qa7.alloc (h:qa7 w base p A c D) (o:Obj):qa7 (w.alloc o) base p A c D:=h.below ((Below.refl _ _).alloc nlr o)
theorem qa7.cells (h:qa7 w base p A c D):w.cell? ⟨p.d,0,none⟩=some (.slice (some ⟨p.gk,0,none⟩) D.many D.many)∧w.cell? ⟨p.d,1,none⟩=some (.slice (some ⟨p.gn,0,none⟩) D.many D.many) ∧
    w.cell? ⟨p.d,2,none⟩=some (.slice (some ⟨p.gi,0,none⟩) D.many D.many)∧w.cell? ⟨p.d,3,none⟩=some (.slice (some ⟨p.gm,0,none⟩) D.many D.many)∧w.cell? ⟨p.d,4,none⟩=some (.slice A D.waits.length c) ∧
    w.cell? ⟨p.d,5,none⟩=some (.int .i64 D.room)∧w.cell? ⟨p.d,6,none⟩=some (.int .i64 D.cut)∧w.cell? ⟨p.d,7,none⟩=some (.bool D.off)∧w.cell? ⟨p.d,8,none⟩=some (.pointer (some ⟨p.gc,0,none⟩)) :=
  ⟨h.st.cell 0,h.st.cell 1,h.st.cell 2,h.st.cell 3,h.st.cell 4,h.st.cell 5,h.st.cell 6,h.st.cell 7,h.st.cell 8⟩
end
theorem is_yes (w:World) (d:Nat) (q:Addr) (h:w.cell? ⟨d,8,none⟩=some (.pointer (some q))):Calls Tryz.prog 131 #[.pointer (some ⟨d,0,none⟩)] w fun e w' => e=.returned (.bool true)∧w=w':=by
  go_enter Tryz.func131,Tryz.ntmps131;go_wp2;go_ret;exact ⟨rfl,rfl⟩
def NoDisk (w:World) (d:Option Addr):Prop:=d=none∨∃ g,d=some ⟨g,0,none⟩∧w.cell? ⟨g,8,none⟩=some (.pointer none)
theorem is_no (w:World) (d:Option Addr) (h:NoDisk w d):Calls Tryz.prog 131 #[.pointer d] w fun e w' => e=.returned (.bool false)∧w=w':=by
  rcases h with rfl | ⟨g,rfl,h⟩
  all_goals
    go_enter Tryz.func131,Tryz.ntmps131;go_wp2;go_ret;exact ⟨rfl,rfl⟩
section
variable {w:World} {base:Nat} {p:qb9} {A:Option Addr} {c:Nat} {D:qa1}
theorem isd (h:qa7 w base p A c D):Calls Tryz.prog 131 #[.pointer (some ⟨p.d,0,none⟩)] w fun e w' => e=.returned (.bool true)∧w=w':=is_yes w p.d _ h.cells.2.2.2.2.2.2.2.2
theorem size_any (h:qa7 w base p A c D):Calls Tryz.prog 48 #[.pointer (some ⟨p.d,0,none⟩)] w fun e w' => e=.returned (.int .i64 (D.many:Nat))∧w=w':=by
  have h0:=h.cells.1;have his:=isd h;clear h;go_enter Tryz.func48,Tryz.ntmps48;go_wp2_with (go_at_call 131;(with_reducible refine (his).mono ?_);rintro e w1 ⟨rfl,rfl⟩);go_ret;exact ⟨rfl,rfl⟩
theorem qz8 (h:qa7 w base p A c D) (n:Int):Calls Tryz.prog 259 #[.pointer (some ⟨p.d,0,none⟩),.int .i64 n] w fun e w' => e=.returned (.int .i64 (mayV D n))∧w=w':=by
  have h0:=h.cells.1;have h7:=h.cells.2.2.2.2.2.2.2.1;have his:=isd h;clear h;unfold mayV;generalize D.many=s at *
  cases hq:D.off with
  | true =>
    rw [hq] at h7;rw [if_pos rfl];go_enter Tryz.func259,Tryz.ntmps259;go_wp2_with (go_at_call 131;(with_reducible refine (his).mono ?_);rintro e w1 ⟨rfl,rfl⟩);go_ret;exact ⟨rfl,rfl⟩
  | false =>
    rw [hq] at h7;rw [if_neg smp];have hcs:n<0∨(0≤n∧(s:Int)≤n)∨(0≤n∧n<s):=omg;rcases hcs with h1 | ⟨h1,h2⟩ | ⟨h1,h2⟩
    · rw [if_pos (.inl h1)];go_enter Tryz.func259,Tryz.ntmps259;go_wp2_with (go_at_call 131;(with_reducible refine (his).mono ?_);rintro e w1 ⟨rfl,rfl⟩);go_ret;exact ⟨rfl,rfl⟩
    · rw [if_pos (.inr h2)];go_enter Tryz.func259,Tryz.ntmps259;go_wp2_with (go_at_call 131;(with_reducible refine (his).mono ?_);rintro e w1 ⟨rfl,rfl⟩);go_ret;exact ⟨rfl,rfl⟩
    · rw [if_neg omg];go_enter Tryz.func259,Tryz.ntmps259;go_wp2_with (go_at_call 131;(with_reducible refine (his).mono ?_);rintro e w1 ⟨rfl,rfl⟩);go_ret;exact ⟨rfl,rfl⟩
end
theorem qm5 {w:World} {g:Nat} {t:TypeId} {l:List Bool} (h:Blk w g t (l.map vl7)) (i:Nat) (hi:i<l.length):w.cell? ⟨g,i,none⟩=some (.bool (l.getD i false)):=by
  rw [h.cell];unfold vl7;simp [List.getD_eq_getElem?_getD,hi]
section
variable {w:World} {base:Nat} {p:qb9} {A:Option Addr} {c:Nat} {D:qa1}
theorem left_any (h:qa7 w base p A c D):Calls Tryz.prog 295 #[.pointer (some ⟨p.d,0,none⟩)] w fun e w' => e=.returned (.int .i64 (D.room - (qu1 D.might:Nat)))∧w=w':=by
  have h5:=h.cells.2.2.2.2.2.1;have h3:=h.cells.2.2.2.1;have hmany:=h.ok.many1;have hrr:=h.ok.room;have his:=isd h;have hlen:=hdd h.ok.might;have hcell:∀ i,i<D.many→Hid (w.cell? ⟨p.gm,i,none⟩=some (.bool (D.might.getD i false))):=fun i hi => qm5 h.bm i (by rw [h.ok.might];exact hi)
  have htk:∀ i,i<D.many→Hid (qu1 (D.might.take (i+1))=qu1 (D.might.take i)+if D.might.getD i false then 1 else 0):=fun i hi => trues_take _ i (by rw [h.ok.might];exact hi)
  have htl:∀ i,qu1 (D.might.take i)≤i:=fun i => Nat.le_trans (trues_le _) (List.length_take_le _ _)
  clear h;generalize D.many=s at *;generalize D.room=room at *;generalize D.might=M at *;go_enter Tryz.func295,Tryz.ntmps295;go_wp2_with (go_at_call 131;(with_reducible refine (his).mono ?_);rintro e w1 ⟨rfl,rfl⟩);go_loop [3,18] (fun v i => ∃ k:Nat,k≤s∧i=.int .i64 (k:Nat)∧v=.int .i64 (room - (qu1 (M.take k):Nat))) (fun _ i => s - (intOf i).toNat)
  case atStart => exact ⟨0,omg,rfl,by simp [qu1]⟩
  case round =>
    obtain ⟨k,hk,rfl,rfl⟩:=hrel;have hl:=htl k
    by_cases hks:k<s
    · have hc:=(hcell k hks).out;have ht:=htk k hks;clear hcell htk htl;generalize M.getD k false=b at *;generalize qu1 (M.take k)=x at *
      cases b with
      | true =>
        go_wp2;go_round
        case rel => exact ⟨k+1,omg,by go_num,by rw [ht.out];go_num⟩
        case measure => simp [intOf];omega
      | false =>
        go_wp2;go_round
        case rel => exact ⟨k+1,omg,by go_num,by rw [ht.out];go_num⟩
        case measure => simp [intOf];omega
    · have hk9:k=s:=omg;subst hk9;clear hcell htk htl;go_wp2;go_ret;exact ⟨ret_int (by rw [List.take_of_length_le (by rw [hlen.out];omega)]),rfl⟩
theorem qa7.nd (h:qa7 w base p A c D):p.gk≠p.d∧p.gn≠p.d∧p.gi≠p.d∧p.gm≠p.d∧p.gc≠p.d∧A.map (·.block)≠some p.d :=
  ⟨h.bk.ne_ h.st dcd,h.bn.ne_ h.st dcd,h.bi.ne_ h.st dcd,h.bm.ne_ h.st dcd,h.mt.2.ne_ h.st dcd,fun e => by
    have:=vh9 h.wa h.st dcd
    cases A with | none => cases e | some a => exact this (by simpa [Value.ownBlock] using e)⟩
theorem qa7.turn {w':World} {D':qa1} (h:qa7 w base p A c D) (k:Keep (·=p.d) w w') (hst:Blk w' p.d 198 (vf8 p A c D')) (hok:D'.Ok)
    (e1:D'.kept=D.kept) (e2:D'.now=D.now) (e3:D'.inuse=D.inuse) (e4:D'.might=D.might) (e5:D'.waits=D.waits) (e6:D'.ops=D.ops):qa7 w' base p A c D':=by
  obtain ⟨n1,n2,n3,n4,n5,n6⟩:=h.nd;exact ⟨hok,hst,by rw [e1];exact h.bk.keep k n1,by rw [e2];exact h.bn.keep k n2,by rw [e3];exact h.bi.keep k n3,by rw [e4];exact h.bm.keep k n4,by rw [e6];exact ⟨h.mt.1,h.mt.2.keep k n5⟩,
    by rw [e5];exact qn4 h.wa k (fun g hg e => n6 (by subst e;cases A with | none => simp [Value.ownBlock] at hg | some a => simpa [Value.ownBlock] using hg)),h.ne1,h.ne2,h.bs⟩
theorem qa7.turnOps {w':World} {l:List Int} (h:qa7 w base p A c D) (hg:w.grownBy w' (some p.gc)) (hm:qb1 w' p.gc l):qa7 w' base p A c { D with ops:=l }:=by
  have k:Keep (·=p.gc) w w':=Keep.of_grown hg (fun g e => by injection e with e;exact e.symm);have n1:p.d≠p.gc:=fun e => h.nd.2.2.2.2.1 e.symm
  refine ⟨⟨h.ok.many0,h.ok.many1,h.ok.kept,h.ok.now,h.ok.inuse,h.ok.might,h.ok.waits,h.ok.room,h.ok.cut,h.ok.few⟩,h.st.keep k n1,h.bk.keep k (h.bk.ne_ h.mt.2 dcd),h.bn.keep k (h.bn.ne_ h.mt.2 dcd),h.bi.keep k (h.bi.ne_ h.mt.2 dcd),h.bm.keep k (h.bm.ne_ h.mt.2 dcd),hm,?_,h.ne1,h.ne2,h.bs⟩;exact qn4 h.wa k (fun g hg e => vh9 h.wa h.mt.2 dcd (by subst e;exact hg))
theorem qa7.setOff (h:qa7 w base p A c D) (b:Bool):qa7 (w.setCell ⟨p.d,7,none⟩ (.bool b)) base p A c { D with off:=b } :=
  h.turn (Keep.of_grown (qb5 _) (fun g e => by injection e with e;exact e.symm)) (h.st.set_ 7 _) ⟨h.ok.many0,h.ok.many1,h.ok.kept,h.ok.now,h.ok.inuse,h.ok.might,h.ok.waits,h.ok.room,h.ok.cut,h.ok.few⟩ rfl rfl rfl rfl rfl rfl
theorem qa7.setCut (h:qa7 w base p A c D) (x:Int) (hx:-1≤x∧x≤9223372036854775807):qa7 (w.setCell ⟨p.d,6,none⟩ (.int .i64 x)) base p A c { D with cut:=x } :=
  h.turn (Keep.of_grown (qb5 _) (fun g e => by injection e with e;exact e.symm)) (h.st.set_ 6 _) ⟨h.ok.many0,h.ok.many1,h.ok.kept,h.ok.now,h.ok.inuse,h.ok.might,h.ok.waits,h.ok.room,hx,h.ok.few⟩ rfl rfl rfl rfl rfl rfl
theorem vb7 (h:qa7 w base p A c D) (kind:Int):Calls Tryz.prog 260 #[.pointer (some ⟨p.d,0,none⟩),.int .i64 kind] w fun e w' =>
    e=.returned (.bool (D.cut == 0))∧qa7 w' base p A c (qo3 D kind)∧Keep (foot p A) w w'∧w'.heap.size=w.heap.size:=by
  have h8:=h.cells.2.2.2.2.2.2.2.2;have hadd:=fun w' (hm:qb1 w' p.gc D.ops) => add_any p.gc D.ops kind 1 w' hm
  have hcut:=h.ok.cut;unfold qo3
  by_cases hc:0≤D.cut
  · rw [if_pos hc];have h':=hdd h;go_enter Tryz.func260,Tryz.ntmps260;go_wp2_with ((go_at_call 285;(with_reducible refine (hadd _ h'.out.mt).mono ?_);rintro e w1 ⟨rfl,hm1,hg1,hs1⟩);have h1:=h'.out.turnOps hg1 hm1;have k1:Keep (foot p A) w w1:=(Keep.of_grown hg1 (fun g e => by injection e with e;exact .inr (.inr (.inr (.inr (.inr (.inl e.symm)))))));have f7:=h1.st.frozen 7;have f6:=h1.st.frozen 6;have c6:w1.cell? ⟨p.d,6,none⟩=some (.int .i64 D.cut):=h1.cells.2.2.2.2.2.2.1;have c7:w1.cell? ⟨p.d,7,none⟩=some (.bool D.off):=h1.cells.2.2.2.2.2.2.2.1;have H1:=hdd h1;clear h1);go_ret;exact ⟨rfl,(H1.out.setOff (D.cut == 0)).setCut (D.cut - 1) omg,(k1.set_ _ (.inl rfl)).set_ _ (.inl rfl),by simp [World.setCell,hs1]⟩
  · rw [if_neg hc];have h':=hdd h;go_enter Tryz.func260,Tryz.ntmps260;go_wp2_with ((go_at_call 285;(with_reducible refine (hadd _ h'.out.mt).mono ?_);rintro e w1 ⟨rfl,hm1,hg1,hs1⟩);have h1:=h'.out.turnOps hg1 hm1;have k1:Keep (foot p A) w w1:=(Keep.of_grown hg1 (fun g e => by injection e with e;exact .inr (.inr (.inr (.inr (.inr (.inl e.symm)))))));have f7:=h1.st.frozen 7;have f6:=h1.st.frozen 6;have c6:w1.cell? ⟨p.d,6,none⟩=some (.int .i64 D.cut):=h1.cells.2.2.2.2.2.2.1;have c7:w1.cell? ⟨p.d,7,none⟩=some (.bool D.off):=h1.cells.2.2.2.2.2.2.2.1;have H1:=hdd h1;clear h1);go_ret;exact ⟨rfl,H1.out.setOff (D.cut == 0),k1.set_ _ (.inl rfl),by simp [World.setCell,hs1]⟩
theorem okWith {D:qa1} (h:D.Ok) {k n:List UInt8} {i m:List Bool} (hk:k.length=D.many * 128) (hn:n.length=D.many * 128) (hi:i.length=D.many) (hm:m.length=D.many):({ D with kept:=k,now:=n,inuse:=i,might:=m }:qa1).Ok :=
  ⟨h.many0,h.many1,hk,hn,hi,hm,h.waits,h.room,h.cut,h.few⟩
theorem qa7.waNe (h:qa7 w base p A c D) {g:Nat} {t:TypeId} {cs:List Value} (hg:Blk w g t cs) (hne:207≠t):∀ x,(Value.slice A D.waits.length c).ownBlock=some x→¬ x=g:=fun x hx e => vh9 h.wa hg hne (by rw [hx,e])
theorem qa7.turnNow {w':World} {l:List UInt8} (h:qa7 w base p A c D) (k:Keep (·=p.gn) w w') (hb:BlkB w' p.gn 205 l) (hl:l.length=D.many * 128):qa7 w' base p A c { D with now:=l } :=
  ⟨okWith h.ok h.ok.kept hl h.ok.inuse h.ok.might,h.st.keep k (h.st.ne_ h.bn dcd),h.bk.keep k h.ne1,hb,h.bi.keep k (h.bi.ne_ h.bn dcd),h.bm.keep k (h.bm.ne_ h.bn dcd),⟨h.mt.1,h.mt.2.keep k (h.mt.2.ne_ h.bn dcd)⟩,qn4 h.wa k (h.waNe h.bn dcd),h.ne1,h.ne2,h.bs⟩
theorem qa7.turnKept {w':World} {l:List UInt8} (h:qa7 w base p A c D) (k:Keep (·=p.gk) w w') (hb:BlkB w' p.gk 205 l) (hl:l.length=D.many * 128):qa7 w' base p A c { D with kept:=l } :=
  ⟨okWith h.ok hl h.ok.now h.ok.inuse h.ok.might,h.st.keep k (h.st.ne_ h.bk dcd),hb,h.bn.keep k (fun e => h.ne1 e.symm),h.bi.keep k (h.bi.ne_ h.bk dcd),h.bm.keep k (h.bm.ne_ h.bk dcd),⟨h.mt.1,h.mt.2.keep k (h.mt.2.ne_ h.bk dcd)⟩,qn4 h.wa k (h.waNe h.bk dcd),h.ne1,h.ne2,h.bs⟩
theorem qa7.turnMight {w':World} {l:List Bool} (h:qa7 w base p A c D) (k:Keep (·=p.gm) w w') (hb:Blk w' p.gm 4 (l.map vl7)) (hl:l.length=D.many):qa7 w' base p A c { D with might:=l } :=
  ⟨okWith h.ok h.ok.kept h.ok.now h.ok.inuse hl,h.st.keep k (h.st.ne_ h.bm dcd),h.bk.keep k (h.bk.ne_ h.bm dcd),h.bn.keep k (h.bn.ne_ h.bm dcd),h.bi.keep k h.ne2,hb,⟨h.mt.1,h.mt.2.keep k (h.mt.2.ne_ h.bm dcd)⟩,qn4 h.wa k (h.waNe h.bm dcd),h.ne1,h.ne2,h.bs⟩
theorem qa7.turnIn {w':World} {l:List Bool} (h:qa7 w base p A c D) (k:Keep (·=p.gi) w w') (hb:Blk w' p.gi 4 (l.map vl7)) (hl:l.length=D.many):qa7 w' base p A c { D with inuse:=l } :=
  ⟨okWith h.ok h.ok.kept h.ok.now hl h.ok.might,h.st.keep k (h.st.ne_ h.bi dcd),h.bk.keep k (h.bk.ne_ h.bi dcd),h.bn.keep k (h.bn.ne_ h.bi dcd),hb,h.bm.keep k (fun e => h.ne2 e.symm),⟨h.mt.1,h.mt.2.keep k (h.mt.2.ne_ h.bi dcd)⟩,qn4 h.wa k (h.waNe h.bi dcd),h.ne1,h.ne2,h.bs⟩
theorem boolSet {w:World} {g:Nat} {t:TypeId} {l:List Bool} (h:Blk w g t (l.map vl7)) (i:Nat) (b:Bool):Blk (w.setCell ⟨g,i,none⟩ (.bool b)) g t ((l.set i b).map vl7):=by
  have:=h.set_ i (.bool b);rw [List.map_set];exact this
theorem qa7.setMight (h:qa7 w base p A c D) (n:Nat) (b:Bool):qa7 (w.setCell ⟨p.gm,n,none⟩ (.bool b)) base p A c { D with might:=D.might.set n b } :=
  h.turnMight (Keep.one (qb5 _)) (boolSet h.bm n b) (by rw [List.length_set];exact h.ok.might)
theorem qa7.setIn (h:qa7 w base p A c D) (n:Nat) (b:Bool):qa7 (w.setCell ⟨p.gi,n,none⟩ (.bool b)) base p A c { D with inuse:=D.inuse.set n b } :=
  h.turnIn (Keep.one (qb5 _)) (boolSet h.bi n b) (by rw [List.length_set];exact h.ok.inuse)
end
section
variable {w:World} {base:Nat} {p:qb9} {A:Option Addr} {c:Nat} {D:qa1}
theorem read_no (h:qa7 w base p A c D) (n:Int) (hn:mayV D n≠0):Calls Tryz.prog 236 #[.pointer (some ⟨p.d,0,none⟩),.int .i64 n] w fun e w' =>
    e=.returned (.tuple #[aggB qa3,.int .i64 (mayV D n)])∧Below w.heap.size w w':=by
  have hz:=(zero_of_info qe1).1;have Hi:=hdd (zero_of_info qe1).2;have hlz:Hid ((qa3.map bv).length=128):=by show _=_;simp [qc0]
  have H1:=hdd (qk1 (l:=qa3));have hmay:∀ o,Calls Tryz.prog 259 #[.pointer (some ⟨p.d,0,none⟩),.int .i64 n] (w.alloc o) fun e w' => e=.returned (.int .i64 (mayV D n))∧(w.alloc o)=w':=fun o => qz8 (h.alloc o) n
  have hne:(mayV D n != 0)=true:=by rw [bne_iff_ne];exact hn
  unfold aggB at *;generalize qa3.map bv=Z at *;generalize mayV D n=z at *;clear h hn;go_enter Tryz.func236,Tryz.ntmps236;go_wp2_with (first | (go_at_call 259;(with_reducible refine (hmay _).mono ?_);rintro e w1 ⟨rfl,rfl⟩) | (refine qb2 rfl (x:=.tmp 4) (y:=.tmp 12) rfl rfl rfl (t:=205) (cs:=Z) (xs:=Z) (Blk.top _ rfl rfl) Hi.out hlz.out (by rw [hlz.out];omega) H1.out ?_;intro w2 hb2 hg2 hs2;rw [qc1 _ _ rfl] at hb2) | fail "no arm");refine bodyPost_ret (v:=.tuple #[.agg Z.toArray,.int .i64 z]) (qi6 Tryz.results236 _ rfl rfl hb2 Tryz.underlying205 Hi.out hlz.out) rfl ?_;exact ⟨rfl,qb6 ((Below.refl _ _).alloc nlr _) hg2 smp nlr⟩
theorem read_yes (h:qa7 w base p A c D) (n:Int) (hn:mayV D n=0):Calls Tryz.prog 236 #[.pointer (some ⟨p.d,0,none⟩),.int .i64 n] w fun e w' =>
    e=.returned (.tuple #[aggB (qf1 D.now n),.int .i64 0])∧qa7 w' base p A c (qj0 D)∧Keep (foot p A) w w':=by
  have hz:=(zero_of_info qe1).1;have Hi:=hdd (zero_of_info qe1).2;have hlz:Hid ((qa3.map bv).length=128):=by show _=_;simp [qc0]
  have hmay:∀ o,Calls Tryz.prog 259 #[.pointer (some ⟨p.d,0,none⟩),.int .i64 n] (w.alloc o) fun e w' => e=.returned (.int .i64 (mayV D n))∧(w.alloc o)=w':=fun o => qz8 (h.alloc o) n
  rw [hn] at hmay;obtain ⟨_,h0,h1⟩:=qz9 hn;obtain ⟨k,rfl⟩:∃ k:Nat,n=(k:Int):=⟨n.toNat,omg⟩;have hk:k<D.many:=omg;have hsec:=ql9 h.ok.now h0 h1;have hadd:=fun w' (hm:qb1 w' p.gc D.ops) => add_any p.gc D.ops 1 1 w' hm
  have c8:=h.cells.2.2.2.2.2.2.2.2;have hl8:=h.st.lt;have hH:=hdd h;unfold aggB at *;generalize hZ:qa3.map bv=Z at *;have hsecl:Hid (((qf1 D.now (k:Int)).map bv).length=128):=by show _=_;simp [hsec]
  have hsm:Hid (∀ v ∈ (qf1 D.now (k:Int)).map bv,v.oneCell'=true):=qk1;have hat:Hid ((((D.now.map bv).drop (k * 128)).take 128)=(qf1 D.now (k:Int)).map bv):=by show _=_;unfold qf1;rw [Int.toNat_natCast,List.map_take,List.map_drop]
  generalize (qf1 D.now (k:Int)).map bv=S at *;clear h hn hZ hsec;go_enter Tryz.func236,Tryz.ntmps236;go_wp2_with (first | (go_at_call 259;(with_reducible refine (hmay _).mono ?_);rintro e w1 ⟨rfl,rfl⟩) | ((go_at_call 285;(with_reducible refine (hadd _ (hH.out.alloc _).mt).mono ?_);rintro e w2 ⟨rfl,hm2,hg2,hs2⟩);have H2:=hdd ((hH.out.alloc (.cells Z.toArray 205)).turnOps hg2 hm2);have d1:w2.cell? ⟨p.d,1,none⟩=some (.slice (some ⟨p.gn,0,none⟩) D.many D.many):=H2.out.cells.2.1;have hz2:=Blk.grown (w':=w2) (g:=w.heap.size) (t:=205) (cs:=Z) blq hg2 (by have:=hH.out.mt.2.lt;intro e;injection e with e;omega)) | (refine qb8 rfl (x:=.tmp 24) rfl rfl H2.out.bn Tryz.underlying205 Hi.out hsecl.out hat.out ?_) | (refine qb2 rfl (x:=.tmp 4) (y:=.tmp 25) rfl rfl rfl hz2 Hi.out hsecl.out (by rw [hlz.out];omega) hsm.out ?_;intro w3 hb3 hg3 hs3;rw [qc1 _ _ (hlz.out.trans hsecl.out.symm)] at hb3) | fail "no arm");refine bodyPost_ret (v:=.tuple #[.agg S.toArray,.int .i64 0]) (qi6 Tryz.results236 _ rfl rfl hb3 Tryz.underlying205 Hi.out hsecl.out) rfl ?_;have k2:Keep (foot p A) w w2:=((Keep.refl _ _).alloc _).then_grown hg2 (fun g e => by injection e with e;exact .inr (.inr (.inr (.inr (.inr (.inl e.symm))))));have hlt:=fun g hg => hH.out.lt g hg
  refine ⟨rfl,H2.out.keep (F:=(·=w.heap.size)) (Keep.one hg3) (fun g hg e => by have:=hlt g hg;omega),k2.trans (G:=(·=w.heap.size)) (Keep.one hg3) (fun x hx e => by omega)⟩
end
end Go.Proofs.YtmeebofhlilcmaaGreat
