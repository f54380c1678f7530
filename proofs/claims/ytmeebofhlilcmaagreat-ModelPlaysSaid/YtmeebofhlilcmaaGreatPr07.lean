/- Parts. -/
import Derived.Test.YtmeebofhlilcmaaGreatPr05
import Derived.Test.YtmeebofhlilcmaaGreatPr06
set_option linter.unusedVariables false
set_option linter.unusedSimpArgs false
set_option maxRecDepth 100000
set_option maxHeartbeats 0
namespace Go.Proofs.YtmeebofhlilcmaaGreat
variable {n:Int} {l:List UInt8} {off many g:Nat} {t:TypeId} {w':World}
open Go.RowKit
structure aX where
 many:Nat
 kept:List UInt8
 now:List UInt8
 inuse:List Bool
 might:List Bool
 waits:List (Nat × List UInt8)
 room:Int
 cut:Int
 off:Bool
 ops:List Int
variable {D:aX}
structure aX.Ok (D:aX):Prop where
 many0:1<=D.many
 many1:D.many<=4096
 kept:D.kept.length=D.many * 128
 now:D.now.length=D.many * 128
 inuse:D.inuse.length=D.many
 might:D.might.length=D.many
 waits:∀ p ∈ D.waits,p.1<D.many/\p.2.length=128
 room:0<=D.room/\D.room<=D.many
 cut:-1<=D.cut/\D.cut<=9223372036854775807
 few:D.waits.length<=1000000
def fj (l:List Bool):Nat:=(l.filter id).length
theorem trues_take (l:List Bool)(k:Nat)(h:k<l.length):fj (l.take (k+1))=fj (l.take k)+if l.getD k false then 1 else 0:=by
 rw[aO h];unfold fj;rw[List.filter_append,aw,ah,ap h]
 cases l[k] <;> rfl
theorem trues_le (l:List Bool):fj l<=l.length:=List.length_filter_le _ _
def mayV (D:aX)(n:Int):Int:=if D.off then 50 else if n<0\/(D.many:Int)<=n then 51 else 0
theorem kT (h:mayV D n=0):D.off=false/\0<=n/\n<D.many:=by
 unfold mayV at h
 cases ho:D.off
 · rw[ho] at h;simp only[Bool.false_eq_true,if_false] at h
   by_cases h1:n<0\/(D.many:Int)<=n
   · rw[if_pos h1] at h;simp at h
   · exact⟨rfl,aS,aS⟩
 · rw[ho] at h;simp at h
def ey (D:aX)(kind:Int):aX:={ D with off:=D.cut == 0,cut:=if 0<=D.cut then D.cut - 1 else D.cut,ops:=mAdd D.ops kind 1 }
def ch (l:List UInt8)(n:Int):List UInt8:=(l.drop (n.toNat * 128)).take 128
theorem iC {s:Nat}(h:l.length=s * 128)(h0:0<=n)(h1:n<s):(ch l n).length=128:=by
 unfold ch;rw[aA,aH,h];omega
theorem ji {α:Type}{l k:List α}(h:off+k.length<=l.length):(splice l off k).length=l.length:=by
 simp[splice];omega
def putD (D:aX)(n:Int)(b:List UInt8):aX:={ D with waits:=D.waits ++ [(n.toNat,b)],now:=splice D.now (n.toNat * 128) b,might:=D.might.set n.toNat true }
def fullB (D:aX)(n:Int):Bool:=!(D.might.getD n.toNat false) && (D.room - (fj D.might:Nat) == 0)
def dZ (D:aX):aX:={ D with ops:=mAdd D.ops 1 1 }
def eL (D:aX)(n:Int)(b:List UInt8):aX × Int :=
 if mayV D n≠0 then (D,mayV D n) else if fullB D n=true then (D,52) else (ey (putD D n b) 2,if D.cut=0 then 50 else 0)
def cY (W:List (Nat × List UInt8))(k:Nat):Nat × List UInt8:=W.getD k (0,[])
def fk (W:List (Nat × List UInt8))(s:List UInt8 × List Bool):Nat->List UInt8 × List Bool
 | 0=>s
 | k+1=>(splice (fk W s k).1 ((cY W k).1 * 128) (cY W k).2,(fk W s k).2.set (cY W k).1 true)
def jj (D:aX):aX:={ D with kept:=(fk D.waits (D.kept,D.inuse) D.waits.length).1,inuse:=(fk D.waits (D.kept,D.inuse) D.waits.length).2,waits:=[] }
def bH (D:aX):aX × Int:=if mayV D 0≠0 then (D,mayV D 0) else if D.cut=0 then (ey D 3,50) else (jj (ey D 3),0)
def fV (W:List (Nat × List UInt8))(cs:List UInt8)(s:List UInt8 × List Bool):Nat->List UInt8 × List Bool
 | 0=>s
 | k+1=>(splice (fV W cs s k).1 ((cY W k).1 * 128) ((cY W k).2.take (min (bx cs k) 128)),if 0<bx cs k then (fV W cs s k).2.set (cY W k).1 true else (fV W cs s k).2)
def crashE (D:aX)(cs:List UInt8):List UInt8 × List Bool:=fV D.waits cs (D.kept,D.inuse) (min D.waits.length cs.length)
def fP (D:aX)(cs:List UInt8):aX:={ D with kept:=(crashE D cs).1,inuse:=(crashE D cs).2,waits:=[],off:=false,cut:=-1,now:=(crashE D cs).1,might:=(crashE D cs).2 }
def newV (many:Nat)(room:Int):aX:=⟨many,List.replicate (many * 128) 0,List.replicate (many * 128) 0,List.replicate many false,List.replicate many false,[],room,-1,false,[0,0,0,0,0,0]⟩
theorem lA (h:D.Ok){k:Nat}(hk:k<D.waits.length):(cY D.waits k).1<D.many/\(cY D.waits k).2.length=128:=by
 unfold cY;rw[ah,ap hk];exact h.waits _ (List.getElem_mem hk)
theorem keepK_len (h:D.Ok):∀ k,k<=D.waits.length->(fk D.waits (D.kept,D.inuse) k).1.length=D.many * 128/\(fk D.waits (D.kept,D.inuse) k).2.length=D.many:=by
 intro k
 induction k with
 | zero=>intro _;exact⟨h.kept,h.inuse⟩
 | succ k ih=>
   intro hk;obtain⟨h1,h2⟩:=ih aS;obtain⟨p1,p2⟩:=lA h (show k<D.waits.length by omega);unfold fk;refine⟨?_,by rw[List.length_set];exact h2⟩;rw[ji (by rw[h1,p2];omega)];exact h1
theorem pE (h:D.Ok)(cs:List UInt8):∀ k,k<=D.waits.length->(fV D.waits cs (D.kept,D.inuse) k).1.length=D.many * 128/\(fV D.waits cs (D.kept,D.inuse) k).2.length=D.many:=by
 intro k
 induction k with
 | zero=>intro _;exact⟨h.kept,h.inuse⟩
 | succ k ih=>
   intro hk;obtain⟨h1,h2⟩:=ih aS;obtain⟨p1,p2⟩:=lA h (show k<D.waits.length by omega);unfold fV;refine⟨?_,by split;rw[List.length_set];exact h2;exact h2⟩;rw[ji (by rw[h1,aA,p2];omega)];exact h1
theorem mi (h:D.Ok)(kind:Int):(ey D kind).Ok :=
 ⟨h.many0,h.many1,h.kept,h.now,h.inuse,h.might,h.waits,h.room,by have:=h.cut;unfold ey;simp only;split <;> omega,h.few⟩
theorem putD_ok (h:D.Ok)(h0:0<=n)(h1:n<D.many){b:List UInt8}(hb:b.length=128)(hw:D.waits.length<1000000):(putD D n b).Ok:=by
 refine⟨h.many0,h.many1,h.kept,?_,h.inuse,by simp[putD];exact h.might,fun p hp=>?_,h.room,h.cut,by simp[putD];omega⟩
 · unfold putD;simp only;rw[ji (by rw[h.now,hb];omega)];exact h.now
 · unfold putD at hp;rcases List.mem_append.1 hp with q | q
   · exact h.waits p q
   · obtain rfl:p=(n.toNat,b):=by simpa using q
     exact⟨by show n.toNat<D.many;omega,hb⟩
theorem flushD_ok (h:D.Ok):(jj D).Ok :=
 ⟨h.many0,h.many1,(keepK_len h _ aW).1,h.now,(keepK_len h _ aW).2,h.might,fun p hp=>(by cases hp),h.room,h.cut,by show 0<=1000000;omega⟩
theorem crashV_ok (h:D.Ok)(cs:List UInt8):(fP D cs).Ok:=by
 have hl:=pE h cs (min D.waits.length cs.length) (Nat.min_le_left _ _);exact⟨h.many0,h.many1,hl.1,hl.1,hl.2,hl.2,fun p hp=>(by cases hp),h.room,⟨by show (-1:Int)<=-1;omega,by show (-1:Int)<=_;omega⟩,by show 0<=1000000;omega⟩
theorem newV_ok {room:Int}(h0:1<=many)(h1:many<=4096)(r0:0<=room)(r1:room<=many):(newV many room).Ok :=
 ⟨h0,h1,by simp[newV],by simp[newV],by simp[newV],by simp[newV],fun p hp=>(by cases hp),⟨r0,r1⟩,⟨by show (-1:Int)<=-1;omega,by show (-1:Int)<=_;omega⟩,by show 0<=1000000;omega⟩
theorem trues_all {l:List Bool}{n:Nat}(hn:n<l.length)(h:l.getD n false=false):fj l<l.length:=by
 induction l generalizing n with
 | nil=>simp at hn
 | cons b l ih=>
   cases n with
   | zero=>
     have hb:b=false:=by simpa using h
     subst hb;have:=trues_le l
     show (List.filter id (false :: l)).length<_
     rw[List.filter_cons_of_neg aZ];unfold fj at this;simp only[aF];omega
   | succ n=>
     have:=ih (n:=n) (by simpa using hn) (by simpa using h);unfold fj at this ⊢
     cases b with
     | true=>rw[List.filter_cons_of_pos rfl,aF,aF];omega
     | false=>rw[List.filter_cons_of_neg aZ,aF];omega
theorem pieceAt_app {W:List (Nat × List UInt8)}(x:Nat × List UInt8):cY (W ++ [x]) W.length=x:=by
 unfold cY;rw[ah,aM aW];simp
theorem pieceAt_pre {W:List (Nat × List UInt8)}(V:List (Nat × List UInt8)){k:Nat}(h:k<W.length):cY (W ++ V) k=cY W k:=by
 unfold cY;rw[ah,ah,aR h]
theorem keepK_pre {W:List (Nat × List UInt8)}(V:List (Nat × List UInt8))(s:List UInt8 × List Bool):∀ k,k<=W.length->fk (W ++ V) s k=fk W s k:=by
 intro k
 induction k with
 | zero=>intro _;rfl
 | succ k ih=>intro h;unfold fk;rw[ih aS,pieceAt_pre V aS]
theorem keepK_app (W:List (Nat × List UInt8))(x:Nat × List UInt8)(s:List UInt8 × List Bool):fk (W ++ [x]) s (W ++ [x]).length=(splice (fk W s W.length).1 (x.1 * 128) x.2,(fk W s W.length).2.set x.1 true):=by
 rw[aw,aJ]
 show (splice (fk (W ++ [x]) s W.length).1 _ _,_)=_
 rw[keepK_pre [x] s _ aW,pieceAt_app]
structure Calm (D:aX):Prop where
 ok:D.Ok
 cut:D.cut=-1
 off:D.off=false
 room:D.room=D.many
 now:D.now=(fk D.waits (D.kept,D.inuse) D.waits.length).1
 might:D.might=(fk D.waits (D.kept,D.inuse) D.waits.length).2
theorem calm_new (h0:1<=many)(h1:many<=4096):Calm (newV many many):=⟨newV_ok h0 h1 aS aS,rfl,rfl,rfl,rfl,rfl⟩
theorem jl {k:List UInt8}(h:off+k.length<=l.length)(q:Nat):bx (splice l off k) q=if off<=q/\q<off+k.length then bx k (q - off) else bx l q:=by
 unfold bx splice;rw[ah,ah,ah];have ht:(l.take off).length=off:=by rw[aA];omega
 rcases ay q off with h1 | h1
 · rw[if_neg aS,aR aS,aL,if_pos h1]
 · rw[aM aS,ht];rcases ay q (off+k.length) with h2 | h2
   · rw[if_pos ⟨h1,h2⟩,aR aS]
   · rw[if_neg aS,aM aS,List.getElem?_drop,show off+k.length+(q - off - k.length)=q by omega]
theorem nQ {n i:Nat}(h:i<n):bx (l.take n) i=bx l i:=by
 unfold bx;rw[ah,ah,aL,if_pos h]
theorem jY {n i:Nat}(h:i<128):bx (ch l (n:Int)) i=bx l (n * 128+i):=by
 unfold ch;rw[nQ h];unfold bx;rw[ah,ah,List.getElem?_drop,ax]
structure bE where
 d:Nat
 gk:Nat
 gn:Nat
 gi:Nat
 gm:Nat
 gc:Nat
def iD (b:Bool):Value:=.bool b
def ez (p:Nat × List UInt8):List Value:=I (p.1:Int) :: p.2.map bv
def jZ (l:List (Nat × List UInt8)):List Value:=l.flatMap ez
def dcells (p:bE)(A:Option Addr)(c:Nat)(D:aX):List Value :=
 [.slice (some ⟨p.gk,0,none⟩) D.many D.many,.slice (some ⟨p.gn,0,none⟩) D.many D.many,.slice (some ⟨p.gi,0,none⟩) D.many D.many,.slice (some ⟨p.gm,0,none⟩) D.many D.many,
  .slice A D.waits.length c,I D.room,I D.cut,.bool D.off,.pointer (some ⟨p.gc,0,none⟩)]
def foot (p:bE)(A:Option Addr)(g:Nat):Prop:=g=p.d\/g=p.gk\/g=p.gn\/g=p.gi\/g=p.gm\/g=p.gc\/A.map (·.block)=some g
structure bC (w:World)(base:Nat)(p:bE)(A:Option Addr)(c:Nat)(D:aX):Prop where
 ok:D.Ok
 st:Blk w p.d 198 (dcells p A c D)
 bk:BlkB w p.gk 205 D.kept
 bn:BlkB w p.gn 205 D.now
 bi:Blk w p.gi 4 (D.inuse.map iD)
 bm:Blk w p.gm 4 (D.might.map iD)
 mt:eb w p.gc D.ops
 wa:w.ownsRow base 207 129 (.slice A D.waits.length c) D.waits.length (jZ D.waits)
 ne1:p.gk≠p.gn
 ne2:p.gi≠p.gm
 bs:∀ g,foot p A g->base<=g
section
variable {w w':World} {base:Nat} {p:bE} {A:Option Addr} {c:Nat} {D:aX}
theorem bC.lt (h:bC w base p A c D):∀ g,foot p A g->g<w.heap.size:=by
 intro g hg;rcases hg with rfl | rfl | rfl | rfl | rfl | rfl | hg
 · exact h.st.lt
 · exact h.bk.lt
 · exact h.bn.lt
 · exact h.bi.lt
 · exact h.bm.lt
 · exact h.mt.2.lt
 · cases A with
   | none=>cases hg
   | some a=>exact (h.wa.lt g (by simpa [Value.ownBlock] using hg)).2
theorem bC.keep {F:Nat->Prop}(h:bC w base p A c D)(k:Keep F w w')(hn:∀ g,foot p A g->¬ F g):bC w' base p A c D :=
 ⟨h.ok,h.st.keep k (hn _ (.inl rfl)),h.bk.keep k (hn _ (.inr (.inl rfl))),h.bn.keep k (hn _ (.inr (.inr (.inl rfl)))),h.bi.keep k (hn _ (.inr (.inr (.inr (.inl rfl))))),
  h.bm.keep k (hn _ (.inr (.inr (.inr (.inr (.inl rfl)))))),⟨h.mt.1,h.mt.2.keep k (hn _ (.inr (.inr (.inr (.inr (.inr (.inl rfl)))))))⟩,
  il h.wa k (fun g hg=>hn g (.inr (.inr (.inr (.inr (.inr (.inr (by cases A with | none=>simp[Value.ownBlock] at hg | some a=>simpa [Value.ownBlock] using hg)))))))),h.ne1,h.ne2,h.bs⟩
theorem bC.below (h:bC w base p A c D)(hb:Below w.heap.size w w'):bC w' base p A c D:=h.keep (Keep.of_below (F:=fun _=>False) hb) (fun _ _ e=>e)
theorem bC.drewN (h:bC w base p A c D)(k:Nat):bC (w.drewN k) base p A c D:=h.keep ((Keep.refl (fun _=>False) w).drewN k) (fun _ _ e=>e)
theorem bC.alloc (h:bC w base p A c D)(o:Obj):bC (w.alloc o) base p A c D:=h.below ((Below.refl _ _).alloc aW o)
theorem bC.cells (h:bC w base p A c D):w.cell? ⟨p.d,0,none⟩=some (.slice (some ⟨p.gk,0,none⟩) D.many D.many)/\w.cell? ⟨p.d,1,none⟩=some (.slice (some ⟨p.gn,0,none⟩) D.many D.many) /\
 w.cell? ⟨p.d,2,none⟩=some (.slice (some ⟨p.gi,0,none⟩) D.many D.many)/\w.cell? ⟨p.d,3,none⟩=some (.slice (some ⟨p.gm,0,none⟩) D.many D.many)/\w.cell? ⟨p.d,4,none⟩=some (.slice A D.waits.length c) /\
 w.cell? ⟨p.d,5,none⟩=some (I D.room)/\w.cell? ⟨p.d,6,none⟩=some (I D.cut)/\w.cell? ⟨p.d,7,none⟩=some (.bool D.off)/\w.cell? ⟨p.d,8,none⟩=some (.pointer (some ⟨p.gc,0,none⟩)) :=
 ⟨h.st.cell 0,h.st.cell 1,h.st.cell 2,h.st.cell 3,h.st.cell 4,h.st.cell 5,h.st.cell 6,h.st.cell 7,h.st.cell 8⟩
end
theorem is_yes (w:World)(d:Nat)(q:Addr)(h:w.cell? ⟨d,8,none⟩=some (.pointer (some q))):Ca 131 #[.pointer (some ⟨d,0,none⟩)] w fun e w'=>e=.returned (.bool true)/\w=w':=by
 go_enter Tryz.func131,Tryz.ntmps131;go_wp2;go_ret;exact⟨rfl,rfl⟩
section
variable {w:World} {base:Nat} {p:bE} {A:Option Addr} {c:Nat} {D:aX}
theorem isd (h:bC w base p A c D):Ca 131 #[.pointer (some ⟨p.d,0,none⟩)] w fun e w'=>e=.returned (.bool true)/\w=w':=is_yes w p.d _ h.cells.2.2.2.2.2.2.2.2
theorem size_any (h:bC w base p A c D):Ca 48 #[.pointer (some ⟨p.d,0,none⟩)] w fun e w'=>e=.returned (I (D.many:Nat))/\w=w':=by
 have h0:=h.cells.1;have his:=isd h;clear h;go_enter Tryz.func48,Tryz.ntmps48;go_wp2_with (go_at_call 131;go_call (his) as e w1 ⟨rfl,rfl⟩);go_ret;exact⟨rfl,rfl⟩
theorem jI (h:bC w base p A c D)(n:Int):Ca 259 #[.pointer (some ⟨p.d,0,none⟩),I n] w fun e w'=>e=.returned (I (mayV D n))/\w=w':=by
 have h0:=h.cells.1;have h7:=h.cells.2.2.2.2.2.2.2.1;have his:=isd h;clear h;unfold mayV;generalize D.many=s at *
 cases hq:D.off with
 | true=>
   rw[hq] at h7;rw[if_pos rfl];go_enter Tryz.func259,Tryz.ntmps259;go_wp2_with (go_at_call 131;go_call (his) as e w1 ⟨rfl,rfl⟩);go_ret;exact⟨rfl,rfl⟩
 | false=>
   rw[hq] at h7;rw[if_neg aZ];have hcs:n<0\/(0<=n/\(s:Int)<=n)\/(0<=n/\n<s):=aS;rcases hcs with h1 | ⟨h1,h2⟩ | ⟨h1,h2⟩
   · rw[if_pos (.inl h1)];go_enter Tryz.func259,Tryz.ntmps259;go_wp2_with (go_at_call 131;go_call (his) as e w1 ⟨rfl,rfl⟩);go_ret;exact⟨rfl,rfl⟩
   · rw[if_pos (.inr h2)];go_enter Tryz.func259,Tryz.ntmps259;go_wp2_with (go_at_call 131;go_call (his) as e w1 ⟨rfl,rfl⟩);go_ret;exact⟨rfl,rfl⟩
   · rw[if_neg aS];go_enter Tryz.func259,Tryz.ntmps259;go_wp2_with (go_at_call 131;go_call (his) as e w1 ⟨rfl,rfl⟩);go_ret;exact⟨rfl,rfl⟩
end
theorem j5 {w:World}{l:List Bool}(h:Blk w g t (l.map iD))(i:Nat)(hi:i<l.length):w.cell? ⟨g,i,none⟩=some (.bool (l.getD i false)):=by
 rw[h.cell];unfold iD;simp[ah,hi]
section
variable {w:World} {base:Nat} {p:bE} {A:Option Addr} {c:Nat} {D:aX}
theorem left_any (h:bC w base p A c D):Ca 295 #[.pointer (some ⟨p.d,0,none⟩)] w fun e w'=>e=.returned (I (D.room - (fj D.might:Nat)))/\w=w':=by
 have h5:=h.cells.2.2.2.2.2.1;have h3:=h.cells.2.2.2.1;have hmany:=h.ok.many1;have hrr:=h.ok.room;have his:=isd h;have hlen:=aT h.ok.might;have hcell:∀ i,i<D.many->Hid (w.cell? ⟨p.gm,i,none⟩=some (.bool (D.might.getD i false))):=fun i hi=>j5 h.bm i (by rw[h.ok.might];exact hi)
 have htk:∀ i,i<D.many->Hid (fj (D.might.take (i+1))=fj (D.might.take i)+if D.might.getD i false then 1 else 0):=fun i hi=>trues_take _ i (by rw[h.ok.might];exact hi)
 have htl:∀ i,fj (D.might.take i)<=i:=fun i=>ae (trues_le _) (List.length_take_le _ _)
 clear h;generalize D.many=s at *;generalize D.room=room at *;generalize D.might=M at *;go_enter Tryz.func295,Tryz.ntmps295;go_wp2_with (go_at_call 131;go_call (his) as e w1 ⟨rfl,rfl⟩);go_loop [3,18] (fun v i=>∃ k:Nat,k<=s/\i=I (k:Nat)/\v=I (room - (fj (M.take k):Nat))) (fun _ i=>s - (intOf i).toNat)
 case atStart=>exact⟨0,aS,rfl,by simp[fj]⟩
 case round=>
  obtain⟨k,hk,rfl,rfl⟩:=hrel;have hl:=htl k
  by_cases hks:k<s
  · have hc:=(hcell k hks).out;have ht:=htk k hks;clear hcell htk htl;generalize M.getD k false=b at *;generalize fj (M.take k)=x at *
    cases b with
    | true=>
      go_wp2;go_round
      case rel=>exact⟨k+1,aS,by go_num,by rw[ht.out];go_num⟩
      case measure=>simp[intOf];omega
    | false=>
      go_wp2;go_round
      case rel=>exact⟨k+1,aS,by go_num,by rw[ht.out];go_num⟩
      case measure=>simp[intOf];omega
  · have hk9:k=s:=aS;subst hk9;clear hcell htk htl;go_wp2;go_ret;exact⟨ret_int (by rw[au (by rw[hlen.out];omega)]),rfl⟩
theorem bC.nd (h:bC w base p A c D):p.gk≠p.d/\p.gn≠p.d/\p.gi≠p.d/\p.gm≠p.d/\p.gc≠p.d/\A.map (·.block)≠some p.d :=
 ⟨h.bk.ne_ h.st aU,h.bn.ne_ h.st aU,h.bi.ne_ h.st aU,h.bm.ne_ h.st aU,h.mt.2.ne_ h.st aU,fun e=>by
  have:=jy h.wa h.st aU
  cases A with | none=>cases e | some a=>exact this (by simpa [Value.ownBlock] using e)⟩
theorem bC.turn {D':aX}(h:bC w base p A c D)(k:Keep (·=p.d) w w')(hst:Blk w' p.d 198 (dcells p A c D'))(hok:D'.Ok)
 (e1:D'.kept=D.kept) (e2:D'.now=D.now) (e3:D'.inuse=D.inuse) (e4:D'.might=D.might) (e5:D'.waits=D.waits) (e6:D'.ops=D.ops):bC w' base p A c D':=by
 obtain⟨n1,n2,n3,n4,n5,n6⟩:=h.nd;exact⟨hok,hst,by rw[e1];exact h.bk.keep k n1,by rw[e2];exact h.bn.keep k n2,by rw[e3];exact h.bi.keep k n3,by rw[e4];exact h.bm.keep k n4,by rw[e6];exact⟨h.mt.1,h.mt.2.keep k n5⟩,
  by rw[e5];exact il h.wa k (fun g hg e=>n6 (by subst e;cases A with | none=>simp[Value.ownBlock] at hg | some a=>simpa [Value.ownBlock] using hg)),h.ne1,h.ne2,h.bs⟩
theorem bC.turnOps {l:List Int}(h:bC w base p A c D)(hg:w.grownBy w' (some p.gc))(hm:eb w' p.gc l):bC w' base p A c { D with ops:=l }:=by
 have k:Keep (·=p.gc) w w':=Keep.of_grown hg (fun g e=>by injection e with e;exact e.symm);have n1:p.d≠p.gc:=fun e=>h.nd.2.2.2.2.1 e.symm
 refine⟨⟨h.ok.many0,h.ok.many1,h.ok.kept,h.ok.now,h.ok.inuse,h.ok.might,h.ok.waits,h.ok.room,h.ok.cut,h.ok.few⟩,h.st.keep k n1,h.bk.keep k (h.bk.ne_ h.mt.2 aU),h.bn.keep k (h.bn.ne_ h.mt.2 aU),h.bi.keep k (h.bi.ne_ h.mt.2 aU),h.bm.keep k (h.bm.ne_ h.mt.2 aU),hm,?_,h.ne1,h.ne2,h.bs⟩;exact il h.wa k (fun g hg e=>jy h.wa h.mt.2 aU (by subst e;exact hg))
theorem bC.setOff (h:bC w base p A c D)(b:Bool):bC (w.setCell ⟨p.d,7,none⟩ (.bool b)) base p A c { D with off:=b } :=
 h.turn (Keep.of_grown (dw _) (fun g e=>by injection e with e;exact e.symm)) (h.st.set_ 7 _) ⟨h.ok.many0,h.ok.many1,h.ok.kept,h.ok.now,h.ok.inuse,h.ok.might,h.ok.waits,h.ok.room,h.ok.cut,h.ok.few⟩ rfl rfl rfl rfl rfl rfl
theorem bC.setCut (h:bC w base p A c D)(x:Int)(hx:-1<=x/\x<=9223372036854775807):bC (w.setCell ⟨p.d,6,none⟩ (I x)) base p A c { D with cut:=x } :=
 h.turn (Keep.of_grown (dw _) (fun g e=>by injection e with e;exact e.symm)) (h.st.set_ 6 _) ⟨h.ok.many0,h.ok.many1,h.ok.kept,h.ok.now,h.ok.inuse,h.ok.might,h.ok.waits,h.ok.room,hx,h.ok.few⟩ rfl rfl rfl rfl rfl rfl
theorem nR (h:bC w base p A c D)(kind:Int):Ca 260 #[.pointer (some ⟨p.d,0,none⟩),I kind] w fun e w'=>
 e=.returned (.bool (D.cut == 0))/\bC w' base p A c (ey D kind)/\Keep (foot p A) w w'/\w'.heap.size=w.heap.size:=by
 have h8:=h.cells.2.2.2.2.2.2.2.2;have hadd:=fun w' (hm:eb w' p.gc D.ops)=>add_any p.gc D.ops kind 1 w' hm
 have hcut:=h.ok.cut;unfold ey
 by_cases hc:0<=D.cut
 · rw[if_pos hc];have h':=aT h;go_enter Tryz.func260,Tryz.ntmps260;go_wp2_with ((go_at_call 285;go_call (hadd _ h'.out.mt) as e w1 ⟨rfl,hm1,hg1,hs1⟩);have h1:=h'.out.turnOps hg1 hm1;have k1:Keep (foot p A) w w1:=(Keep.of_grown hg1 (fun g e=>by injection e with e;exact .inr (.inr (.inr (.inr (.inr (.inl e.symm)))))));have f7:=h1.st.frozen 7;have f6:=h1.st.frozen 6;have c6:w1.cell? ⟨p.d,6,none⟩=some (I D.cut):=h1.cells.2.2.2.2.2.2.1;have c7:w1.cell? ⟨p.d,7,none⟩=some (.bool D.off):=h1.cells.2.2.2.2.2.2.2.1;have H1:=aT h1;clear h1);go_ret;exact⟨rfl,(H1.out.setOff (D.cut == 0)).setCut (D.cut - 1) aS,(k1.set_ _ (.inl rfl)).set_ _ (.inl rfl),by simp[World.setCell,hs1]⟩
 · rw[if_neg hc];have h':=aT h;go_enter Tryz.func260,Tryz.ntmps260;go_wp2_with ((go_at_call 285;go_call (hadd _ h'.out.mt) as e w1 ⟨rfl,hm1,hg1,hs1⟩);have h1:=h'.out.turnOps hg1 hm1;have k1:Keep (foot p A) w w1:=(Keep.of_grown hg1 (fun g e=>by injection e with e;exact .inr (.inr (.inr (.inr (.inr (.inl e.symm)))))));have f7:=h1.st.frozen 7;have f6:=h1.st.frozen 6;have c6:w1.cell? ⟨p.d,6,none⟩=some (I D.cut):=h1.cells.2.2.2.2.2.2.1;have c7:w1.cell? ⟨p.d,7,none⟩=some (.bool D.off):=h1.cells.2.2.2.2.2.2.2.1;have H1:=aT h1;clear h1);go_ret;exact⟨rfl,H1.out.setOff (D.cut == 0),k1.set_ _ (.inl rfl),by simp[World.setCell,hs1]⟩
theorem cut_any (h:bC w base p A c D)(n:Int)(hn:n<=9223372036854775807):Ca 42 #[.pointer (some ⟨p.d,0,none⟩),I n] w fun e w'=>
 e=.returned (.tuple #[])/\bC w' base p A c { D with cut:=max n (-1) }/\Keep (foot p A) w w'/\w'.heap.size=w.heap.size:=by
 have c6:=h.cells.2.2.2.2.2.2.1;have f6:=h.st.frozen 6;have his:=isd h;have hset:=aT (h.setCut (max n (-1)) aS);clear h;generalize hm:max n (-1)=x at *;have hmin:∀ w:World,(Builtin.max_ #[3,3] 3 #[I n,I (-1)]).run Tryz.prog w=.ok (I x) w:=fun w=>(run_max_int2 (P:=Tryz.prog) (w:=w) _ _ _ _ _ _).trans (by rw[<- hm,show max n (-1)=(if (-1:Int) > n then -1 else n) from by split <;> omega])
 clear hm;go_enter Tryz.func42,Tryz.ntmps42;go_wp2_with (go_at_call 131;go_call (his) as e w1 ⟨rfl,rfl⟩);go_end0;exact⟨rfl,hset.out,(Keep.refl _ _).set_ _ (.inl rfl),by simp[World.setCell]⟩
theorem okWith (h:D.Ok){k n:List UInt8}{i m:List Bool}(hk:k.length=D.many * 128)(hn:n.length=D.many * 128)(hi:i.length=D.many)(hm:m.length=D.many):({ D with kept:=k,now:=n,inuse:=i,might:=m }:aX).Ok :=
 ⟨h.many0,h.many1,hk,hn,hi,hm,h.waits,h.room,h.cut,h.few⟩
theorem bC.waNe (h:bC w base p A c D){cs:List Value}(hg:Blk w g t cs)(hne:207≠t):∀ x,(Value.slice A D.waits.length c).ownBlock=some x->¬ x=g:=fun x hx e=>jy h.wa hg hne (by rw[hx,e])
theorem bC.turnNow (h:bC w base p A c D)(k:Keep (·=p.gn) w w')(hb:BlkB w' p.gn 205 l)(hl:l.length=D.many * 128):bC w' base p A c { D with now:=l } :=
 ⟨okWith h.ok h.ok.kept hl h.ok.inuse h.ok.might,h.st.keep k (h.st.ne_ h.bn aU),h.bk.keep k h.ne1,hb,h.bi.keep k (h.bi.ne_ h.bn aU),h.bm.keep k (h.bm.ne_ h.bn aU),⟨h.mt.1,h.mt.2.keep k (h.mt.2.ne_ h.bn aU)⟩,il h.wa k (h.waNe h.bn aU),h.ne1,h.ne2,h.bs⟩
theorem bC.turnKept (h:bC w base p A c D)(k:Keep (·=p.gk) w w')(hb:BlkB w' p.gk 205 l)(hl:l.length=D.many * 128):bC w' base p A c { D with kept:=l } :=
 ⟨okWith h.ok hl h.ok.now h.ok.inuse h.ok.might,h.st.keep k (h.st.ne_ h.bk aU),hb,h.bn.keep k (fun e=>h.ne1 e.symm),h.bi.keep k (h.bi.ne_ h.bk aU),h.bm.keep k (h.bm.ne_ h.bk aU),⟨h.mt.1,h.mt.2.keep k (h.mt.2.ne_ h.bk aU)⟩,il h.wa k (h.waNe h.bk aU),h.ne1,h.ne2,h.bs⟩
theorem bC.turnMight {l:List Bool}(h:bC w base p A c D)(k:Keep (·=p.gm) w w')(hb:Blk w' p.gm 4 (l.map iD))(hl:l.length=D.many):bC w' base p A c { D with might:=l } :=
 ⟨okWith h.ok h.ok.kept h.ok.now h.ok.inuse hl,h.st.keep k (h.st.ne_ h.bm aU),h.bk.keep k (h.bk.ne_ h.bm aU),h.bn.keep k (h.bn.ne_ h.bm aU),h.bi.keep k h.ne2,hb,⟨h.mt.1,h.mt.2.keep k (h.mt.2.ne_ h.bm aU)⟩,il h.wa k (h.waNe h.bm aU),h.ne1,h.ne2,h.bs⟩
theorem bC.turnIn {l:List Bool}(h:bC w base p A c D)(k:Keep (·=p.gi) w w')(hb:Blk w' p.gi 4 (l.map iD))(hl:l.length=D.many):bC w' base p A c { D with inuse:=l } :=
 ⟨okWith h.ok h.ok.kept h.ok.now hl h.ok.might,h.st.keep k (h.st.ne_ h.bi aU),h.bk.keep k (h.bk.ne_ h.bi aU),h.bn.keep k (h.bn.ne_ h.bi aU),hb,h.bm.keep k (fun e=>h.ne2 e.symm),⟨h.mt.1,h.mt.2.keep k (h.mt.2.ne_ h.bi aU)⟩,il h.wa k (h.waNe h.bi aU),h.ne1,h.ne2,h.bs⟩
theorem boolSet {w:World}{l:List Bool}(h:Blk w g t (l.map iD))(i:Nat)(b:Bool):Blk (w.setCell ⟨g,i,none⟩ (.bool b)) g t ((l.set i b).map iD):=by
 have:=h.set_ i (.bool b);rw[List.map_set];exact this
theorem bC.setMight (h:bC w base p A c D)(n:Nat)(b:Bool):bC (w.setCell ⟨p.gm,n,none⟩ (.bool b)) base p A c { D with might:=D.might.set n b } :=
 h.turnMight (Keep.one (dw _)) (boolSet h.bm n b) (by rw[List.length_set];exact h.ok.might)
theorem bC.setIn (h:bC w base p A c D)(n:Nat)(b:Bool):bC (w.setCell ⟨p.gi,n,none⟩ (.bool b)) base p A c { D with inuse:=D.inuse.set n b } :=
 h.turnIn (Keep.one (dw _)) (boolSet h.bi n b) (by rw[List.length_set];exact h.ok.inuse)
end
section
variable {w:World} {base:Nat} {p:bE} {A:Option Addr} {c:Nat} {D:aX}
theorem read_no (h:bC w base p A c D)(n:Int)(hn:mayV D n≠0):Ca 236 #[.pointer (some ⟨p.d,0,none⟩),I n] w fun e w'=>
 e=.returned (.tuple #[aggB bw,I (mayV D n)])/\Below w.heap.size w w':=by
 have hz:=(zero_of_info dy).1;have Hi:=aT (zero_of_info dy).2;have hlz:Hid ((bw.map bv).length=128):=by show _=_;simp[dI]
 have H1:=aT (ew (l:=bw));have hmay:∀ o,Ca 259 #[.pointer (some ⟨p.d,0,none⟩),I n] (w.alloc o) fun e w'=>e=.returned (I (mayV D n))/\(w.alloc o)=w':=fun o=>jI (h.alloc o) n
 have hne:(mayV D n != 0)=true:=by rw[ag];exact hn
 unfold aggB at *;generalize bw.map bv=Z at *;generalize mayV D n=z at *;clear h hn;go_enter Tryz.func236,Tryz.ntmps236;go_wp2_with (first | (go_at_call 259;go_call (hmay _) as e w1 ⟨rfl,rfl⟩) | (refine eu rfl (x:=.tmp 4) (y:=.tmp 12) rfl rfl rfl (t:=205) (cs:=Z) (xs:=Z) (Blk.top _ rfl rfl) Hi.out hlz.out gu H1.out ?_;intro w2 hb2 hg2 hs2;rw[dS _ _ rfl] at hb2) | fail);refine bodyPost_ret (v:=.tuple #[.agg Z.toArray,I z]) (jN Tryz.results236 _ rfl rfl hb2 Tryz.underlying205 Hi.out hlz.out) rfl ?_;exact⟨rfl,et ((Below.refl _ _).alloc aW _) hg2 aZ aW⟩
theorem read_yes (h:bC w base p A c D)(n:Int)(hn:mayV D n=0):Ca 236 #[.pointer (some ⟨p.d,0,none⟩),I n] w fun e w'=>
 e=.returned (.tuple #[aggB (ch D.now n),I 0])/\bC w' base p A c (dZ D)/\Keep (foot p A) w w':=by
 have hz:=(zero_of_info dy).1;have Hi:=aT (zero_of_info dy).2;have hlz:Hid ((bw.map bv).length=128):=by show _=_;simp[dI]
 have hmay:∀ o,Ca 259 #[.pointer (some ⟨p.d,0,none⟩),I n] (w.alloc o) fun e w'=>e=.returned (I (mayV D n))/\(w.alloc o)=w':=fun o=>jI (h.alloc o) n
 rw[hn] at hmay;obtain⟨_,h0,h1⟩:=kT hn;obtain⟨k,rfl⟩:∃ k:Nat,n=(k:Int):=⟨n.toNat,aS⟩;have hk:k<D.many:=aS;have hsec:=iC h.ok.now h0 h1;have hadd:=fun w' (hm:eb w' p.gc D.ops)=>add_any p.gc D.ops 1 1 w' hm
 have c8:=h.cells.2.2.2.2.2.2.2.2;have hl8:=h.st.lt;have hH:=aT h;unfold aggB at *;generalize hZ:bw.map bv=Z at *;have hsecl:Hid (((ch D.now (k:Int)).map bv).length=128):=by show _=_;simp[hsec]
 have hsm:Hid (∀ v ∈ (ch D.now (k:Int)).map bv,v.oneCell'=true):=ew;have hat:Hid ((((D.now.map bv).drop (k * 128)).take 128)=(ch D.now (k:Int)).map bv):=by show _=_;unfold ch;rw[ax,List.map_take,List.map_drop]
 generalize (ch D.now (k:Int)).map bv=S at *;clear h hn hZ hsec;go_enter Tryz.func236,Tryz.ntmps236;go_wp2_with (first | (go_at_call 259;go_call (hmay _) as e w1 ⟨rfl,rfl⟩) | ((go_at_call 285;go_call (hadd _ (hH.out.alloc _).mt) as e w2 ⟨rfl,hm2,hg2,hs2⟩);have H2:=aT ((hH.out.alloc (.cells Z.toArray 205)).turnOps hg2 hm2);have d1:w2.cell? ⟨p.d,1,none⟩=some (.slice (some ⟨p.gn,0,none⟩) D.many D.many):=H2.out.cells.2.1;have hz2:=Blk.grown (w':=w2) (g:=w.heap.size) (t:=205) (cs:=Z) bI hg2 (by have:=hH.out.mt.2.lt;intro e;injection e with e;omega)) | (refine fi rfl (x:=.tmp 24) rfl rfl H2.out.bn Tryz.underlying205 Hi.out hsecl.out hat.out ?_) | (refine eu rfl (x:=.tmp 4) (y:=.tmp 25) rfl rfl rfl hz2 Hi.out hsecl.out gu hsm.out ?_;intro w3 hb3 hg3 hs3;rw[dS _ _ (hlz.out.trans hsecl.out.symm)] at hb3) | fail);refine bodyPost_ret (v:=.tuple #[.agg S.toArray,I 0]) (jN Tryz.results236 _ rfl rfl hb3 Tryz.underlying205 Hi.out hsecl.out) rfl ?_;have k2:Keep (foot p A) w w2:=((Keep.refl _ _).alloc _).then_grown hg2 (fun g e=>by injection e with e;exact .inr (.inr (.inr (.inr (.inr (.inl e.symm))))));have hlt:=fun g hg=>hH.out.lt g hg
 refine⟨rfl,H2.out.keep (F:=(·=w.heap.size)) (Keep.one hg3) (fun g hg e=>by have:=hlt g hg;omega),k2.trans (G:=(·=w.heap.size)) (Keep.one hg3) (fun x hx e=>by omega)⟩
end
