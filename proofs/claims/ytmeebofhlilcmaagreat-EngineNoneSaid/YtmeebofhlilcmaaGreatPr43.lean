/- Parts: EngI, EngJ. -/
import Derived.Test.YtmeebofhlilcmaaGreatPr02
import Derived.Test.YtmeebofhlilcmaaGreatPr42
set_option linter.unusedVariables false
set_option linter.unusedSimpArgs false
set_option maxRecDepth 100000
set_option maxHeartbeats 40000000
namespace Go.Proofs.YtmeebofhlilcmaaGreat
open Go.RowKit
def fmtSt (R1 R2 R3 R4:World→Prop) (z1 z2 z3 z4:Int) (w:World) (k:Nat) (wr:World):Prop:=(k=0∧wr=w)∨(k=1∧z1=0∧R1 wr)∨(k=2∧z1=0∧z2=0∧R2 wr)∨(k=3∧z1=0∧z2=0∧z3=0∧R3 wr)∨(k=4∧z1=0∧z2=0∧z3=0∧z4=0∧R4 wr)
def fmtPost (R1 R2 R3 R4:World→Prop) (z1 z2 z3 z4:Int) (e:Ending) (w':World):Prop:=(z1≠0∧e=.returned (.int .i64 z1)∧R1 w')∨(z1=0∧z2≠0∧e=.returned (.int .i64 z2)∧R2 w')∨(z1=0∧z2=0∧z3≠0∧e=.returned (.int .i64 z3)∧R3 w')∨(z1=0∧z2=0∧z3=0∧e=.returned (.int .i64 z4)∧R4 w')
def fmtL (v8 v6 va:Value):List Value:=[.func (.func 110) #[] #[v8],.func (.func 112) #[] #[v8],.func (.func 114) #[] #[v8,v6],.func (.func 116) #[va] #[]]
theorem vb9 {W:World} {gf:Nat} {v8 v6 va:Value} (h:Blk W gf 61 (fmtL v8 v6 va)):W.cell? ⟨gf,0,none⟩=some (.func (.func 110) #[] #[v8])∧W.cell? ⟨gf,1,none⟩=some (.func (.func 112) #[] #[v8])∧W.cell? ⟨gf,2,none⟩=some (.func (.func 114) #[] #[v8,v6])∧W.cell? ⟨gf,3,none⟩=some (.func (.func 116) #[va] #[]):=⟨h.cell 0,h.cell 1,h.cell 2,h.cell 3⟩
theorem first_fmt {w:World} {R1 R2 R3 R4:World→Prop} {z1 z2 z3 z4:Int} {v8 v6 va:Value} {gf:Nat} (p0:Blk w gf 61 (fmtL v8 v6 va))
    (p1:∀ W,R1 W→Blk W gf 61 (fmtL v8 v6 va))
    (p2:∀ W,R2 W→Blk W gf 61 (fmtL v8 v6 va))
    (p3:∀ W,R3 W→Blk W gf 61 (fmtL v8 v6 va))
    (h1:Calls Tryz.prog 110 #[v8] w fun e w' => e=.returned (.int .i64 z1)∧R1 w')
    (h2:z1=0→∀ W,R1 W→Calls Tryz.prog 112 #[v8] W fun e w' => e=.returned (.int .i64 z2)∧R2 w')
    (h3:z1=0→z2=0→∀ W,R2 W→Calls Tryz.prog 114 #[v8,v6] W fun e w' => e=.returned (.int .i64 z3)∧R3 w')
    (h4:z1=0→z2=0→z3=0→∀ W,R3 W→Calls Tryz.prog 116 #[va] W fun e w' => e=.returned (.int .i64 z4)∧R4 w')
    : Calls Tryz.prog 100 #[.slice (some ⟨gf,0,none⟩) 4 4] w (fmtPost R1 R2 R3 R4 z1 z2 z3 z4):=by
  go_enter Tryz.func100,Tryz.ntmps100;go_wp2_with fail;go_loopw [4,5,8] (fun _ _ i wr => ∃ k:Nat,i=.int .i64 (k:Nat)∧fmtSt R1 R2 R3 R4 z1 z2 z3 z4 w k wr) (fun _ _ i _ => 4 - (intOf i).toNat)
  case atStart => exact ⟨0,rfl,.inl ⟨rfl,rfl⟩⟩
  case round =>
    obtain ⟨k,rfl,hst⟩:=hrel;rcases hst with ⟨rfl,rfl⟩ | ⟨rfl,rfl,hr⟩ | ⟨rfl,rfl,rfl,hr⟩ | ⟨rfl,rfl,rfl,rfl,hr⟩ | ⟨rfl,rfl,rfl,rfl,rfl,hr⟩
    · obtain ⟨a0,a1,a2,a3⟩:=vb9 p0;have hc:=h1
      skip
      by_cases kz:z1=0
      · subst kz;go_wp2_with (first | ((go_at_call 110;(with_reducible refine (hc).mono ?_);rintro e w2 ⟨rfl,r2⟩);have Q2:=hdd r2;clear r2) | fail "no arm");go_roundw
        case rel => first | exact ⟨1,(by first | rfl | go_num | (simp;done)),.inr (.inl ⟨rfl,rfl,Q2.out⟩)⟩ | ((repeat apply Exists.intro);exact ⟨⟨1,(by first | rfl | go_num | (simp;done)),.inr (.inl ⟨rfl,rfl,Q2.out⟩)⟩,rfl⟩)
        case measure => simp [intOf]
      · have b1:(z1 != 0)=true:=by rw [bne_iff_ne];exact kz
        have KZ:=hdd kz;clear kz;go_wp2_with (first | ((go_at_call 110;(with_reducible refine (hc).mono ?_);rintro e w2 ⟨rfl,r2⟩);have Q2:=hdd r2;clear r2) | fail "no arm");go_ret;exact .inl ⟨KZ.out,rfl,Q2.out⟩
    · obtain ⟨a0,a1,a2,a3⟩:=vb9 (p1 _ hr);have hc:=h2 rfl _ hr;clear hr
      by_cases kz:z2=0
      · subst kz;go_wp2_with (first | ((go_at_call 112;(with_reducible refine (hc).mono ?_);rintro e w2 ⟨rfl,r2⟩);have Q2:=hdd r2;clear r2) | fail "no arm");go_roundw
        case rel => first | exact ⟨2,(by first | rfl | go_num | (simp;done)),.inr (.inr (.inl ⟨rfl,rfl,rfl,Q2.out⟩))⟩ | ((repeat apply Exists.intro);exact ⟨⟨2,(by first | rfl | go_num | (simp;done)),.inr (.inr (.inl ⟨rfl,rfl,rfl,Q2.out⟩))⟩,rfl⟩)
        case measure => simp [intOf]
      · have b1:(z2 != 0)=true:=by rw [bne_iff_ne];exact kz
        have KZ:=hdd kz;clear kz;go_wp2_with (first | ((go_at_call 112;(with_reducible refine (hc).mono ?_);rintro e w2 ⟨rfl,r2⟩);have Q2:=hdd r2;clear r2) | fail "no arm");go_ret;exact .inr (.inl ⟨rfl,KZ.out,rfl,Q2.out⟩)
    · obtain ⟨a0,a1,a2,a3⟩:=vb9 (p2 _ hr);have hc:=h3 rfl rfl _ hr;clear hr
      by_cases kz:z3=0
      · subst kz;go_wp2_with (first | ((go_at_call 114;(with_reducible refine (hc).mono ?_);rintro e w2 ⟨rfl,r2⟩);have Q2:=hdd r2;clear r2) | fail "no arm");go_roundw
        case rel => first | exact ⟨3,(by first | rfl | go_num | (simp;done)),.inr (.inr (.inr (.inl ⟨rfl,rfl,rfl,rfl,Q2.out⟩)))⟩ | ((repeat apply Exists.intro);exact ⟨⟨3,(by first | rfl | go_num | (simp;done)),.inr (.inr (.inr (.inl ⟨rfl,rfl,rfl,rfl,Q2.out⟩)))⟩,rfl⟩)
        case measure => simp [intOf]
      · have b1:(z3 != 0)=true:=by rw [bne_iff_ne];exact kz
        have KZ:=hdd kz;clear kz;go_wp2_with (first | ((go_at_call 114;(with_reducible refine (hc).mono ?_);rintro e w2 ⟨rfl,r2⟩);have Q2:=hdd r2;clear r2) | fail "no arm");go_ret;exact .inr (.inr (.inl ⟨rfl,rfl,KZ.out,rfl,Q2.out⟩))
    · obtain ⟨a0,a1,a2,a3⟩:=vb9 (p3 _ hr);have hc:=h4 rfl rfl rfl _ hr;clear hr
      by_cases kz:z4=0
      · subst kz;go_wp2_with (first | ((go_at_call 116;(with_reducible refine (hc).mono ?_);rintro e w2 ⟨rfl,r2⟩);have Q2:=hdd r2;clear r2) | fail "no arm");go_roundw
        case rel => first | exact ⟨4,(by first | rfl | go_num | (simp;done)),.inr (.inr (.inr (.inr ⟨rfl,rfl,rfl,rfl,rfl,Q2.out⟩)))⟩ | ((repeat apply Exists.intro);exact ⟨⟨4,(by first | rfl | go_num | (simp;done)),.inr (.inr (.inr (.inr ⟨rfl,rfl,rfl,rfl,rfl,Q2.out⟩)))⟩,rfl⟩)
        case measure => simp [intOf]
      · have b1:(z4 != 0)=true:=by rw [bne_iff_ne];exact kz
        have KZ:=hdd kz;clear kz;go_wp2_with (first | ((go_at_call 116;(with_reducible refine (hc).mono ?_);rintro e w2 ⟨rfl,r2⟩);have Q2:=hdd r2;clear r2) | fail "no arm");go_ret;exact .inr (.inr (.inr (⟨rfl,rfl,rfl,rfl,Q2.out⟩)))
    · have Q2:=hdd hr;clear hr;go_wp2_with fail;go_ret;exact .inr (.inr (.inr (⟨rfl,rfl,rfl,rfl,Q2.out⟩)))
def prtSt (R1 R2 R3:World→Prop) (z1 z2 z3:Int) (w:World) (k:Nat) (wr:World):Prop:=(k=0∧wr=w)∨(k=1∧z1=0∧R1 wr)∨(k=2∧z1=0∧z2=0∧R2 wr)∨(k=3∧z1=0∧z2=0∧z3=0∧R3 wr)
def prtPost (R1 R2 R3:World→Prop) (z1 z2 z3:Int) (e:Ending) (w':World):Prop:=(z1≠0∧e=.returned (.int .i64 z1)∧R1 w')∨(z1=0∧z2≠0∧e=.returned (.int .i64 z2)∧R2 w')∨(z1=0∧z2=0∧e=.returned (.int .i64 z3)∧R3 w')
def prtL (v9 v7 v4:Value):List Value:=[.func (.func 190) #[] #[v9,v7,v4],.func (.func 192) #[] #[v9,v7,v4],.func (.func 194) #[] #[v9,v7,v4]]
theorem vg7 {W:World} {gf:Nat} {v9 v7 v4:Value} (h:Blk W gf 61 (prtL v9 v7 v4)):W.cell? ⟨gf,0,none⟩=some (.func (.func 190) #[] #[v9,v7,v4])∧W.cell? ⟨gf,1,none⟩=some (.func (.func 192) #[] #[v9,v7,v4])∧W.cell? ⟨gf,2,none⟩=some (.func (.func 194) #[] #[v9,v7,v4]):=⟨h.cell 0,h.cell 1,h.cell 2⟩
theorem first_prt {w:World} {R1 R2 R3:World→Prop} {z1 z2 z3:Int} {v9 v7 v4:Value} {gf:Nat} (p0:Blk w gf 61 (prtL v9 v7 v4))
    (p1:∀ W,R1 W→Blk W gf 61 (prtL v9 v7 v4))
    (p2:∀ W,R2 W→Blk W gf 61 (prtL v9 v7 v4))
    (h1:Calls Tryz.prog 190 #[v9,v7,v4] w fun e w' => e=.returned (.int .i64 z1)∧R1 w')
    (h2:z1=0→∀ W,R1 W→Calls Tryz.prog 192 #[v9,v7,v4] W fun e w' => e=.returned (.int .i64 z2)∧R2 w')
    (h3:z1=0→z2=0→∀ W,R2 W→Calls Tryz.prog 194 #[v9,v7,v4] W fun e w' => e=.returned (.int .i64 z3)∧R3 w')
    : Calls Tryz.prog 100 #[.slice (some ⟨gf,0,none⟩) 3 3] w (prtPost R1 R2 R3 z1 z2 z3):=by
  go_enter Tryz.func100,Tryz.ntmps100;go_wp2_with fail;go_loopw [4,5,8] (fun _ _ i wr => ∃ k:Nat,i=.int .i64 (k:Nat)∧prtSt R1 R2 R3 z1 z2 z3 w k wr) (fun _ _ i _ => 3 - (intOf i).toNat)
  case atStart => exact ⟨0,rfl,.inl ⟨rfl,rfl⟩⟩
  case round =>
    obtain ⟨k,rfl,hst⟩:=hrel;rcases hst with ⟨rfl,rfl⟩ | ⟨rfl,rfl,hr⟩ | ⟨rfl,rfl,rfl,hr⟩ | ⟨rfl,rfl,rfl,rfl,hr⟩
    · obtain ⟨a0,a1,a2⟩:=vg7 p0;have hc:=h1
      skip
      by_cases kz:z1=0
      · subst kz;go_wp2_with (first | ((go_at_call 190;(with_reducible refine (hc).mono ?_);rintro e w2 ⟨rfl,r2⟩);have Q2:=hdd r2;clear r2) | fail "no arm");go_roundw
        case rel => first | exact ⟨1,(by first | rfl | go_num | (simp;done)),.inr (.inl ⟨rfl,rfl,Q2.out⟩)⟩ | ((repeat apply Exists.intro);exact ⟨⟨1,(by first | rfl | go_num | (simp;done)),.inr (.inl ⟨rfl,rfl,Q2.out⟩)⟩,rfl⟩)
        case measure => simp [intOf]
      · have b1:(z1 != 0)=true:=by rw [bne_iff_ne];exact kz
        have KZ:=hdd kz;clear kz;go_wp2_with (first | ((go_at_call 190;(with_reducible refine (hc).mono ?_);rintro e w2 ⟨rfl,r2⟩);have Q2:=hdd r2;clear r2) | fail "no arm");go_ret;exact .inl ⟨KZ.out,rfl,Q2.out⟩
    · obtain ⟨a0,a1,a2⟩:=vg7 (p1 _ hr);have hc:=h2 rfl _ hr;clear hr
      by_cases kz:z2=0
      · subst kz;go_wp2_with (first | ((go_at_call 192;(with_reducible refine (hc).mono ?_);rintro e w2 ⟨rfl,r2⟩);have Q2:=hdd r2;clear r2) | fail "no arm");go_roundw
        case rel => first | exact ⟨2,(by first | rfl | go_num | (simp;done)),.inr (.inr (.inl ⟨rfl,rfl,rfl,Q2.out⟩))⟩ | ((repeat apply Exists.intro);exact ⟨⟨2,(by first | rfl | go_num | (simp;done)),.inr (.inr (.inl ⟨rfl,rfl,rfl,Q2.out⟩))⟩,rfl⟩)
        case measure => simp [intOf]
      · have b1:(z2 != 0)=true:=by rw [bne_iff_ne];exact kz
        have KZ:=hdd kz;clear kz;go_wp2_with (first | ((go_at_call 192;(with_reducible refine (hc).mono ?_);rintro e w2 ⟨rfl,r2⟩);have Q2:=hdd r2;clear r2) | fail "no arm");go_ret;exact .inr (.inl ⟨rfl,KZ.out,rfl,Q2.out⟩)
    · obtain ⟨a0,a1,a2⟩:=vg7 (p2 _ hr);have hc:=h3 rfl rfl _ hr;clear hr
      by_cases kz:z3=0
      · subst kz;go_wp2_with (first | ((go_at_call 194;(with_reducible refine (hc).mono ?_);rintro e w2 ⟨rfl,r2⟩);have Q2:=hdd r2;clear r2) | fail "no arm");go_roundw
        case rel => first | exact ⟨3,(by first | rfl | go_num | (simp;done)),.inr (.inr (.inr ⟨rfl,rfl,rfl,rfl,Q2.out⟩))⟩ | ((repeat apply Exists.intro);exact ⟨⟨3,(by first | rfl | go_num | (simp;done)),.inr (.inr (.inr ⟨rfl,rfl,rfl,rfl,Q2.out⟩))⟩,rfl⟩)
        case measure => simp [intOf]
      · have b1:(z3 != 0)=true:=by rw [bne_iff_ne];exact kz
        have KZ:=hdd kz;clear kz;go_wp2_with (first | ((go_at_call 194;(with_reducible refine (hc).mono ?_);rintro e w2 ⟨rfl,r2⟩);have Q2:=hdd r2;clear r2) | fail "no arm");go_ret;exact .inr (.inr (⟨rfl,rfl,rfl,Q2.out⟩))
    · have Q2:=hdd hr;clear hr;go_wp2_with fail;go_ret;exact .inr (.inr (⟨rfl,rfl,rfl,Q2.out⟩))
def opnSt (R1 R2 R3 R4 R5:World→Prop) (z1 z2 z3 z4 z5:Int) (w:World) (k:Nat) (wr:World):Prop:=(k=0∧wr=w)∨(k=1∧z1=0∧R1 wr)∨(k=2∧z1=0∧z2=0∧R2 wr)∨(k=3∧z1=0∧z2=0∧z3=0∧R3 wr)∨(k=4∧z1=0∧z2=0∧z3=0∧z4=0∧R4 wr)∨(k=5∧z1=0∧z2=0∧z3=0∧z4=0∧z5=0∧R5 wr)
def opnPost (R1 R2 R3 R4 R5:World→Prop) (z1 z2 z3 z4 z5:Int) (e:Ending) (w':World):Prop:=(z1≠0∧e=.returned (.int .i64 z1)∧R1 w')∨(z1=0∧z2≠0∧e=.returned (.int .i64 z2)∧R2 w')∨(z1=0∧z2=0∧z3≠0∧e=.returned (.int .i64 z3)∧R3 w')∨(z1=0∧z2=0∧z3=0∧z4≠0∧e=.returned (.int .i64 z4)∧R4 w')∨(z1=0∧z2=0∧z3=0∧z4=0∧e=.returned (.int .i64 z5)∧R5 w')
def opnL (v3 v4 v8 v9 v11 vg:Value):List Value:=[.func (.func 101) #[] #[v3,v8,v9],.func (.func 103) #[] #[v11,v3,v8,v4],.func (.func 105) #[] #[v4,v11],.func (.func 107) #[vg] #[],.func (.func 108) #[vg] #[]]
theorem qw4 {W:World} {gf:Nat} {v3 v4 v8 v9 v11 vg:Value} (h:Blk W gf 61 (opnL v3 v4 v8 v9 v11 vg)):W.cell? ⟨gf,0,none⟩=some (.func (.func 101) #[] #[v3,v8,v9])∧W.cell? ⟨gf,1,none⟩=some (.func (.func 103) #[] #[v11,v3,v8,v4])∧W.cell? ⟨gf,2,none⟩=some (.func (.func 105) #[] #[v4,v11])∧W.cell? ⟨gf,3,none⟩=some (.func (.func 107) #[vg] #[])∧W.cell? ⟨gf,4,none⟩=some (.func (.func 108) #[vg] #[]):=⟨h.cell 0,h.cell 1,h.cell 2,h.cell 3,h.cell 4⟩
theorem first_opn {w:World} {R1 R2 R3 R4 R5:World→Prop} {z1 z2 z3 z4 z5:Int} {v3 v4 v8 v9 v11 vg:Value} {gf:Nat} (p0:Blk w gf 61 (opnL v3 v4 v8 v9 v11 vg))
    (p1:∀ W,R1 W→Blk W gf 61 (opnL v3 v4 v8 v9 v11 vg))
    (p2:∀ W,R2 W→Blk W gf 61 (opnL v3 v4 v8 v9 v11 vg))
    (p3:∀ W,R3 W→Blk W gf 61 (opnL v3 v4 v8 v9 v11 vg))
    (p4:∀ W,R4 W→Blk W gf 61 (opnL v3 v4 v8 v9 v11 vg))
    (h1:Calls Tryz.prog 101 #[v3,v8,v9] w fun e w' => e=.returned (.int .i64 z1)∧R1 w')
    (h2:z1=0→∀ W,R1 W→Calls Tryz.prog 103 #[v11,v3,v8,v4] W fun e w' => e=.returned (.int .i64 z2)∧R2 w')
    (h3:z1=0→z2=0→∀ W,R2 W→Calls Tryz.prog 105 #[v4,v11] W fun e w' => e=.returned (.int .i64 z3)∧R3 w')
    (h4:z1=0→z2=0→z3=0→∀ W,R3 W→Calls Tryz.prog 107 #[vg] W fun e w' => e=.returned (.int .i64 z4)∧R4 w')
    (h5:z1=0→z2=0→z3=0→z4=0→∀ W,R4 W→Calls Tryz.prog 108 #[vg] W fun e w' => e=.returned (.int .i64 z5)∧R5 w')
    : Calls Tryz.prog 100 #[.slice (some ⟨gf,0,none⟩) 5 5] w (opnPost R1 R2 R3 R4 R5 z1 z2 z3 z4 z5):=by
  go_enter Tryz.func100,Tryz.ntmps100;go_wp2_with fail;go_loopw [4,5,8] (fun _ _ i wr => ∃ k:Nat,i=.int .i64 (k:Nat)∧opnSt R1 R2 R3 R4 R5 z1 z2 z3 z4 z5 w k wr) (fun _ _ i _ => 5 - (intOf i).toNat)
  case atStart => exact ⟨0,rfl,.inl ⟨rfl,rfl⟩⟩
  case round =>
    obtain ⟨k,rfl,hst⟩:=hrel;rcases hst with ⟨rfl,rfl⟩ | ⟨rfl,rfl,hr⟩ | ⟨rfl,rfl,rfl,hr⟩ | ⟨rfl,rfl,rfl,rfl,hr⟩ | ⟨rfl,rfl,rfl,rfl,rfl,hr⟩ | ⟨rfl,rfl,rfl,rfl,rfl,rfl,hr⟩
    · obtain ⟨a0,a1,a2,a3,a4⟩:=qw4 p0;have hc:=h1
      skip
      by_cases kz:z1=0
      · subst kz;go_wp2_with (first | ((go_at_call 101;(with_reducible refine (hc).mono ?_);rintro e w2 ⟨rfl,r2⟩);have Q2:=hdd r2;clear r2) | fail "no arm");go_roundw
        case rel => first | exact ⟨1,(by first | rfl | go_num | (simp;done)),.inr (.inl ⟨rfl,rfl,Q2.out⟩)⟩ | ((repeat apply Exists.intro);exact ⟨⟨1,(by first | rfl | go_num | (simp;done)),.inr (.inl ⟨rfl,rfl,Q2.out⟩)⟩,rfl⟩)
        case measure => simp [intOf]
      · have b1:(z1 != 0)=true:=by rw [bne_iff_ne];exact kz
        have KZ:=hdd kz;clear kz;go_wp2_with (first | ((go_at_call 101;(with_reducible refine (hc).mono ?_);rintro e w2 ⟨rfl,r2⟩);have Q2:=hdd r2;clear r2) | fail "no arm");go_ret;exact .inl ⟨KZ.out,rfl,Q2.out⟩
    · obtain ⟨a0,a1,a2,a3,a4⟩:=qw4 (p1 _ hr);have hc:=h2 rfl _ hr;clear hr
      by_cases kz:z2=0
      · subst kz;go_wp2_with (first | ((go_at_call 103;(with_reducible refine (hc).mono ?_);rintro e w2 ⟨rfl,r2⟩);have Q2:=hdd r2;clear r2) | fail "no arm");go_roundw
        case rel => first | exact ⟨2,(by first | rfl | go_num | (simp;done)),.inr (.inr (.inl ⟨rfl,rfl,rfl,Q2.out⟩))⟩ | ((repeat apply Exists.intro);exact ⟨⟨2,(by first | rfl | go_num | (simp;done)),.inr (.inr (.inl ⟨rfl,rfl,rfl,Q2.out⟩))⟩,rfl⟩)
        case measure => simp [intOf]
      · have b1:(z2 != 0)=true:=by rw [bne_iff_ne];exact kz
        have KZ:=hdd kz;clear kz;go_wp2_with (first | ((go_at_call 103;(with_reducible refine (hc).mono ?_);rintro e w2 ⟨rfl,r2⟩);have Q2:=hdd r2;clear r2) | fail "no arm");go_ret;exact .inr (.inl ⟨rfl,KZ.out,rfl,Q2.out⟩)
    · obtain ⟨a0,a1,a2,a3,a4⟩:=qw4 (p2 _ hr);have hc:=h3 rfl rfl _ hr;clear hr
      by_cases kz:z3=0
      · subst kz;go_wp2_with (first | ((go_at_call 105;(with_reducible refine (hc).mono ?_);rintro e w2 ⟨rfl,r2⟩);have Q2:=hdd r2;clear r2) | fail "no arm");go_roundw
        case rel => first | exact ⟨3,(by first | rfl | go_num | (simp;done)),.inr (.inr (.inr (.inl ⟨rfl,rfl,rfl,rfl,Q2.out⟩)))⟩ | ((repeat apply Exists.intro);exact ⟨⟨3,(by first | rfl | go_num | (simp;done)),.inr (.inr (.inr (.inl ⟨rfl,rfl,rfl,rfl,Q2.out⟩)))⟩,rfl⟩)
        case measure => simp [intOf]
      · have b1:(z3 != 0)=true:=by rw [bne_iff_ne];exact kz
        have KZ:=hdd kz;clear kz;go_wp2_with (first | ((go_at_call 105;(with_reducible refine (hc).mono ?_);rintro e w2 ⟨rfl,r2⟩);have Q2:=hdd r2;clear r2) | fail "no arm");go_ret;exact .inr (.inr (.inl ⟨rfl,rfl,KZ.out,rfl,Q2.out⟩))
    · obtain ⟨a0,a1,a2,a3,a4⟩:=qw4 (p3 _ hr);have hc:=h4 rfl rfl rfl _ hr;clear hr
      by_cases kz:z4=0
      · subst kz;go_wp2_with (first | ((go_at_call 107;(with_reducible refine (hc).mono ?_);rintro e w2 ⟨rfl,r2⟩);have Q2:=hdd r2;clear r2) | fail "no arm");go_roundw
        case rel => first | exact ⟨4,(by first | rfl | go_num | (simp;done)),.inr (.inr (.inr (.inr (.inl ⟨rfl,rfl,rfl,rfl,rfl,Q2.out⟩))))⟩ | ((repeat apply Exists.intro);exact ⟨⟨4,(by first | rfl | go_num | (simp;done)),.inr (.inr (.inr (.inr (.inl ⟨rfl,rfl,rfl,rfl,rfl,Q2.out⟩))))⟩,rfl⟩)
        case measure => simp [intOf]
      · have b1:(z4 != 0)=true:=by rw [bne_iff_ne];exact kz
        have KZ:=hdd kz;clear kz;go_wp2_with (first | ((go_at_call 107;(with_reducible refine (hc).mono ?_);rintro e w2 ⟨rfl,r2⟩);have Q2:=hdd r2;clear r2) | fail "no arm");go_ret;exact .inr (.inr (.inr (.inl ⟨rfl,rfl,rfl,KZ.out,rfl,Q2.out⟩)))
    · obtain ⟨a0,a1,a2,a3,a4⟩:=qw4 (p4 _ hr);have hc:=h5 rfl rfl rfl rfl _ hr;clear hr
      by_cases kz:z5=0
      · subst kz;go_wp2_with (first | ((go_at_call 108;(with_reducible refine (hc).mono ?_);rintro e w2 ⟨rfl,r2⟩);have Q2:=hdd r2;clear r2) | fail "no arm");go_roundw
        case rel => first | exact ⟨5,(by first | rfl | go_num | (simp;done)),.inr (.inr (.inr (.inr (.inr ⟨rfl,rfl,rfl,rfl,rfl,rfl,Q2.out⟩))))⟩ | ((repeat apply Exists.intro);exact ⟨⟨5,(by first | rfl | go_num | (simp;done)),.inr (.inr (.inr (.inr (.inr ⟨rfl,rfl,rfl,rfl,rfl,rfl,Q2.out⟩))))⟩,rfl⟩)
        case measure => simp [intOf]
      · have b1:(z5 != 0)=true:=by rw [bne_iff_ne];exact kz
        have KZ:=hdd kz;clear kz;go_wp2_with (first | ((go_at_call 108;(with_reducible refine (hc).mono ?_);rintro e w2 ⟨rfl,r2⟩);have Q2:=hdd r2;clear r2) | fail "no arm");go_ret;exact .inr (.inr (.inr (.inr (⟨rfl,rfl,rfl,rfl,rfl,Q2.out⟩))))
    · have Q2:=hdd hr;clear hr;go_wp2_with fail;go_ret;exact .inr (.inr (.inr (.inr (⟨rfl,rfl,rfl,rfl,rfl,Q2.out⟩))))
theorem wipeV_few (D:qa1) (f m a k:Nat):(qi0 D f m a k).1.many=D.many∧(qi0 D f m a k).1.waits.length≤D.waits.length+k:=by
  obtain ⟨o,eo⟩:=qo8 D k;obtain ⟨h1,h2⟩:=vj2 f m (qj2 D.now f a k) (rdK D k);have h3:=vp3 D.now f a k;have hm:(rdK D k).many=D.many:=by rw [eo]
  have hw:(rdK D k).waits=D.waits:=by rw [eo]
  rw [hw] at h2;obtain ⟨f1,f2⟩:=vh1 (qm2 (rdK D k) f m (qj2 D.now f a k)).1;unfold qi0
  split
  · exact ⟨rfl,Nat.le_add_right _ _⟩
  unfold wipeW
  split
  · exact ⟨h1.trans hm,omg⟩
  split
  · exact ⟨h1.trans hm,by simp only;omega⟩
  · exact ⟨f1.trans (h1.trans hm),omg⟩
structure qv3 (w0 W:World) (base:Nat) (q:qb9) (gb gh gf ga M:Nat) (hash:Int) (D:qa1):Prop where
  d:qa5 W base q D
  a:qa8 W ga q.d 0 M
  b8:Blk W gb 188 [.pointer (some ⟨ga,0,none⟩)]
  b6:Blk W gh 3 [.int .i64 hash]
  bf:Blk W gf 61 (fmtL (.pointer (some ⟨gb,0,none⟩)) (.pointer (some ⟨gh,0,none⟩)) (.pointer (some ⟨ga,0,none⟩)))
  s:Step mutD base q w0 W
  hs:base≤W.heap.size
section
variable {w0 w W W':World} {base gb gh gf ga M m:Nat} {q:qb9} {D D':qa1} {hash:Int} {p:PV} {x:PA}
theorem qv3.step (h:qv3 w0 W base q gb gh gf ga M hash D) (hd:qa5 W' base q D') (t:Step mutD base q W W'):qv3 w0 W' base q gb gh gf ga M hash D' :=
  ⟨hd,h.d.area h.a t.tch dcd,h.d.blk h.b8 t.tch dcd,h.d.blk h.b6 t.tch dcd,h.d.blk h.bf t.tch dcd,h.s.trans t,Nat.le_trans h.hs t.size⟩
theorem fmt1_any (h:qv3 w0 W base q gb gh gf ga M hash D) (hM:1≤M) (hMm:M≤D.many) (hwt:D.waits.length<700000) :
    Calls Tryz.prog 110 #[.pointer (some ⟨gb,0,none⟩)] W fun e w' => e=.returned (.int .i64 (qi0 D 0 M 0 1).2)∧qv3 w0 w' base q gb gh gf ga M hash (qi0 D 0 M 0 1).1:=by
  have c0:W.cell? ⟨gb,0,none⟩=some (.pointer (some ⟨ga,0,none⟩)):=h.b8.cell 0;have hw:=(show Calls Tryz.prog 111 #[.pointer (some ⟨ga,0,none⟩),.int .i64 0,.int .i64 1] W _ from wipe_any h.a h.d h.hs omg 0 1 omg omg hwt);have H:=hdd h;generalize qi0 D 0 M 0 1=F at *;clear h;go_enter Tryz.func110,Tryz.ntmps110;go_wp2_with (first | ((go_at_call 111;(with_reducible refine (hw).mono ?_);rintro e w2 ⟨rfl,d2,s2⟩);have H2:=hdd (H.out.step d2 s2);clear d2) | fail "no arm");go_ret;exact ⟨rfl,H2.out⟩
theorem fmt2_any (h:qv3 w0 W base q gb gh gf ga M hash D) (hM:2≤M) (hMm:M≤D.many) (hwt:D.waits.length<700000) :
    Calls Tryz.prog 112 #[.pointer (some ⟨gb,0,none⟩)] W fun e w' => e=.returned (.int .i64 (qi0 D 0 M 1 (M - 1)).2)∧qv3 w0 w' base q gb gh gf ga M hash (qi0 D 0 M 1 (M - 1)).1:=by
  have c0:W.cell? ⟨gb,0,none⟩=some (.pointer (some ⟨ga,0,none⟩)):=h.b8.cell 0;have hb:Below W.heap.size W W.drew:=Below.drew (Below.refl _ _);have hD:qv3 w0 W.drew base q gb gh gf ga M hash D:=h.step (h.d.below hb) (Step.of_below hb h.hs);have hw:Calls Tryz.prog 111 #[.pointer (some ⟨ga,0,none⟩),.int .i64 1,.int .i64 (M:Nat)] W.drew (fun e w' => e=.returned (.int .i64 (qi0 D 0 M 1 (M - 1)).2)∧qa5 w' base q (qi0 D 0 M 1 (M - 1)).1∧Step mutD base q W.drew w'):=by
    have:=wipe_any hD.a hD.d hD.hs omg 1 (M - 1) omg omg hwt;rw [show 1+(M - 1)=M by omega] at this;exact this
  have hmn:=qo9 (w:=W.drew) hD.a;have H:=hdd hD;generalize qi0 D 0 M 1 (M - 1)=F at *;clear h hD;go_enter Tryz.func112,Tryz.ntmps112;go_upto_region 1 with fail;go_region_held3 (fun w' => w'.cell? ⟨gb,0,none⟩=some (.pointer (some ⟨ga,0,none⟩))) (first | go_keep | assumption) (first | (go_at_call 113;(with_reducible refine (hmn).mono ?_);rintro e w1 ⟨rfl,rfl⟩) | ((go_at_call 111;(with_reducible refine (hw).mono ?_);rintro e w2 ⟨rfl,d2,s2⟩);have H2:=hdd (H.out.step d2 s2);have c02:w2.cell? ⟨gb,0,none⟩=some (.pointer (some ⟨ga,0,none⟩)):=H2.out.b8.cell 0;clear d2) | fail "no arm");go_wp2_with fail;go_ret;exact ⟨rfl,H2.out⟩
theorem fmt3_any (h:qv3 w0 W base q gb gh gf ga M hash D) (hMm:M≤D.many) (hh:hash≤9223372036854775807) (hwt:D.waits.length<700000) :
    Calls Tryz.prog 114 #[.pointer (some ⟨gb,0,none⟩),.pointer (some ⟨gh,0,none⟩)] W fun e w' => e=.returned (.int .i64 (qh1 D 0 M 0 1 hash []).2)∧qv3 w0 w' base q gb gh gf ga M hash (qh1 D 0 M 0 1 hash []).1:=by
  have c0:W.cell? ⟨gb,0,none⟩=some (.pointer (some ⟨ga,0,none⟩)):=h.b8.cell 0;have c6:W.cell? ⟨gh,0,none⟩=some (.int .i64 hash):=h.b6.cell 0;have hw:=s_aput h.d h.hs h.a omg 0 1 hash none 0 0 [] ⟨rfl,Row.nil _ _ _⟩ uml hh omg;have H:=hdd h;generalize qh1 D 0 M 0 1 hash []=F at *;clear h;go_enter Tryz.func114,Tryz.ntmps114;go_wp2_with (first | ((go_at_call 115;(with_reducible refine (hw).mono ?_);rintro e w2 ⟨rfl,d2,s2⟩);have H2:=hdd (H.out.step d2 s2);clear d2) | fail "no arm");go_ret;exact ⟨rfl,H2.out⟩
theorem fmt4_any (h:qv3 w0 W base q gb gh gf ga M hash D) :
    Calls Tryz.prog 116 #[.pointer (some ⟨ga,0,none⟩)] W fun e w' => e=.returned (.int .i64 (qb0 D).2)∧qv3 w0 w' base q gb gh gf ga M hash (qb0 D).1 :=
  (qx6 h.d h.hs h.a).mono fun e w' ⟨h1,h2,h3⟩ => ⟨h1,h.step h2 h3⟩
theorem format_any (hd:qa5 w base q D) (hs:base≤w.heap.size) (hp:qg2 w x p) (hw:qk7 p) (hv:qf0 p=true) (h13:13≤D.many) (hm:logN (D.many:Nat)=(m:Nat)) (hM:11+m+m≤D.many) (hwt:D.waits.length<600000) :
    Calls Tryz.prog 27 #[.pointer (some ⟨q.d,0,none⟩),.agg #[.slice x.A1 x.n1 x.c1,.slice x.A2 x.n2 x.c2,.int .i64 p.regs,.slice x.A3 x.n3 x.c3,.slice x.A4 x.n4 x.c4]] w fun e w' => e=.returned (.int .i64 (qr4 (11+m+m) (qf5 p:Nat) D).2)∧qa5 w' base q (qr4 (11+m+m) (qf5 p:Nat) D).1∧Step mutD base q w w':=by
  have hb0:Below w.heap.size w (w.alloc (.cells #[.slice x.A1 x.n1 x.c1,.slice x.A2 x.n2 x.c2,.int .i64 p.regs,.slice x.A3 x.n3 x.c3,.slice x.A4 x.n4 x.c4] 26)):=(Below.refl _ _).alloc nlr _;have hmay:=may_yes (hd.below hb0) (hp.below (b:=w.heap.size) hb0 nlr) hw hv h13 hm;have hhn:((qf5 p:Nat):Int)≤9223372036854775807:=by unfold qf5;omega
  have hd4:=hd.many0;have HD:=hdd hd;generalize qf5 p=hh at *;have hF:qr4 (11+m+m) (hh:Nat) D=if (qi0 D 0 (11+m+m) 0 1).2≠0 then qi0 D 0 (11+m+m) 0 1
      else if (qi0 (qi0 D 0 (11+m+m) 0 1).1 0 (11+m+m) 1 (11+m+m - 1)).2≠0 then qi0 (qi0 D 0 (11+m+m) 0 1).1 0 (11+m+m) 1 (11+m+m - 1)
      else if (qh1 (qi0 (qi0 D 0 (11+m+m) 0 1).1 0 (11+m+m) 1 (11+m+m - 1)).1 0 (11+m+m) 0 1 (hh:Nat) []).2≠0 then qh1 (qi0 (qi0 D 0 (11+m+m) 0 1).1 0 (11+m+m) 1 (11+m+m - 1)).1 0 (11+m+m) 0 1 (hh:Nat) []
      else qb0 (qh1 (qi0 (qi0 D 0 (11+m+m) 0 1).1 0 (11+m+m) 1 (11+m+m - 1)).1 0 (11+m+m) 0 1 (hh:Nat) []).1:=rfl
  obtain ⟨a1,a2⟩:=wipeV_few D 0 (11+m+m) 0 1;obtain ⟨b1,b2⟩:=wipeV_few (qi0 D 0 (11+m+m) 0 1).1 0 (11+m+m) 1 (11+m+m - 1);have f1:=fun (W:World) (gb gh gf ga:Nat) (h:qv3 w W base q gb gh gf ga (11+m+m) (hh:Nat) D) => fmt1_any h omg hM omg
  have f2:=fun (W:World) (gb gh gf ga:Nat) (h:qv3 w W base q gb gh gf ga (11+m+m) (hh:Nat) (qi0 D 0 (11+m+m) 0 1).1) => fmt2_any h omg omg omg
  have f3:=fun (W:World) (gb gh gf ga:Nat) (h:qv3 w W base q gb gh gf ga (11+m+m) (hh:Nat) (qi0 (qi0 D 0 (11+m+m) 0 1).1 0 (11+m+m) 1 (11+m+m - 1)).1) => fmt3_any h omg hhn omg
  generalize qr4 (11+m+m) (hh:Nat) D=FIN at *;generalize qi0 D 0 (11+m+m) 0 1=F1 at *;generalize qi0 F1.1 0 (11+m+m) 1 (11+m+m - 1)=F2 at *;generalize qh1 F2.1 0 (11+m+m) 0 1 (hh:Nat) []=F3 at *;have f4:=fun (W:World) (gb gh gf ga:Nat) (h:qv3 w W base q gb gh gf ga (11+m+m) (hh:Nat) F3.1) => fmt4_any h
  generalize qb0 F3.1=F4 at *;have HF:=hdd hF;have hcast:((11+m+m:Nat):Int)=11+(m:Int)+m:=omg;have hnw:=fun (W:World) (h:qa5 W base q D) (hs':base≤W.heap.size) => s_anew h hs' 0 (11+m+m) omg omg
  rw [hcast] at hnw;have hnw2:∀ (W:World),qa5 W base q D→base≤W.heap.size→Calls Tryz.prog 109 #[.pointer (some ⟨q.d,0,none⟩),.agg #[.int .i64 0,.int .i64 (11+(m:Int)+m)]] W fun e w' => ∃ ga,e=.returned (.tuple #[.pointer (some ⟨ga,0,none⟩),.int .i64 0])∧qa8 w' ga q.d 0 (11+m+m)∧W.heap.size≤ga∧qa5 w' base q D∧Step mutD base q W w':=hnw
  clear hF a1 a2 b1 b2 hd hp hcast hnw;go_enter Tryz.func27,Tryz.ntmps27;go_upto_region 7 with (first | ((go_at_call 99;(with_reducible refine (hmay).mono ?_);rintro e w2 ⟨rfl,hb2⟩);have B2:=hb0.trans (hb2.mono smp);have hsz2:=B2.size;have BW:=(B2.alloc hsz2 (.cells #[.int .i64 0,.int .i64 1,.int .i64 1,.int .i64 5,.int .i64 6,.int .i64 5,.int .i64 11,.int .i64 (m:Nat),.int .i64 (11+(m:Nat)),.int .i64 (m:Nat)] 122)).alloc (by simp;omega) (.cells #[.int .i64 (hh:Nat)] 3);have DW:=HD.out.below BW;have XW:Blk ((w2.alloc (.cells #[.int .i64 0,.int .i64 1,.int .i64 1,.int .i64 5,.int .i64 6,.int .i64 5,.int .i64 11,.int .i64 (m:Nat),.int .i64 (11+(m:Nat)),.int .i64 (m:Nat)] 122)).alloc (.cells #[.int .i64 (hh:Nat)] 3)) (w2.heap.size+1) 3 [.int .i64 (hh:Nat)]:=Blk.top _ smp rfl) | ((go_at_call 109;(with_reducible refine (hnw2 _ DW (by simp;omega)).mono ?_);rintro e w3 ⟨ga,rfl,a3,gl3,d3,s3⟩);have X3:=DW.blk XW s3.tch dcd;have sz3:=s3.size;simp at sz3;have S3:=(Step.of_below (M:=mutD) (p:=q) BW hs).trans s3) | fail "no arm");have A4:=hdd (show qv3 w ((w3.alloc (.cells #[.pointer (some ⟨ga,0,none⟩)] 188)).alloc (.cells (fmtL (.pointer (some ⟨w3.heap.size,0,none⟩)) (.pointer (some ⟨w2.heap.size+1,0,none⟩)) (.pointer (some ⟨ga,0,none⟩))).toArray 61)) base q w3.heap.size (w2.heap.size+1) (w3.heap.size+1) ga (11+m+m) (hh:Nat) D from
    ⟨(d3.below ((Below.refl _ _).alloc nlr _)).below ((Below.refl _ _).alloc nlr _),Blk.alloc (Blk.alloc a3 _) _,(Blk.top _ rfl rfl).alloc _,(X3.alloc _).alloc _,Blk.top _ smp rfl,S3.trans (Step.of_below (((Below.refl _ _).alloc nlr _).alloc smp _) omg),by simp;omega⟩)
  have hfst:=first_fmt (w:=((w3.alloc (.cells #[.pointer (some ⟨ga,0,none⟩)] 188)).alloc (.cells (fmtL (.pointer (some ⟨w3.heap.size,0,none⟩)) (.pointer (some ⟨w2.heap.size+1,0,none⟩)) (.pointer (some ⟨ga,0,none⟩))).toArray 61))) A4.out.bf
    (fun W h => qv3.bf h) (fun W h => qv3.bf h) (fun W h => qv3.bf h) (f1 _ _ _ _ _ A4.out) (fun _ W h => f2 _ _ _ _ _ h) (fun _ _ W h => f3 _ _ _ _ _ h) (fun _ _ _ W h => f4 _ _ _ _ _ h)
  have hfin:=hfst.mono (R':=fun e w' => e=.returned (.int .i64 FIN.2)∧qv3 w w' base q w3.heap.size (w2.heap.size+1) (w3.heap.size+1) ga (11+m+m) (hh:Nat) FIN.1) (fun e w' hp => by
    have hF:=HF.out;rcases hp with ⟨n1,rfl,r⟩ | ⟨n1,n2,rfl,r⟩ | ⟨n1,n2,n3,rfl,r⟩ | ⟨n1,n2,n3,rfl,r⟩
    · rw [if_pos n1] at hF;rw [hF];exact ⟨rfl,r⟩
    · rw [if_neg (by rw [n1];simp),if_pos n2] at hF;rw [hF];exact ⟨rfl,r⟩
    · rw [if_neg (by rw [n1];simp),if_neg (by rw [n2];simp),if_pos n3] at hF;rw [hF];exact ⟨rfl,r⟩
    · rw [if_neg (by rw [n1];simp),if_neg (by rw [n2];simp),if_neg (by rw [n3];simp)] at hF;rw [hF];exact ⟨rfl,r⟩)
  clear f1 f2 f3 f4 XW X3 DW BW hnw2 hmay hfst;go_wp2_with (first | (go_at_call 100;refine hfin.mono ?_;rintro e w5 ⟨rfl,hpost⟩;have HP:=hdd hpost;clear hpost) | fail "no arm");go_ret;exact ⟨rfl,HP.out.d,HP.out.s⟩
end
end Go.Proofs.YtmeebofhlilcmaaGreat
