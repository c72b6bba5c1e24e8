/- Lemmas: sort 2. -/
import Derived.Test.YtihfcjioilmmjaaGreatRm1
import Derived.Test.YtihfcjioilmmjaaGreatRm14
set_option linter.all false
namespace Go.Proofs.YtihfcjioilmmjaaGreat
open Go Go.RowKit
open Go.Lib Go.Proofs
theorem scanUp_go {p : Nat → Bool} {d : Array Nat} {j i : Nat} (h : (decide (i ≤ j) && p d[i]!) = true) : Sort.scanUp p d j i = Sort.scanUp p d j (i + 1):=by rw [Sort.scanUp,if_pos h]
theorem scanUp_stop {p : Nat → Bool} {d : Array Nat} {j i : Nat} (h : (decide (i ≤ j) && p d[i]!) = false) : Sort.scanUp p d j i = i:=by rw [Sort.scanUp,if_neg (by rw [h];simp)]
theorem scanDown_go {p : Nat → Bool} {d : Array Nat} {j i : Nat} (hj : 1 ≤ j) (h : (decide (i ≤ j) && p d[j]!) = true) : Sort.scanDown p d i j = Sort.scanDown p d i (j - 1):=by
 cases j with
 | zero=>omega
 | succ j=>rw [Nat.add_sub_cancel];conv=>lhs;rw [Sort.scanDown,if_pos h]
theorem scanDown_stop {p : Nat → Bool} {d : Array Nat} {j i : Nat} (h : (decide (i ≤ j) && p d[j]!) = false) : Sort.scanDown p d i j = j:=by
 cases j with
 | zero=>rfl
 | succ j=>rw [Sort.scanDown,if_neg (by rw [h];simp)]
set_option maxHeartbeats 4000000 in
set_option maxRecDepth 100000 in
theorem pareqU_any {w0 w : World} {g n : Nat} {rest : Array Value} {d : Array Nat} (h : US w0 g n rest d w) (cap a b pivot : Nat) (hab : a < b) (hb : b ≤ n) (hp : pivot < n) (hn : n ≤ 1000000) :
  Calls Tryz.prog 125 #[.slice (some ⟨g,0,none⟩) n cap,.int .i64 (a : Int),.int .i64 (b : Int),.int .i64 (pivot : Int)] w fun e w'=>e = .returned (.int .i64 ((Sort.partitionEqual ltN d a b pivot).1 : Nat)) ∧ US w0 g n rest (Sort.partitionEqual ltN d a b pivot).2 w':=by
 have han : a < n:=by omega
 have H:=Lib.hid h
 clear h
 go_enter Tryz.func125,Tryz.ntmps125
 go_upto_region 1 with fail
 refine Rt.wp_region_rt (by kernel_rfl) [0,1,2,3,4,5,6,7,8,9,10,11,12,13,14,15] [13,15] [0,0,1,1,0,0,0,0,0,0,0,0,0,1000,1] [0,0,0,0,0,0,48,112,0,0,768,1792,4083,8179,16383,32767] (by kernel_rfl) (SwI w0 g n rest d (a) (pivot)) ?_ ?_
 ·exact US.drawn (H.out) _
 iterate 6 (refine Rt.rs_sil rfl rfl rfl (fun K hK=>?_);go_simp;refine hK _ ?_;clear hK K)
 (refine Rt.rs_rd rfl rfl rfl ?_;apply Exists.intro;refine ⟨fun us' W hp hl hI=>?_,?_⟩;· (skip;go_simp;rfl));simp only [Act.put,zA,zB,zC,zD,zE,zF]
 (refine Rt.rs_rd rfl rfl rfl ?_;apply Exists.intro;refine ⟨fun us' W hp hl hI=>?_,?_⟩;· (have hl0 : us'.length ≤ 0:=hl;obtain rfl:=List.eq_nil_of_length_eq_zero (Nat.le_zero.1 hl0);have c0:=US.cell hI (j:=a) (by omega);have c1:=US.cell hI (j:=pivot) (by omega);go_simp;rfl));simp only [Act.put,zA,zB,zC,zD,zE,zF]
 iterate 2 (refine Rt.rs_sil rfl rfl rfl (fun K hK=>?_);go_simp;refine hK _ ?_;clear hK K)
 (refine Rt.rs_rd rfl rfl rfl ?_;apply Exists.intro;refine ⟨fun us' W hp hl hI=>?_,?_⟩;· (skip;go_simp;rfl));simp only [Act.put,zA,zB,zC,zD,zE,zF]
 (refine Rt.rs_rd rfl rfl rfl ?_;apply Exists.intro;refine ⟨fun us' W hp hl hI=>?_,?_⟩;· (have hl0 : us'.length ≤ 0:=hl;obtain rfl:=List.eq_nil_of_length_eq_zero (Nat.le_zero.1 hl0);have c0:=US.cell hI (j:=a) (by omega);have c1:=US.cell hI (j:=pivot) (by omega);go_simp;rfl));simp only [Act.put,zA,zB,zC,zD,zE,zF]
 (refine Rt.rs_rd rfl rfl rfl ?_;apply Exists.intro;refine ⟨fun us' W hp hl hI=>?_,?_⟩;· (skip;go_simp;rfl));simp only [Act.put,zA,zB,zC,zD,zE,zF]
 refine Rt.rs_eff rfl rfl rfl (fun W hI=>?_) (fun v hv=>?_)
 ·have f0:=US.froz hI (a)
  have c0:=US.cell hI (j:=a) (by omega)
  refine Rt.gives_skp ?_
  apply Exists.intro
  refine ⟨by go_simp;rfl,?_⟩
  exact US.put hI (j:=a) (by omega) _
 clear hv
 simp only [Act.put,zA,zB,zC,zD,zE,zF]
 (refine Rt.rs_rd rfl rfl rfl ?_;apply Exists.intro;refine ⟨fun us' W hp hl hI=>?_,?_⟩;· (skip;go_simp;rfl));simp only [Act.put,zA,zB,zC,zD,zE,zF]
 refine Rt.rs_eff rfl rfl rfl (fun W hI=>?_) (fun v hv=>?_)
 ·have f0:=US.froz hI (pivot)
  have c0:=US.cell hI (j:=pivot) (by omega)
  refine Rt.gives_skp ?_
  apply Exists.intro
  refine ⟨by go_simp;rfl,?_⟩
  exact US.put hI (j:=pivot) (by omega) _
 clear hv
 simp only [Act.put,zA,zB,zC,zD,zE,zF]
 refine Rt.rs_nil (fun W hI=>?_)
 replace hI:=Lib.hid (SwI.out hI)
 go_wp2_with fail
 go_loopw [9,10] (fun u v wr=>∃ (i j : Nat) (d1 : Array Nat),a + 1 ≤ i ∧ j < b ∧ i ≤ b + 1 ∧ u = .int .i64 (i : Int) ∧ v = .int .i64 (j : Int) ∧ Hid (US w0 g n rest d1 wr ∧ Sort.partEqLoop ltN a i j d1 = Sort.partitionEqual ltN d a b pivot)) (fun u v _=>(intOf v + 1 - intOf u).toNat)
 case atStart=>exact ⟨a + 1,b - 1,_,Nat.le_refl _,by omega,by omega,rfl,by congr 1;omega,hI.out,rfl⟩
 case round=>
  obtain ⟨i,j,d1,hi,hj,hib,rfl,rfl,hS⟩:=hrel
  go_wp2_with fail
  go_loopw [9] (fun u wr=>∃ (i2 : Nat),i ≤ i2 ∧ (i2 ≤ j + 1 ∨ i2 = i) ∧ u = .int .i64 (i2 : Int) ∧ Hid (US w0 g n rest d1 wr ∧ Sort.scanUp (fun x=>!ltN d1[a]! x) d1 j i2 = Sort.scanUp (fun x=>!ltN d1[a]! x) d1 j i)) (fun u _=>j + 1 - (intOf u).toNat)
  case atStart=>exact ⟨i,Nat.le_refl _,.inr rfl,rfl,hS.out.1,rfl⟩
  case round=>
   obtain ⟨i2,hi2,hi2',rfl,hT⟩:=hrel
   go_upto_region 3 with fail
   obtain ⟨c,hc⟩ : ∃ c,(decide (i2 ≤ j) && !ltN d1[a]! d1[i2]!) = c:=⟨_,rfl⟩
   have HC:=Lib.hid hc
   clear hc
   go_cut [43] (fun v wx=>v = .bool c ∧ Hid (US w0 g n rest d1 wx))
   case first=>
    by_cases hg : i2 ≤ j
    ·have ht : ltN d1[a]! d1[i2]! = !c:=by
      have:=HC.out
      rw [decide_eq_true hg,Bool.true_and] at this
      rw [← this,Bool.not_not]
     have HT:=Lib.hid ht
     clear ht
     have lgi : a < n:=by omega
     have lgj : i2 < n:=by omega
     refine Rt.wp_region_rt (by kernel_rfl) [0,1,2,3,4,5,6,7,8,9,10,11,12,13,14] [] [] [0,0,3,7,15,15,63,127,15,15,783,1807,4095,8191,16383] (by kernel_rfl) (fun _ W=>US w0 g n rest d1 W) ?_ ?_
     ·exact US.drawn (hT.out.1) _
     iterate 6 (refine Rt.rs_sil rfl rfl rfl (fun K hK=>?_);go_simp;refine hK _ ?_;clear hK K)
     (refine Rt.rs_rd rfl rfl rfl ?_;apply Exists.intro;refine ⟨fun us' W hp hl hI=>?_,?_⟩;· (skip;go_simp;rfl));simp only [Act.put,zA,zB,zC,zD,zE,zF]
     (refine Rt.rs_rd rfl rfl rfl ?_;apply Exists.intro;refine ⟨fun us' W hp hl hI=>?_,?_⟩;· (have c0:=US.cell hI (j:=a) (by omega);have c1:=US.cell hI (j:=i2) (by omega);go_simp;rfl));simp only [Act.put,zA,zB,zC,zD,zE,zF]
     iterate 2 (refine Rt.rs_sil rfl rfl rfl (fun K hK=>?_);go_simp;refine hK _ ?_;clear hK K)
     (refine Rt.rs_rd rfl rfl rfl ?_;apply Exists.intro;refine ⟨fun us' W hp hl hI=>?_,?_⟩;· (skip;go_simp;rfl));simp only [Act.put,zA,zB,zC,zD,zE,zF]
     (refine Rt.rs_rd rfl rfl rfl ?_;apply Exists.intro;refine ⟨fun us' W hp hl hI=>?_,?_⟩;· (have c0:=US.cell hI (j:=a) (by omega);have c1:=US.cell hI (j:=i2) (by omega);go_simp;rfl));simp only [Act.put,zA,zB,zC,zD,zE,zF]
     refine Rt.rs_qt rfl rfl rfl ?_
     apply Exists.intro
     refine ⟨fun us' W hp hl hI=>?_,?_⟩
     ·refine Rt.gives_cal ?_
      apply Exists.intro
      apply Exists.intro
      apply Exists.intro
      refine ⟨by go_simp;exact ⟨⟨rfl,rfl⟩,rfl⟩,?_⟩
      refine (lessU_any W _ _).mono ?_
      rintro e w7 ⟨rfl,rfl⟩
      exact ⟨_,rfl,by rw [HT.out],hI⟩
     simp only [Act.put,zA,zB,zC,zD,zE,zF]
     iterate 2 (refine Rt.rs_sil rfl rfl rfl (fun K hK=>?_);go_simp;refine hK _ ?_;clear hK K)
     refine Rt.rs_nil (fun W hI=>?_)
     replace hI:=Lib.hid hI
     go_wp2_with fail
     all_goals go_meet
     all_goals exact ⟨by first | rfl | simp,hI⟩
    ·have ht : false = c:=by
      have:=HC.out
      rw [decide_eq_false hg,Bool.false_and] at this
      exact this
     subst ht
     refine Rt.wp_region_rt (by kernel_rfl) [0,1,2,3,4,5,6,7,8,9,10,11,12,13,14] [] [] [0,0,3,7,15,15,63,127,15,15,783,1807,4095,8191,16383] (by kernel_rfl) (fun _ W=>US w0 g n rest d1 W) ?_ ?_
     ·exact US.drawn (hT.out.1) _
     iterate 4 (refine Rt.rs_sil rfl rfl rfl (fun K hK=>?_);go_simp;refine hK _ ?_;clear hK K)
     iterate 10 ((refine Rt.rs_skip rfl rfl rfl ?_;simp only [Act.put,zA,zB,zC,zD,zE,zF]))
     (refine Rt.rs_sil rfl rfl rfl (fun K hK=>?_);go_simp;refine hK _ ?_;clear hK K)
     refine Rt.rs_nil (fun W hI=>?_)
     replace hI:=Lib.hid hI
     go_wp2_with fail
     all_goals go_meet
     all_goals exact ⟨by first | rfl | simp,hI⟩
   case rest=>
    obtain ⟨rfl,hW⟩:=hcut
    cases c with
    | true=>
     have hij : i2 ≤ j:=by have:=HC.out;simp at this;omega
     go_wp2_with fail
     exact ⟨⟨i2 + 1,by omega,by omega,rfl,hW.out,(scanUp_go (p:=fun x=>!ltN d1[a]! x) HC.out).symm.trans hT.out.2⟩,by simp [intOf];omega⟩
    | false=>
     have HI2:=Lib.hid ((scanUp_stop (p:=fun x=>!ltN d1[a]! x) HC.out).symm.trans hT.out.2)
     go_wp2_with fail
     have HW1:=hW
     clear hW
     go_loopw [10] (fun u wr=>∃ (j2 : Nat),j2 ≤ j ∧ u = .int .i64 (j2 : Int) ∧ Hid (US w0 g n rest d1 wr ∧ Sort.scanDown (fun x=>ltN d1[a]! x) d1 i2 j2 = Sort.scanDown (fun x=>ltN d1[a]! x) d1 i2 j)) (fun u _=>(intOf u).toNat)
     case atStart=>exact ⟨j,Nat.le_refl _,rfl,HW1.out,rfl⟩
     case round=>
      obtain ⟨j2,hj2,rfl,hT⟩:=hrel
      go_upto_region 5 with fail
      obtain ⟨c,hc⟩ : ∃ c,(decide (i2 ≤ j2) && ltN d1[a]! d1[j2]!) = c:=⟨_,rfl⟩
      have HC:=Lib.hid hc
      clear hc
      go_cut [59] (fun v wx=>v = .bool c ∧ Hid (US w0 g n rest d1 wx))
      case first=>
       by_cases hg : i2 ≤ j2
       ·have ht : ltN d1[a]! d1[j2]! = c:=by
         have:=HC.out
         rw [decide_eq_true hg,Bool.true_and] at this
         exact this
        have HT:=Lib.hid ht
        clear ht
        have lgi : a < n:=by omega
        have lgj : j2 < n:=by omega
        refine Rt.wp_region_rt (by kernel_rfl) [0,1,2,3,4,5,6,7,8,9,10,11,12,13] [] [] [0,0,3,7,15,15,63,127,15,15,783,1807,4095,8191] (by kernel_rfl) (fun _ W=>US w0 g n rest d1 W) ?_ ?_
        ·exact US.drawn (hT.out.1) _
        iterate 6 (refine Rt.rs_sil rfl rfl rfl (fun K hK=>?_);go_simp;refine hK _ ?_;clear hK K)
        (refine Rt.rs_rd rfl rfl rfl ?_;apply Exists.intro;refine ⟨fun us' W hp hl hI=>?_,?_⟩;· (skip;go_simp;rfl));simp only [Act.put,zA,zB,zC,zD,zE,zF]
        (refine Rt.rs_rd rfl rfl rfl ?_;apply Exists.intro;refine ⟨fun us' W hp hl hI=>?_,?_⟩;· (have c0:=US.cell hI (j:=a) (by omega);have c1:=US.cell hI (j:=j2) (by omega);go_simp;rfl));simp only [Act.put,zA,zB,zC,zD,zE,zF]
        iterate 2 (refine Rt.rs_sil rfl rfl rfl (fun K hK=>?_);go_simp;refine hK _ ?_;clear hK K)
        (refine Rt.rs_rd rfl rfl rfl ?_;apply Exists.intro;refine ⟨fun us' W hp hl hI=>?_,?_⟩;· (skip;go_simp;rfl));simp only [Act.put,zA,zB,zC,zD,zE,zF]
        (refine Rt.rs_rd rfl rfl rfl ?_;apply Exists.intro;refine ⟨fun us' W hp hl hI=>?_,?_⟩;· (have c0:=US.cell hI (j:=a) (by omega);have c1:=US.cell hI (j:=j2) (by omega);go_simp;rfl));simp only [Act.put,zA,zB,zC,zD,zE,zF]
        refine Rt.rs_qt rfl rfl rfl ?_
        apply Exists.intro
        refine ⟨fun us' W hp hl hI=>?_,?_⟩
        ·refine Rt.gives_cal ?_
         apply Exists.intro
         apply Exists.intro
         apply Exists.intro
         refine ⟨by go_simp;exact ⟨⟨rfl,rfl⟩,rfl⟩,?_⟩
         refine (lessU_any W _ _).mono ?_
         rintro e w7 ⟨rfl,rfl⟩
         exact ⟨_,rfl,by rw [HT.out],hI⟩
        simp only [Act.put,zA,zB,zC,zD,zE,zF]
        (refine Rt.rs_sil rfl rfl rfl (fun K hK=>?_);go_simp;refine hK _ ?_;clear hK K)
        refine Rt.rs_nil (fun W hI=>?_)
        replace hI:=Lib.hid hI
        go_wp2_with fail
        all_goals go_meet
        all_goals exact ⟨by first | rfl | simp,hI⟩
       ·have ht : false = c:=by
         have:=HC.out
         rw [decide_eq_false hg,Bool.false_and] at this
         exact this
        subst ht
        refine Rt.wp_region_rt (by kernel_rfl) [0,1,2,3,4,5,6,7,8,9,10,11,12,13] [] [] [0,0,3,7,15,15,63,127,15,15,783,1807,4095,8191] (by kernel_rfl) (fun _ W=>US w0 g n rest d1 W) ?_ ?_
        ·exact US.drawn (hT.out.1) _
        iterate 4 (refine Rt.rs_sil rfl rfl rfl (fun K hK=>?_);go_simp;refine hK _ ?_;clear hK K)
        iterate 9 ((refine Rt.rs_skip rfl rfl rfl ?_;simp only [Act.put,zA,zB,zC,zD,zE,zF]))
        (refine Rt.rs_sil rfl rfl rfl (fun K hK=>?_);go_simp;refine hK _ ?_;clear hK K)
        refine Rt.rs_nil (fun W hI=>?_)
        replace hI:=Lib.hid hI
        go_wp2_with fail
        all_goals go_meet
        all_goals exact ⟨by first | rfl | simp,hI⟩
      case rest=>
       obtain ⟨rfl,hW⟩:=hcut
       cases c with
       | true=>
        have hij : i2 ≤ j2:=by have:=HC.out;simp at this;omega
        go_wp2_with fail
        exact ⟨⟨j2 - 1,by omega,by congr 1;omega,hW.out,(scanDown_go (p:=fun x=>ltN d1[a]! x) (by omega) HC.out).symm.trans hT.out.2⟩,by simp [intOf];omega⟩
       | false=>
        have HJ2:=Lib.hid ((scanDown_stop (p:=fun x=>ltN d1[a]! x) HC.out).symm.trans hT.out.2)
        by_cases hgt : j2 < i2
        ·go_wp2_with fail
         go_ret
         have hfin : Sort.partitionEqual ltN d a b pivot = (i2,d1):=by rw [← hS.out.2,Sort.partEqLoop_eq ltN a i j d1,← HI2.out,← HJ2.out,if_pos hgt]
         rw [hfin]
         exact ⟨rfl,hW.out⟩
        ·have l1 : i2 < n:=by omega
         have l2 : j2 < n:=by omega
         go_upto_region 8 with fail
         refine Rt.wp_region_rt (by kernel_rfl) [0,1,2,3,4,5,6,7,8,9,10,11,12,13,14,15] [13,15] [0,0,1,1,0,0,0,0,0,0,0,0,0,1000,1] [0,0,0,0,0,0,48,112,0,0,768,1792,4083,8179,16383,32767] (by kernel_rfl) (SwI w0 g n rest d1 (i2) (j2)) ?_ ?_
         ·exact US.drawn (hW.out) _
         iterate 6 (refine Rt.rs_sil rfl rfl rfl (fun K hK=>?_);go_simp;refine hK _ ?_;clear hK K)
         (refine Rt.rs_rd rfl rfl rfl ?_;apply Exists.intro;refine ⟨fun us' W hp hl hI=>?_,?_⟩;· (skip;go_simp;rfl));simp only [Act.put,zA,zB,zC,zD,zE,zF]
         (refine Rt.rs_rd rfl rfl rfl ?_;apply Exists.intro;refine ⟨fun us' W hp hl hI=>?_,?_⟩;· (have hl0 : us'.length ≤ 0:=hl;obtain rfl:=List.eq_nil_of_length_eq_zero (Nat.le_zero.1 hl0);have c0:=US.cell hI (j:=i2) (by omega);have c1:=US.cell hI (j:=j2) (by omega);go_simp;rfl));simp only [Act.put,zA,zB,zC,zD,zE,zF]
         iterate 2 (refine Rt.rs_sil rfl rfl rfl (fun K hK=>?_);go_simp;refine hK _ ?_;clear hK K)
         (refine Rt.rs_rd rfl rfl rfl ?_;apply Exists.intro;refine ⟨fun us' W hp hl hI=>?_,?_⟩;· (skip;go_simp;rfl));simp only [Act.put,zA,zB,zC,zD,zE,zF]
         (refine Rt.rs_rd rfl rfl rfl ?_;apply Exists.intro;refine ⟨fun us' W hp hl hI=>?_,?_⟩;· (have hl0 : us'.length ≤ 0:=hl;obtain rfl:=List.eq_nil_of_length_eq_zero (Nat.le_zero.1 hl0);have c0:=US.cell hI (j:=i2) (by omega);have c1:=US.cell hI (j:=j2) (by omega);go_simp;rfl));simp only [Act.put,zA,zB,zC,zD,zE,zF]
         (refine Rt.rs_rd rfl rfl rfl ?_;apply Exists.intro;refine ⟨fun us' W hp hl hI=>?_,?_⟩;· (skip;go_simp;rfl));simp only [Act.put,zA,zB,zC,zD,zE,zF]
         refine Rt.rs_eff rfl rfl rfl (fun W hI=>?_) (fun v hv=>?_)
         ·have f0:=US.froz hI (i2)
          have c0:=US.cell hI (j:=i2) (by omega)
          refine Rt.gives_skp ?_
          apply Exists.intro
          refine ⟨by go_simp;rfl,?_⟩
          exact US.put hI (j:=i2) (by omega) _
         clear hv
         simp only [Act.put,zA,zB,zC,zD,zE,zF]
         (refine Rt.rs_rd rfl rfl rfl ?_;apply Exists.intro;refine ⟨fun us' W hp hl hI=>?_,?_⟩;· (skip;go_simp;rfl));simp only [Act.put,zA,zB,zC,zD,zE,zF]
         refine Rt.rs_eff rfl rfl rfl (fun W hI=>?_) (fun v hv=>?_)
         ·have f0:=US.froz hI (j2)
          have c0:=US.cell hI (j:=j2) (by omega)
          refine Rt.gives_skp ?_
          apply Exists.intro
          refine ⟨by go_simp;rfl,?_⟩
          exact US.put hI (j:=j2) (by omega) _
         clear hv
         simp only [Act.put,zA,zB,zC,zD,zE,zF]
         refine Rt.rs_nil (fun W hI=>?_)
         replace hI:=Lib.hid (SwI.out hI)
         go_wp2_with fail
         refine ⟨⟨i2 + 1,j2 - 1,_,by omega,by omega,by omega,rfl,by congr 1;omega,hI.out,?_⟩,by simp [intOf];omega⟩
         rw [← hS.out.2,Sort.partEqLoop_eq ltN a i j d1]
         rw [← HI2.out,← HJ2.out,if_neg (by omega)]
set_option maxHeartbeats 4000000 in
set_option maxRecDepth 100000 in
theorem partU_any {w0 w : World} {g n : Nat} {rest : Array Value} {d : Array Nat} (h : US w0 g n rest d w) (cap a b pivot : Nat) (hab : a < b) (hb : b ≤ n) (hp : pivot < n) (hn : n ≤ 1000000) :
  Calls Tryz.prog 126 #[.slice (some ⟨g,0,none⟩) n cap,.int .i64 (a : Int),.int .i64 (b : Int),.int .i64 (pivot : Int)] w fun e w'=>e = .returned (.tuple #[.int .i64 ((Sort.partition ltN d a b pivot).1 : Nat),.bool (Sort.partition ltN d a b pivot).2.1]) ∧ US w0 g n rest (Sort.partition ltN d a b pivot).2.2 w':=by
 have han : a < n:=by omega
 have H:=Lib.hid h
 clear h
 go_enter Tryz.func126,Tryz.ntmps126
 go_upto_region 1 with fail
 refine Rt.wp_region_rt (by kernel_rfl) [0,1,2,3,4,5,6,7,8,9,10,11,12,13,14,15] [13,15] [0,0,1,1,0,0,0,0,0,0,0,0,0,1000,1] [0,0,0,0,0,0,48,112,0,0,768,1792,4083,8179,16383,32767] (by kernel_rfl) (SwI w0 g n rest d (a) (pivot)) ?_ ?_
 ·exact US.drawn (H.out) _
 iterate 6 (refine Rt.rs_sil rfl rfl rfl (fun K hK=>?_);go_simp;refine hK _ ?_;clear hK K)
 (refine Rt.rs_rd rfl rfl rfl ?_;apply Exists.intro;refine ⟨fun us' W hp hl hI=>?_,?_⟩;· (skip;go_simp;rfl));simp only [Act.put,zA,zB,zC,zD,zE,zF]
 (refine Rt.rs_rd rfl rfl rfl ?_;apply Exists.intro;refine ⟨fun us' W hp hl hI=>?_,?_⟩;· (have hl0 : us'.length ≤ 0:=hl;obtain rfl:=List.eq_nil_of_length_eq_zero (Nat.le_zero.1 hl0);have c0:=US.cell hI (j:=a) (by omega);have c1:=US.cell hI (j:=pivot) (by omega);go_simp;rfl));simp only [Act.put,zA,zB,zC,zD,zE,zF]
 iterate 2 (refine Rt.rs_sil rfl rfl rfl (fun K hK=>?_);go_simp;refine hK _ ?_;clear hK K)
 (refine Rt.rs_rd rfl rfl rfl ?_;apply Exists.intro;refine ⟨fun us' W hp hl hI=>?_,?_⟩;· (skip;go_simp;rfl));simp only [Act.put,zA,zB,zC,zD,zE,zF]
 (refine Rt.rs_rd rfl rfl rfl ?_;apply Exists.intro;refine ⟨fun us' W hp hl hI=>?_,?_⟩;· (have hl0 : us'.length ≤ 0:=hl;obtain rfl:=List.eq_nil_of_length_eq_zero (Nat.le_zero.1 hl0);have c0:=US.cell hI (j:=a) (by omega);have c1:=US.cell hI (j:=pivot) (by omega);go_simp;rfl));simp only [Act.put,zA,zB,zC,zD,zE,zF]
 (refine Rt.rs_rd rfl rfl rfl ?_;apply Exists.intro;refine ⟨fun us' W hp hl hI=>?_,?_⟩;· (skip;go_simp;rfl));simp only [Act.put,zA,zB,zC,zD,zE,zF]
 refine Rt.rs_eff rfl rfl rfl (fun W hI=>?_) (fun v hv=>?_)
 ·have f0:=US.froz hI (a)
  have c0:=US.cell hI (j:=a) (by omega)
  refine Rt.gives_skp ?_
  apply Exists.intro
  refine ⟨by go_simp;rfl,?_⟩
  exact US.put hI (j:=a) (by omega) _
 clear hv
 simp only [Act.put,zA,zB,zC,zD,zE,zF]
 (refine Rt.rs_rd rfl rfl rfl ?_;apply Exists.intro;refine ⟨fun us' W hp hl hI=>?_,?_⟩;· (skip;go_simp;rfl));simp only [Act.put,zA,zB,zC,zD,zE,zF]
 refine Rt.rs_eff rfl rfl rfl (fun W hI=>?_) (fun v hv=>?_)
 ·have f0:=US.froz hI (pivot)
  have c0:=US.cell hI (j:=pivot) (by omega)
  refine Rt.gives_skp ?_
  apply Exists.intro
  refine ⟨by go_simp;rfl,?_⟩
  exact US.put hI (j:=pivot) (by omega) _
 clear hv
 simp only [Act.put,zA,zB,zC,zD,zE,zF]
 refine Rt.rs_nil (fun W hI=>?_)
 replace hI:=Lib.hid (SwI.out hI)
 obtain ⟨d1,hd1⟩ : ∃ d1,Sort.swp d a pivot = d1:=⟨_,rfl⟩
 rw [hd1] at hI
 have HD1:=Lib.hid hd1
 clear hd1
 obtain ⟨b1,hb1⟩ : ∃ b1 : Nat,b1 + 1 = b:=⟨b - 1,by omega⟩
 have eb1 : (b : Int) - 1 = (b1 : Int):=by omega
 have HB1:=Lib.hid hb1
 obtain ⟨a1,ha1⟩ : ∃ a1 : Nat,a + 1 = a1:=⟨a + 1,rfl⟩
 have ea1 : (a : Int) + 1 = (a1 : Int):=by omega
 have HA1:=Lib.hid ha1
 have HP : Hid (Sort.partition ltN d a b pivot = if Sort.scanUp (fun x=>ltN x d1[a]!) d1 b1 a1 > Sort.scanDown (fun x=>!ltN x d1[a]!) d1 (Sort.scanUp (fun x=>ltN x d1[a]!) d1 b1 a1) b1 then (Sort.scanDown (fun x=>!ltN x d1[a]!) d1 (Sort.scanUp (fun x=>ltN x d1[a]!) d1 b1 a1) b1,true,Sort.swp d1 (Sort.scanDown (fun x=>!ltN x d1[a]!) d1 (Sort.scanUp (fun x=>ltN x d1[a]!) d1 b1 a1) b1) a) else
   ((Sort.partLoop ltN a (Sort.scanUp (fun x=>ltN x d1[a]!) d1 b1 a1 + 1) (Sort.scanDown (fun x=>!ltN x d1[a]!) d1 (Sort.scanUp (fun x=>ltN x d1[a]!) d1 b1 a1) b1 - 1) (Sort.swp d1 (Sort.scanUp (fun x=>ltN x d1[a]!) d1 b1 a1) (Sort.scanDown (fun x=>!ltN x d1[a]!) d1 (Sort.scanUp (fun x=>ltN x d1[a]!) d1 b1 a1) b1))).1,false,
    Sort.swp (Sort.partLoop ltN a (Sort.scanUp (fun x=>ltN x d1[a]!) d1 b1 a1 + 1) (Sort.scanDown (fun x=>!ltN x d1[a]!) d1 (Sort.scanUp (fun x=>ltN x d1[a]!) d1 b1 a1) b1 - 1) (Sort.swp d1 (Sort.scanUp (fun x=>ltN x d1[a]!) d1 b1 a1) (Sort.scanDown (fun x=>!ltN x d1[a]!) d1 (Sort.scanUp (fun x=>ltN x d1[a]!) d1 b1 a1) b1))).2
      (Sort.partLoop ltN a (Sort.scanUp (fun x=>ltN x d1[a]!) d1 b1 a1 + 1) (Sort.scanDown (fun x=>!ltN x d1[a]!) d1 (Sort.scanUp (fun x=>ltN x d1[a]!) d1 b1 a1) b1 - 1) (Sort.swp d1 (Sort.scanUp (fun x=>ltN x d1[a]!) d1 b1 a1) (Sort.scanDown (fun x=>!ltN x d1[a]!) d1 (Sort.scanUp (fun x=>ltN x d1[a]!) d1 b1 a1) b1))).1 a)):=by
  unfold Hid Sort.partition
  simp only [HD1.out,← HA1.out,show b - 1 = b1 by omega]
 go_wp2_with fail
 go_loopw [10] (fun u wr=>∃ (i2 : Nat),a1 ≤ i2 ∧ (i2 ≤ b1 + 1 ∨ i2 = a1) ∧ u = .int .i64 (i2 : Int) ∧ Hid (US w0 g n rest d1 wr ∧ Sort.scanUp (fun x=>ltN x d1[a]!) d1 b1 i2 = Sort.scanUp (fun x=>ltN x d1[a]!) d1 b1 a1)) (fun u _=>b1 + 1 - (intOf u).toNat)
 case atStart=>exact ⟨a1,Nat.le_refl _,.inr rfl,rfl,hI.out,rfl⟩
 case round=>
  obtain ⟨i2,hi2,hi2',rfl,hT⟩:=hrel
  go_upto_region 3 with fail
  obtain ⟨c,hc⟩ : ∃ c,(decide (i2 ≤ b1) && ltN d1[i2]! d1[a]!) = c:=⟨_,rfl⟩
  have HC:=Lib.hid hc
  clear hc
  go_cut [43] (fun v wx=>v = .bool c ∧ Hid (US w0 g n rest d1 wx))
  case first=>
   by_cases hg : i2 ≤ b1
   · have ht : ltN d1[i2]! d1[a]! = c:=by
       have:=HC.out
       rw [decide_eq_true hg,Bool.true_and] at this
       exact this
     have HT:=Lib.hid ht
     clear ht
     have lgi : i2 < n:=by omega
     have lgj : a < n:=by omega
     refine Rt.wp_region_rt (by kernel_rfl) [0,1,2,3,4,5,6,7,8,9,10,11,12,13] [] [] [0,0,3,7,15,15,63,127,15,15,783,1807,4095,8191] (by kernel_rfl) (fun _ W=>US w0 g n rest d1 W) ?_ ?_
     · exact US.drawn (hT.out.1) _
     iterate 6 (refine Rt.rs_sil rfl rfl rfl (fun K hK=>?_);go_simp;refine hK _ ?_;clear hK K)
     (refine Rt.rs_rd rfl rfl rfl ?_;apply Exists.intro;refine ⟨fun us' W hp hl hI=>?_,?_⟩;· (skip;go_simp;rfl));simp only [Act.put,zA,zB,zC,zD,zE,zF]
     (refine Rt.rs_rd rfl rfl rfl ?_;apply Exists.intro;refine ⟨fun us' W hp hl hI=>?_,?_⟩;· (have c0:=US.cell hI (j:=i2) (by omega);have c1:=US.cell hI (j:=a) (by omega);go_simp;rfl));simp only [Act.put,zA,zB,zC,zD,zE,zF]
     iterate 2 (refine Rt.rs_sil rfl rfl rfl (fun K hK=>?_);go_simp;refine hK _ ?_;clear hK K)
     (refine Rt.rs_rd rfl rfl rfl ?_;apply Exists.intro;refine ⟨fun us' W hp hl hI=>?_,?_⟩;· (skip;go_simp;rfl));simp only [Act.put,zA,zB,zC,zD,zE,zF]
     (refine Rt.rs_rd rfl rfl rfl ?_;apply Exists.intro;refine ⟨fun us' W hp hl hI=>?_,?_⟩;· (have c0:=US.cell hI (j:=i2) (by omega);have c1:=US.cell hI (j:=a) (by omega);go_simp;rfl));simp only [Act.put,zA,zB,zC,zD,zE,zF]
     refine Rt.rs_qt rfl rfl rfl ?_
     apply Exists.intro
     refine ⟨fun us' W hp hl hI=>?_,?_⟩
     · refine Rt.gives_cal ?_
       apply Exists.intro
       apply Exists.intro
       apply Exists.intro
       refine ⟨by go_simp;exact ⟨⟨rfl,rfl⟩,rfl⟩,?_⟩
       refine (lessU_any W _ _).mono ?_
       rintro e w7 ⟨rfl,rfl⟩
       exact ⟨_,rfl,by rw [HT.out],hI⟩
     simp only [Act.put,zA,zB,zC,zD,zE,zF]
     (refine Rt.rs_sil rfl rfl rfl (fun K hK=>?_);go_simp;refine hK _ ?_;clear hK K)
     refine Rt.rs_nil (fun W hI=>?_)
     replace hI:=Lib.hid hI
     go_wp2_with fail
     all_goals go_meet
     all_goals exact ⟨by first | rfl | simp,hI⟩
   · have ht : false = c:=by
       have:=HC.out
       rw [decide_eq_false hg,Bool.false_and] at this
       exact this
     subst ht
     refine Rt.wp_region_rt (by kernel_rfl) [0,1,2,3,4,5,6,7,8,9,10,11,12,13] [] [] [0,0,3,7,15,15,63,127,15,15,783,1807,4095,8191] (by kernel_rfl) (fun _ W=>US w0 g n rest d1 W) ?_ ?_
     · exact US.drawn (hT.out.1) _
     iterate 4 (refine Rt.rs_sil rfl rfl rfl (fun K hK=>?_);go_simp;refine hK _ ?_;clear hK K)
     iterate 9 ((refine Rt.rs_skip rfl rfl rfl ?_;simp only [Act.put,zA,zB,zC,zD,zE,zF]))
     (refine Rt.rs_sil rfl rfl rfl (fun K hK=>?_);go_simp;refine hK _ ?_;clear hK K)
     refine Rt.rs_nil (fun W hI=>?_)
     replace hI:=Lib.hid hI
     go_wp2_with fail
     all_goals go_meet
     all_goals exact ⟨by first | rfl | simp,hI⟩
  case rest=>
   obtain ⟨rfl,hW⟩:=hcut
   cases c with
   | true=>
     have hij : i2 ≤ b1:=by have:=HC.out;simp at this;omega
     go_wp2_with fail
     exact ⟨⟨i2 + 1,by omega,by omega,rfl,hW.out,(scanUp_go (p:=fun x=>ltN x d1[a]!) HC.out).symm.trans hT.out.2⟩,by simp [intOf];omega⟩
   | false=>
     have HI2:=Lib.hid ((scanUp_stop (p:=fun x=>ltN x d1[a]!) HC.out).symm.trans hT.out.2)
     go_wp2_with fail
     have HW1:=hW
     clear hW
     go_loopw [11] (fun u wr=>∃ (j2 : Nat),j2 ≤ b1 ∧ u = .int .i64 (j2 : Int) ∧ Hid (US w0 g n rest d1 wr ∧ Sort.scanDown (fun x=>!ltN x d1[a]!) d1 i2 j2 = Sort.scanDown (fun x=>!ltN x d1[a]!) d1 i2 b1)) (fun u _=>(intOf u).toNat)
     case atStart=>exact ⟨b1,Nat.le_refl _,rfl,HW1.out,rfl⟩
     case round=>
       obtain ⟨j2,hj2,rfl,hT⟩:=hrel
       go_upto_region 5 with fail
       obtain ⟨c,hc⟩ : ∃ c,(decide (i2 ≤ j2) && !ltN d1[j2]! d1[a]!) = c:=⟨_,rfl⟩
       have HC:=Lib.hid hc
       clear hc
       go_cut [60] (fun v wx=>v = .bool c ∧ Hid (US w0 g n rest d1 wx))
       case first=>
        by_cases hg : i2 ≤ j2
        ·have ht : ltN d1[j2]! d1[a]! = !c:=by
          have:=HC.out
          rw [decide_eq_true hg,Bool.true_and] at this
          rw [← this,Bool.not_not]
         have HT:=Lib.hid ht
         clear ht
         have lgi : j2 < n:=by omega
         have lgj : a < n:=by omega
         refine Rt.wp_region_rt (by kernel_rfl) [0,1,2,3,4,5,6,7,8,9,10,11,12,13,14] [] [] [0,0,3,7,15,15,63,127,15,15,783,1807,4095,8191,16383] (by kernel_rfl) (fun _ W=>US w0 g n rest d1 W) ?_ ?_
         ·exact US.drawn (hT.out.1) _
         iterate 6 (refine Rt.rs_sil rfl rfl rfl (fun K hK=>?_);go_simp;refine hK _ ?_;clear hK K)
         (refine Rt.rs_rd rfl rfl rfl ?_;apply Exists.intro;refine ⟨fun us' W hp hl hI=>?_,?_⟩;· (skip;go_simp;rfl));simp only [Act.put,zA,zB,zC,zD,zE,zF]
         (refine Rt.rs_rd rfl rfl rfl ?_;apply Exists.intro;refine ⟨fun us' W hp hl hI=>?_,?_⟩;· (have c0:=US.cell hI (j:=j2) (by omega);have c1:=US.cell hI (j:=a) (by omega);go_simp;rfl));simp only [Act.put,zA,zB,zC,zD,zE,zF]
         iterate 2 (refine Rt.rs_sil rfl rfl rfl (fun K hK=>?_);go_simp;refine hK _ ?_;clear hK K)
         (refine Rt.rs_rd rfl rfl rfl ?_;apply Exists.intro;refine ⟨fun us' W hp hl hI=>?_,?_⟩;· (skip;go_simp;rfl));simp only [Act.put,zA,zB,zC,zD,zE,zF]
         (refine Rt.rs_rd rfl rfl rfl ?_;apply Exists.intro;refine ⟨fun us' W hp hl hI=>?_,?_⟩;· (have c0:=US.cell hI (j:=j2) (by omega);have c1:=US.cell hI (j:=a) (by omega);go_simp;rfl));simp only [Act.put,zA,zB,zC,zD,zE,zF]
         refine Rt.rs_qt rfl rfl rfl ?_
         apply Exists.intro
         refine ⟨fun us' W hp hl hI=>?_,?_⟩
         ·refine Rt.gives_cal ?_
          apply Exists.intro
          apply Exists.intro
          apply Exists.intro
          refine ⟨by go_simp;exact ⟨⟨rfl,rfl⟩,rfl⟩,?_⟩
          refine (lessU_any W _ _).mono ?_
          rintro e w7 ⟨rfl,rfl⟩
          exact ⟨_,rfl,by rw [HT.out],hI⟩
         simp only [Act.put,zA,zB,zC,zD,zE,zF]
         iterate 2 (refine Rt.rs_sil rfl rfl rfl (fun K hK=>?_);go_simp;refine hK _ ?_;clear hK K)
         refine Rt.rs_nil (fun W hI=>?_)
         replace hI:=Lib.hid hI
         go_wp2_with fail
         all_goals go_meet
         all_goals exact ⟨by first | rfl | simp,hI⟩
        ·have ht : false = c:=by
          have:=HC.out
          rw [decide_eq_false hg,Bool.false_and] at this
          exact this
         subst ht
         refine Rt.wp_region_rt (by kernel_rfl) [0,1,2,3,4,5,6,7,8,9,10,11,12,13,14] [] [] [0,0,3,7,15,15,63,127,15,15,783,1807,4095,8191,16383] (by kernel_rfl) (fun _ W=>US w0 g n rest d1 W) ?_ ?_
         ·exact US.drawn (hT.out.1) _
         iterate 4 (refine Rt.rs_sil rfl rfl rfl (fun K hK=>?_);go_simp;refine hK _ ?_;clear hK K)
         iterate 10 ((refine Rt.rs_skip rfl rfl rfl ?_;simp only [Act.put,zA,zB,zC,zD,zE,zF]))
         (refine Rt.rs_sil rfl rfl rfl (fun K hK=>?_);go_simp;refine hK _ ?_;clear hK K)
         refine Rt.rs_nil (fun W hI=>?_)
         replace hI:=Lib.hid hI
         go_wp2_with fail
         all_goals go_meet
         all_goals exact ⟨by first | rfl | simp,hI⟩
       case rest=>
        obtain ⟨rfl,hW⟩:=hcut
        cases c with
        | true=>
         have hij : i2 ≤ j2:=by have:=HC.out;simp at this;omega
         go_wp2_with fail
         exact ⟨⟨j2 - 1,by omega,by congr 1;omega,hW.out,(scanDown_go (p:=fun x=>!ltN x d1[a]!) (by omega) HC.out).symm.trans hT.out.2⟩,by simp [intOf];omega⟩
        | false=>
         have HJ2:=Lib.hid ((scanDown_stop (p:=fun x=>!ltN x d1[a]!) HC.out).symm.trans hT.out.2)
         by_cases hgt : j2 < i2
         ·have l2 : j2 < n:=by omega
          go_upto_region 8 with fail
          refine Rt.wp_region_rt (by kernel_rfl) [0,1,2,3,4,5,6,7,8,9,10,11,12,13,14,15] [13,15] [0,0,1,1,0,0,0,0,0,0,0,0,0,1000,1] [0,0,0,0,0,0,48,112,0,0,768,1792,4083,8179,16383,32767] (by kernel_rfl) (SwI w0 g n rest d1 (j2) (a)) ?_ ?_
          ·exact US.drawn (hW.out) _
          iterate 6 (refine Rt.rs_sil rfl rfl rfl (fun K hK=>?_);go_simp;refine hK _ ?_;clear hK K)
          (refine Rt.rs_rd rfl rfl rfl ?_;apply Exists.intro;refine ⟨fun us' W hp hl hI=>?_,?_⟩;· (skip;go_simp;rfl));simp only [Act.put,zA,zB,zC,zD,zE,zF]
          (refine Rt.rs_rd rfl rfl rfl ?_;apply Exists.intro;refine ⟨fun us' W hp hl hI=>?_,?_⟩;· (have hl0 : us'.length ≤ 0:=hl;obtain rfl:=List.eq_nil_of_length_eq_zero (Nat.le_zero.1 hl0);have c0:=US.cell hI (j:=j2) (by omega);have c1:=US.cell hI (j:=a) (by omega);go_simp;rfl));simp only [Act.put,zA,zB,zC,zD,zE,zF]
          iterate 2 (refine Rt.rs_sil rfl rfl rfl (fun K hK=>?_);go_simp;refine hK _ ?_;clear hK K)
          (refine Rt.rs_rd rfl rfl rfl ?_;apply Exists.intro;refine ⟨fun us' W hp hl hI=>?_,?_⟩;· (skip;go_simp;rfl));simp only [Act.put,zA,zB,zC,zD,zE,zF]
          (refine Rt.rs_rd rfl rfl rfl ?_;apply Exists.intro;refine ⟨fun us' W hp hl hI=>?_,?_⟩;· (have hl0 : us'.length ≤ 0:=hl;obtain rfl:=List.eq_nil_of_length_eq_zero (Nat.le_zero.1 hl0);have c0:=US.cell hI (j:=j2) (by omega);have c1:=US.cell hI (j:=a) (by omega);go_simp;rfl));simp only [Act.put,zA,zB,zC,zD,zE,zF]
          (refine Rt.rs_rd rfl rfl rfl ?_;apply Exists.intro;refine ⟨fun us' W hp hl hI=>?_,?_⟩;· (skip;go_simp;rfl));simp only [Act.put,zA,zB,zC,zD,zE,zF]
          refine Rt.rs_eff rfl rfl rfl (fun W hI=>?_) (fun v hv=>?_)
          ·have f0:=US.froz hI (j2)
           have c0:=US.cell hI (j:=j2) (by omega)
           refine Rt.gives_skp ?_
           apply Exists.intro
           refine ⟨by go_simp;rfl,?_⟩
           exact US.put hI (j:=j2) (by omega) _
          clear hv
          simp only [Act.put,zA,zB,zC,zD,zE,zF]
          (refine Rt.rs_rd rfl rfl rfl ?_;apply Exists.intro;refine ⟨fun us' W hp hl hI=>?_,?_⟩;· (skip;go_simp;rfl));simp only [Act.put,zA,zB,zC,zD,zE,zF]
          refine Rt.rs_eff rfl rfl rfl (fun W hI=>?_) (fun v hv=>?_)
          ·have f0:=US.froz hI (a)
           have c0:=US.cell hI (j:=a) (by omega)
           refine Rt.gives_skp ?_
           apply Exists.intro
           refine ⟨by go_simp;rfl,?_⟩
           exact US.put hI (j:=a) (by omega) _
          clear hv
          simp only [Act.put,zA,zB,zC,zD,zE,zF]
          refine Rt.rs_nil (fun W hI=>?_)
          replace hI:=Lib.hid (SwI.out hI)
          go_wp2_with fail
          refine bodyPost_ret (v:=.tuple #[.int .i64 ((j2 : Nat) : Int),.bool true]) (by simp [results,Tryz.results126,go_sem]) rfl ?_
          have hfin : Sort.partition ltN d a b pivot = (j2,true,Sort.swp d1 j2 a):=by rw [HP.out,← HI2.out,← HJ2.out,if_pos hgt]
          rw [hfin]
          exact ⟨rfl,hI.out⟩
         ·have l1 : i2 < n:=by omega
          have l2 : j2 < n:=by omega
          go_upto_region 10 with fail
          refine Rt.wp_region_rt (by kernel_rfl) [0,1,2,3,4,5,6,7,8,9,10,11,12,13,14,15] [13,15] [0,0,1,1,0,0,0,0,0,0,0,0,0,1000,1] [0,0,0,0,0,0,48,112,0,0,768,1792,4083,8179,16383,32767] (by kernel_rfl) (SwI w0 g n rest d1 (i2) (j2)) ?_ ?_
          ·exact US.drawn (hW.out) _
          iterate 6 (refine Rt.rs_sil rfl rfl rfl (fun K hK=>?_);go_simp;refine hK _ ?_;clear hK K)
          (refine Rt.rs_rd rfl rfl rfl ?_;apply Exists.intro;refine ⟨fun us' W hp hl hI=>?_,?_⟩;· (skip;go_simp;rfl));simp only [Act.put,zA,zB,zC,zD,zE,zF]
          (refine Rt.rs_rd rfl rfl rfl ?_;apply Exists.intro;refine ⟨fun us' W hp hl hI=>?_,?_⟩;· (have hl0 : us'.length ≤ 0:=hl;obtain rfl:=List.eq_nil_of_length_eq_zero (Nat.le_zero.1 hl0);have c0:=US.cell hI (j:=i2) (by omega);have c1:=US.cell hI (j:=j2) (by omega);go_simp;rfl));simp only [Act.put,zA,zB,zC,zD,zE,zF]
          iterate 2 (refine Rt.rs_sil rfl rfl rfl (fun K hK=>?_);go_simp;refine hK _ ?_;clear hK K)
          (refine Rt.rs_rd rfl rfl rfl ?_;apply Exists.intro;refine ⟨fun us' W hp hl hI=>?_,?_⟩;· (skip;go_simp;rfl));simp only [Act.put,zA,zB,zC,zD,zE,zF]
          (refine Rt.rs_rd rfl rfl rfl ?_;apply Exists.intro;refine ⟨fun us' W hp hl hI=>?_,?_⟩;· (have hl0 : us'.length ≤ 0:=hl;obtain rfl:=List.eq_nil_of_length_eq_zero (Nat.le_zero.1 hl0);have c0:=US.cell hI (j:=i2) (by omega);have c1:=US.cell hI (j:=j2) (by omega);go_simp;rfl));simp only [Act.put,zA,zB,zC,zD,zE,zF]
          (refine Rt.rs_rd rfl rfl rfl ?_;apply Exists.intro;refine ⟨fun us' W hp hl hI=>?_,?_⟩;· (skip;go_simp;rfl));simp only [Act.put,zA,zB,zC,zD,zE,zF]
          refine Rt.rs_eff rfl rfl rfl (fun W hI=>?_) (fun v hv=>?_)
          ·have f0:=US.froz hI (i2)
           have c0:=US.cell hI (j:=i2) (by omega)
           refine Rt.gives_skp ?_
           apply Exists.intro
           refine ⟨by go_simp;rfl,?_⟩
           exact US.put hI (j:=i2) (by omega) _
          clear hv
          simp only [Act.put,zA,zB,zC,zD,zE,zF]
          (refine Rt.rs_rd rfl rfl rfl ?_;apply Exists.intro;refine ⟨fun us' W hp hl hI=>?_,?_⟩;· (skip;go_simp;rfl));simp only [Act.put,zA,zB,zC,zD,zE,zF]
          refine Rt.rs_eff rfl rfl rfl (fun W hI=>?_) (fun v hv=>?_)
          ·have f0:=US.froz hI (j2)
           have c0:=US.cell hI (j:=j2) (by omega)
           refine Rt.gives_skp ?_
           apply Exists.intro
           refine ⟨by go_simp;rfl,?_⟩
           exact US.put hI (j:=j2) (by omega) _
          clear hv
          simp only [Act.put,zA,zB,zC,zD,zE,zF]
          refine Rt.rs_nil (fun W hI=>?_)
          replace hI:=Lib.hid (SwI.out hI)
          have HP2 : Hid (Sort.partition ltN d a b pivot = ((Sort.partLoop ltN a (i2 + 1) (j2 - 1) (Sort.swp d1 i2 j2)).1,false,Sort.swp (Sort.partLoop ltN a (i2 + 1) (j2 - 1) (Sort.swp d1 i2 j2)).2 (Sort.partLoop ltN a (i2 + 1) (j2 - 1) (Sort.swp d1 i2 j2)).1 a)):=by
           unfold Hid
           rw [HP.out,← HI2.out,← HJ2.out,if_neg hgt]
          go_wp2_with fail
          go_loopw [10,11] (fun u v wr=>∃ (i j : Nat) (d3 : Array Nat),a + 1 ≤ i ∧ j < b ∧ i ≤ b + 1 ∧ u = .int .i64 (i : Int) ∧ v = .int .i64 (j : Int) ∧ Hid (US w0 g n rest d3 wr ∧ Sort.partLoop ltN a i j d3 = Sort.partLoop ltN a (i2 + 1) (j2 - 1) (Sort.swp d1 i2 j2))) (fun u v _=>(intOf v + 1 - intOf u).toNat)
          case atStart=>exact ⟨i2 + 1,j2 - 1,_,by omega,by omega,by omega,rfl,by congr 1;omega,hI.out,rfl⟩
          case round=>
           obtain ⟨i,j,d3,hi,hj,hib,rfl,rfl,hS⟩:=hrel
           go_wp2_with fail
           go_loopw [10] (fun u wr=>∃ (i4 : Nat),i ≤ i4 ∧ (i4 ≤ j + 1 ∨ i4 = i) ∧ u = .int .i64 (i4 : Int) ∧ Hid (US w0 g n rest d3 wr ∧ Sort.scanUp (fun x=>ltN x d3[a]!) d3 j i4 = Sort.scanUp (fun x=>ltN x d3[a]!) d3 j i)) (fun u _=>j + 1 - (intOf u).toNat)
           case atStart=>exact ⟨i,Nat.le_refl _,.inr rfl,rfl,hS.out.1,rfl⟩
           case round=>
            obtain ⟨i4,hi4,hi4',rfl,hT⟩:=hrel
            go_upto_region 13 with fail
            obtain ⟨c,hc⟩ : ∃ c,(decide (i4 ≤ j) && ltN d3[i4]! d3[a]!) = c:=⟨_,rfl⟩
            have HC:=Lib.hid hc
            clear hc
            go_cut [112] (fun v wx=>v = .bool c ∧ Hid (US w0 g n rest d3 wx))
            case first=>
             by_cases hg : i4 ≤ j
             ·have ht : ltN d3[i4]! d3[a]! = c:=by
               have:=HC.out
               rw [decide_eq_true hg,Bool.true_and] at this
               exact this
              have HT:=Lib.hid ht
              clear ht
              have lgi : i4 < n:=by omega
              have lgj : a < n:=by omega
              refine Rt.wp_region_rt (by kernel_rfl) [0,1,2,3,4,5,6,7,8,9,10,11,12,13] [] [] [0,0,3,7,15,15,63,127,15,15,783,1807,4095,8191] (by kernel_rfl) (fun _ W=>US w0 g n rest d3 W) ?_ ?_
              ·exact US.drawn (hT.out.1) _
              iterate 6 (refine Rt.rs_sil rfl rfl rfl (fun K hK=>?_);go_simp;refine hK _ ?_;clear hK K)
              (refine Rt.rs_rd rfl rfl rfl ?_;apply Exists.intro;refine ⟨fun us' W hp hl hI=>?_,?_⟩;· (skip;go_simp;rfl));simp only [Act.put,zA,zB,zC,zD,zE,zF]
              (refine Rt.rs_rd rfl rfl rfl ?_;apply Exists.intro;refine ⟨fun us' W hp hl hI=>?_,?_⟩;· (have c0:=US.cell hI (j:=i4) (by omega);have c1:=US.cell hI (j:=a) (by omega);go_simp;rfl));simp only [Act.put,zA,zB,zC,zD,zE,zF]
              iterate 2 (refine Rt.rs_sil rfl rfl rfl (fun K hK=>?_);go_simp;refine hK _ ?_;clear hK K)
              (refine Rt.rs_rd rfl rfl rfl ?_;apply Exists.intro;refine ⟨fun us' W hp hl hI=>?_,?_⟩;· (skip;go_simp;rfl));simp only [Act.put,zA,zB,zC,zD,zE,zF]
              (refine Rt.rs_rd rfl rfl rfl ?_;apply Exists.intro;refine ⟨fun us' W hp hl hI=>?_,?_⟩;· (have c0:=US.cell hI (j:=i4) (by omega);have c1:=US.cell hI (j:=a) (by omega);go_simp;rfl));simp only [Act.put,zA,zB,zC,zD,zE,zF]
              refine Rt.rs_qt rfl rfl rfl ?_
              apply Exists.intro
              refine ⟨fun us' W hp hl hI=>?_,?_⟩
              ·refine Rt.gives_cal ?_
               apply Exists.intro
               apply Exists.intro
               apply Exists.intro
               refine ⟨by go_simp;exact ⟨⟨rfl,rfl⟩,rfl⟩,?_⟩
               refine (lessU_any W _ _).mono ?_
               rintro e w7 ⟨rfl,rfl⟩
               exact ⟨_,rfl,by rw [HT.out],hI⟩
              simp only [Act.put,zA,zB,zC,zD,zE,zF]
              (refine Rt.rs_sil rfl rfl rfl (fun K hK=>?_);go_simp;refine hK _ ?_;clear hK K)
              refine Rt.rs_nil (fun W hI=>?_)
              replace hI:=Lib.hid hI
              go_wp2_with fail
              all_goals go_meet
              all_goals exact ⟨by first | rfl | simp,hI⟩
             ·have ht : false = c:=by
               have:=HC.out
               rw [decide_eq_false hg,Bool.false_and] at this
               exact this
              subst ht
              refine Rt.wp_region_rt (by kernel_rfl) [0,1,2,3,4,5,6,7,8,9,10,11,12,13] [] [] [0,0,3,7,15,15,63,127,15,15,783,1807,4095,8191] (by kernel_rfl) (fun _ W=>US w0 g n rest d3 W) ?_ ?_
              ·exact US.drawn (hT.out.1) _
              iterate 4 (refine Rt.rs_sil rfl rfl rfl (fun K hK=>?_);go_simp;refine hK _ ?_;clear hK K)
              iterate 9 ((refine Rt.rs_skip rfl rfl rfl ?_;simp only [Act.put,zA,zB,zC,zD,zE,zF]))
              (refine Rt.rs_sil rfl rfl rfl (fun K hK=>?_);go_simp;refine hK _ ?_;clear hK K)
              refine Rt.rs_nil (fun W hI=>?_)
              replace hI:=Lib.hid hI
              go_wp2_with fail
              all_goals go_meet
              all_goals exact ⟨by first | rfl | simp,hI⟩
            case rest=>
             obtain ⟨rfl,hW⟩:=hcut
             cases c with
             | true=>
              have hij : i4 ≤ j:=by have:=HC.out;simp at this;omega
              go_wp2_with fail
              exact ⟨⟨i4 + 1,by omega,by omega,rfl,hW.out,(scanUp_go (p:=fun x=>ltN x d3[a]!) HC.out).symm.trans hT.out.2⟩,by simp [intOf];omega⟩
             | false=>
              have HI4:=Lib.hid ((scanUp_stop (p:=fun x=>ltN x d3[a]!) HC.out).symm.trans hT.out.2)
              go_wp2_with fail
              have HW2:=hW
              clear hW
              go_loopw [11] (fun u wr=>∃ (j4 : Nat),j4 ≤ j ∧ u = .int .i64 (j4 : Int) ∧ Hid (US w0 g n rest d3 wr ∧ Sort.scanDown (fun x=>!ltN x d3[a]!) d3 i4 j4 = Sort.scanDown (fun x=>!ltN x d3[a]!) d3 i4 j)) (fun u _=>(intOf u).toNat)
              case atStart=>exact ⟨j,Nat.le_refl _,rfl,HW2.out,rfl⟩
              case round=>
               obtain ⟨j4,hj4,rfl,hT⟩:=hrel
               go_upto_region 15 with fail
               obtain ⟨c,hc⟩ : ∃ c,(decide (i4 ≤ j4) && !ltN d3[j4]! d3[a]!) = c:=⟨_,rfl⟩
               have HC:=Lib.hid hc
               clear hc
               go_cut [129] (fun v wx=>v = .bool c ∧ Hid (US w0 g n rest d3 wx))
               case first=>
                by_cases hg : i4 ≤ j4
                ·have ht : ltN d3[j4]! d3[a]! = !c:=by
                  have:=HC.out
                  rw [decide_eq_true hg,Bool.true_and] at this
                  rw [← this,Bool.not_not]
                 have HT:=Lib.hid ht
                 clear ht
                 have lgi : j4 < n:=by omega
                 have lgj : a < n:=by omega
                 refine Rt.wp_region_rt (by kernel_rfl) [0,1,2,3,4,5,6,7,8,9,10,11,12,13,14] [] [] [0,0,3,7,15,15,63,127,15,15,783,1807,4095,8191,16383] (by kernel_rfl) (fun _ W=>US w0 g n rest d3 W) ?_ ?_
                 ·exact US.drawn (hT.out.1) _
                 iterate 6 (refine Rt.rs_sil rfl rfl rfl (fun K hK=>?_);go_simp;refine hK _ ?_;clear hK K)
                 (refine Rt.rs_rd rfl rfl rfl ?_;apply Exists.intro;refine ⟨fun us' W hp hl hI=>?_,?_⟩;· (skip;go_simp;rfl));simp only [Act.put,zA,zB,zC,zD,zE,zF]
                 (refine Rt.rs_rd rfl rfl rfl ?_;apply Exists.intro;refine ⟨fun us' W hp hl hI=>?_,?_⟩;· (have c0:=US.cell hI (j:=j4) (by omega);have c1:=US.cell hI (j:=a) (by omega);go_simp;rfl));simp only [Act.put,zA,zB,zC,zD,zE,zF]
                 iterate 2 (refine Rt.rs_sil rfl rfl rfl (fun K hK=>?_);go_simp;refine hK _ ?_;clear hK K)
                 (refine Rt.rs_rd rfl rfl rfl ?_;apply Exists.intro;refine ⟨fun us' W hp hl hI=>?_,?_⟩;· (skip;go_simp;rfl));simp only [Act.put,zA,zB,zC,zD,zE,zF]
                 (refine Rt.rs_rd rfl rfl rfl ?_;apply Exists.intro;refine ⟨fun us' W hp hl hI=>?_,?_⟩;· (have c0:=US.cell hI (j:=j4) (by omega);have c1:=US.cell hI (j:=a) (by omega);go_simp;rfl));simp only [Act.put,zA,zB,zC,zD,zE,zF]
                 refine Rt.rs_qt rfl rfl rfl ?_
                 apply Exists.intro
                 refine ⟨fun us' W hp hl hI=>?_,?_⟩
                 ·refine Rt.gives_cal ?_
                  apply Exists.intro
                  apply Exists.intro
                  apply Exists.intro
                  refine ⟨by go_simp;exact ⟨⟨rfl,rfl⟩,rfl⟩,?_⟩
                  refine (lessU_any W _ _).mono ?_
                  rintro e w7 ⟨rfl,rfl⟩
                  exact ⟨_,rfl,by rw [HT.out],hI⟩
                 simp only [Act.put,zA,zB,zC,zD,zE,zF]
                 iterate 2 (refine Rt.rs_sil rfl rfl rfl (fun K hK=>?_);go_simp;refine hK _ ?_;clear hK K)
                 refine Rt.rs_nil (fun W hI=>?_)
                 replace hI:=Lib.hid hI
                 go_wp2_with fail
                 all_goals go_meet
                 all_goals exact ⟨by first | rfl | simp,hI⟩
                ·have ht : false = c:=by
                  have:=HC.out
                  rw [decide_eq_false hg,Bool.false_and] at this
                  exact this
                 subst ht
                 refine Rt.wp_region_rt (by kernel_rfl) [0,1,2,3,4,5,6,7,8,9,10,11,12,13,14] [] [] [0,0,3,7,15,15,63,127,15,15,783,1807,4095,8191,16383] (by kernel_rfl) (fun _ W=>US w0 g n rest d3 W) ?_ ?_
                 ·exact US.drawn (hT.out.1) _
                 iterate 4 (refine Rt.rs_sil rfl rfl rfl (fun K hK=>?_);go_simp;refine hK _ ?_;clear hK K)
                 iterate 10 ((refine Rt.rs_skip rfl rfl rfl ?_;simp only [Act.put,zA,zB,zC,zD,zE,zF]))
                 (refine Rt.rs_sil rfl rfl rfl (fun K hK=>?_);go_simp;refine hK _ ?_;clear hK K)
                 refine Rt.rs_nil (fun W hI=>?_)
                 replace hI:=Lib.hid hI
                 go_wp2_with fail
                 all_goals go_meet
                 all_goals exact ⟨by first | rfl | simp,hI⟩
               case rest=>
                obtain ⟨rfl,hW⟩:=hcut
                cases c with
                | true=>
                 have hij : i4 ≤ j4:=by have:=HC.out;simp at this;omega
                 go_wp2_with fail
                 exact ⟨⟨j4 - 1,by omega,by congr 1;omega,hW.out,(scanDown_go (p:=fun x=>!ltN x d3[a]!) (by omega) HC.out).symm.trans hT.out.2⟩,by simp [intOf];omega⟩
                | false=>
                 have HJ4:=Lib.hid ((scanDown_stop (p:=fun x=>!ltN x d3[a]!) HC.out).symm.trans hT.out.2)
                 by_cases hgt2 : j4 < i4
                 ·have l4 : j4 < n:=by omega
                  go_upto_region 21 with fail
                  refine Rt.wp_region_rt (by kernel_rfl) [0,1,2,3,4,5,6,7,8,9,10,11,12,13,14,15] [13,15] [0,0,1,1,0,0,0,0,0,0,0,0,0,1000,1] [0,0,0,0,0,0,48,112,0,0,768,1792,4083,8179,16383,32767] (by kernel_rfl) (SwI w0 g n rest d3 (j4) (a)) ?_ ?_
                  ·exact US.drawn (hW.out) _
                  iterate 6 (refine Rt.rs_sil rfl rfl rfl (fun K hK=>?_);go_simp;refine hK _ ?_;clear hK K)
                  (refine Rt.rs_rd rfl rfl rfl ?_;apply Exists.intro;refine ⟨fun us' W hp hl hI=>?_,?_⟩;· (skip;go_simp;rfl));simp only [Act.put,zA,zB,zC,zD,zE,zF]
                  (refine Rt.rs_rd rfl rfl rfl ?_;apply Exists.intro;refine ⟨fun us' W hp hl hI=>?_,?_⟩;· (have hl0 : us'.length ≤ 0:=hl;obtain rfl:=List.eq_nil_of_length_eq_zero (Nat.le_zero.1 hl0);have c0:=US.cell hI (j:=j4) (by omega);have c1:=US.cell hI (j:=a) (by omega);go_simp;rfl));simp only [Act.put,zA,zB,zC,zD,zE,zF]
                  iterate 2 (refine Rt.rs_sil rfl rfl rfl (fun K hK=>?_);go_simp;refine hK _ ?_;clear hK K)
                  (refine Rt.rs_rd rfl rfl rfl ?_;apply Exists.intro;refine ⟨fun us' W hp hl hI=>?_,?_⟩;· (skip;go_simp;rfl));simp only [Act.put,zA,zB,zC,zD,zE,zF]
                  (refine Rt.rs_rd rfl rfl rfl ?_;apply Exists.intro;refine ⟨fun us' W hp hl hI=>?_,?_⟩;· (have hl0 : us'.length ≤ 0:=hl;obtain rfl:=List.eq_nil_of_length_eq_zero (Nat.le_zero.1 hl0);have c0:=US.cell hI (j:=j4) (by omega);have c1:=US.cell hI (j:=a) (by omega);go_simp;rfl));simp only [Act.put,zA,zB,zC,zD,zE,zF]
                  (refine Rt.rs_rd rfl rfl rfl ?_;apply Exists.intro;refine ⟨fun us' W hp hl hI=>?_,?_⟩;· (skip;go_simp;rfl));simp only [Act.put,zA,zB,zC,zD,zE,zF]
                  refine Rt.rs_eff rfl rfl rfl (fun W hI=>?_) (fun v hv=>?_)
                  ·have f0:=US.froz hI (j4)
                   have c0:=US.cell hI (j:=j4) (by omega)
                   refine Rt.gives_skp ?_
                   apply Exists.intro
                   refine ⟨by go_simp;rfl,?_⟩
                   exact US.put hI (j:=j4) (by omega) _
                  clear hv
                  simp only [Act.put,zA,zB,zC,zD,zE,zF]
                  (refine Rt.rs_rd rfl rfl rfl ?_;apply Exists.intro;refine ⟨fun us' W hp hl hI=>?_,?_⟩;· (skip;go_simp;rfl));simp only [Act.put,zA,zB,zC,zD,zE,zF]
                  refine Rt.rs_eff rfl rfl rfl (fun W hI=>?_) (fun v hv=>?_)
                  ·have f0:=US.froz hI (a)
                   have c0:=US.cell hI (j:=a) (by omega)
                   refine Rt.gives_skp ?_
                   apply Exists.intro
                   refine ⟨by go_simp;rfl,?_⟩
                   exact US.put hI (j:=a) (by omega) _
                  clear hv
                  simp only [Act.put,zA,zB,zC,zD,zE,zF]
                  refine Rt.rs_nil (fun W hI=>?_)
                  replace hI:=Lib.hid (SwI.out hI)
                  go_wp2_with fail
                  refine bodyPost_ret (v:=.tuple #[.int .i64 ((j4 : Nat) : Int),.bool false]) (by simp [results,Tryz.results126,go_sem]) rfl ?_
                  have hfin : Sort.partition ltN d a b pivot = (j4,false,Sort.swp d3 j4 a):=by rw [HP2.out,← hS.out.2,Sort.partLoop_eq ltN a i j d3,← HI4.out,← HJ4.out,if_pos hgt2]
                  rw [hfin]
                  exact ⟨rfl,hI.out⟩
                 ·have l3 : i4 < n:=by omega
                  have l4 : j4 < n:=by omega
                  go_upto_region 18 with fail
                  refine Rt.wp_region_rt (by kernel_rfl) [0,1,2,3,4,5,6,7,8,9,10,11,12,13,14,15] [13,15] [0,0,1,1,0,0,0,0,0,0,0,0,0,1000,1] [0,0,0,0,0,0,48,112,0,0,768,1792,4083,8179,16383,32767] (by kernel_rfl) (SwI w0 g n rest d3 (i4) (j4)) ?_ ?_
                  ·exact US.drawn (hW.out) _
                  iterate 6 (refine Rt.rs_sil rfl rfl rfl (fun K hK=>?_);go_simp;refine hK _ ?_;clear hK K)
                  (refine Rt.rs_rd rfl rfl rfl ?_;apply Exists.intro;refine ⟨fun us' W hp hl hI=>?_,?_⟩;· (skip;go_simp;rfl));simp only [Act.put,zA,zB,zC,zD,zE,zF]
                  (refine Rt.rs_rd rfl rfl rfl ?_;apply Exists.intro;refine ⟨fun us' W hp hl hI=>?_,?_⟩;· (have hl0 : us'.length ≤ 0:=hl;obtain rfl:=List.eq_nil_of_length_eq_zero (Nat.le_zero.1 hl0);have c0:=US.cell hI (j:=i4) (by omega);have c1:=US.cell hI (j:=j4) (by omega);go_simp;rfl));simp only [Act.put,zA,zB,zC,zD,zE,zF]
                  iterate 2 (refine Rt.rs_sil rfl rfl rfl (fun K hK=>?_);go_simp;refine hK _ ?_;clear hK K)
                  (refine Rt.rs_rd rfl rfl rfl ?_;apply Exists.intro;refine ⟨fun us' W hp hl hI=>?_,?_⟩;· (skip;go_simp;rfl));simp only [Act.put,zA,zB,zC,zD,zE,zF]
                  (refine Rt.rs_rd rfl rfl rfl ?_;apply Exists.intro;refine ⟨fun us' W hp hl hI=>?_,?_⟩;· (have hl0 : us'.length ≤ 0:=hl;obtain rfl:=List.eq_nil_of_length_eq_zero (Nat.le_zero.1 hl0);have c0:=US.cell hI (j:=i4) (by omega);have c1:=US.cell hI (j:=j4) (by omega);go_simp;rfl));simp only [Act.put,zA,zB,zC,zD,zE,zF]
                  (refine Rt.rs_rd rfl rfl rfl ?_;apply Exists.intro;refine ⟨fun us' W hp hl hI=>?_,?_⟩;· (skip;go_simp;rfl));simp only [Act.put,zA,zB,zC,zD,zE,zF]
                  refine Rt.rs_eff rfl rfl rfl (fun W hI=>?_) (fun v hv=>?_)
                  ·have f0:=US.froz hI (i4)
                   have c0:=US.cell hI (j:=i4) (by omega)
                   refine Rt.gives_skp ?_
                   apply Exists.intro
                   refine ⟨by go_simp;rfl,?_⟩
                   exact US.put hI (j:=i4) (by omega) _
                  clear hv
                  simp only [Act.put,zA,zB,zC,zD,zE,zF]
                  (refine Rt.rs_rd rfl rfl rfl ?_;apply Exists.intro;refine ⟨fun us' W hp hl hI=>?_,?_⟩;· (skip;go_simp;rfl));simp only [Act.put,zA,zB,zC,zD,zE,zF]
                  refine Rt.rs_eff rfl rfl rfl (fun W hI=>?_) (fun v hv=>?_)
                  ·have f0:=US.froz hI (j4)
                   have c0:=US.cell hI (j:=j4) (by omega)
                   refine Rt.gives_skp ?_
                   apply Exists.intro
                   refine ⟨by go_simp;rfl,?_⟩
                   exact US.put hI (j:=j4) (by omega) _
                  clear hv
                  simp only [Act.put,zA,zB,zC,zD,zE,zF]
                  refine Rt.rs_nil (fun W hI=>?_)
                  replace hI:=Lib.hid (SwI.out hI)
                  go_wp2_with fail
                  refine ⟨⟨i4 + 1,j4 - 1,_,by omega,by omega,by omega,rfl,by congr 1;omega,hI.out,?_⟩,by simp [intOf];omega⟩
                  rw [← hS.out.2,Sort.partLoop_eq ltN a i j d3]
                  rw [← HI4.out,← HJ4.out,if_neg (by omega)]
end Go.Proofs.YtihfcjioilmmjaaGreat
