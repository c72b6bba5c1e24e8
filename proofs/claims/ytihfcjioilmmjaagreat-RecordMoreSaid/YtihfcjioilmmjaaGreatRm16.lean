/- Lemmas: sort 3. -/
import Derived.Test.YtihfcjioilmmjaaGreatRm1
import Derived.Test.YtihfcjioilmmjaaGreatRm14
set_option linter.all false
namespace Go.Proofs.YtihfcjioilmmjaaGreat
open Go Go.RowKit
open Go.Lib Go.Proofs
theorem scanS_go {d : Array Nat} {b i p : Nat} (hp : i - 1 = p) (h : (decide (i < b) && !ltN d[i]! d[p]!) = true) : Sort.scanSorted ltN d b i = Sort.scanSorted ltN d b (i + 1):=by subst hp;rw [Sort.scanSorted,if_pos h]
theorem scanS_stop {d : Array Nat} {b i p : Nat} (hp : i - 1 = p) (h : (decide (i < b) && !ltN d[i]! d[p]!) = false) : Sort.scanSorted ltN d b i = i:=by subst hp;rw [Sort.scanSorted,if_neg (by rw [h];simp)]
theorem shiftD_go {d : Array Nat} {q p : Nat} (hq : 1 ≤ q) (hp : q - 1 = p) (h : ltN d[q]! d[p]! = true) : Sort.shiftDown ltN q d = Sort.shiftDown ltN p (Sort.swp d q p):=by
 cases q with
 | zero=>omega
 | succ q=>rw [Nat.add_sub_cancel] at hp;subst hp;conv=>lhs;rw [Sort.shiftDown,if_neg (by rw [h];simp)]
theorem shiftD_stop {d : Array Nat} {q p : Nat} (hp : q - 1 = p) (h : q = 0 ∨ ltN d[q]! d[p]! = false) : Sort.shiftDown ltN q d = d:=by
 cases q with
 | zero=>rfl
 | succ q=>
  rw [Nat.add_sub_cancel] at hp;subst hp
  rw [Sort.shiftDown,if_pos]
  rcases h with h | h
  ·omega
  ·rw [h];rfl
theorem shiftU_go {d : Array Nat} {b q p : Nat} (hq : q < b) (hp : q - 1 = p) (h : ltN d[q]! d[p]! = true) : Sort.shiftUp ltN b q d = Sort.shiftUp ltN b (q + 1) (Sort.swp d q p):=by
 subst hp;conv=>lhs;rw [Sort.shiftUp,if_pos hq,if_neg (by rw [h];simp)]
theorem shiftU_stop {d : Array Nat} {b q p : Nat} (hp : q - 1 = p) (h : ¬ q < b ∨ ltN d[q]! d[p]! = false) : Sort.shiftUp ltN b q d = d:=by
 subst hp
 rw [Sort.shiftUp]
 split
 ·rw [if_pos]
  rcases h with h | h
  ·omega
  ·rw [h];rfl
 ·rfl
theorem fixD_yes {d : Array Nat} {a k p : Nat} (hp : k - 1 = p) (h : 2 ≤ k - a) : Sort.fixDown ltN a k d = Sort.shiftDown ltN p d:=by subst hp;unfold Sort.fixDown;rw [if_pos h]
theorem fixD_no {d : Array Nat} {a k : Nat} (h : ¬ 2 ≤ k - a) : Sort.fixDown ltN a k d = d:=by unfold Sort.fixDown;rw [if_neg h]
theorem fixU_yes {d : Array Nat} {b k : Nat} (h : 2 ≤ b - k) : Sort.fixUp ltN b k d = Sort.shiftUp ltN b (k + 1) d:=by unfold Sort.fixUp;rw [if_pos h]
theorem fixU_no {d : Array Nat} {b k : Nat} (h : ¬ 2 ≤ b - k) : Sort.fixUp ltN b k d = d:=by unfold Sort.fixUp;rw [if_neg h]
set_option maxHeartbeats 4000000 in
set_option maxRecDepth 100000 in
theorem pinsU_any {w0 w : World} {g n : Nat} {rest : Array Value} {d : Array Nat} (h : US w0 g n rest d w) (cap a b : Nat) (hab : a < b) (hb : b ≤ n) (hn : n ≤ 1000000) :
  Calls Tryz.prog 123 #[.slice (some ⟨g,0,none⟩) n cap,.int .i64 (a : Int),.int .i64 (b : Int)] w fun e w'=>e = .returned (.bool (Sort.partialInsertionSort ltN d a b).2) ∧ US w0 g n rest (Sort.partialInsertionSort ltN d a b).1 w':=by
 have H:=Lib.hid h
 clear h
 go_enter Tryz.func123,Tryz.ntmps123
 go_wp2_with fail
 go_loopw [7,8] (fun u v wr=>∃ (i s : Nat) (d1 : Array Nat),a + 1 ≤ i ∧ i ≤ b ∧ s ≤ 5 ∧ u = .int .i64 (i : Int) ∧ v = .int .i64 (s : Int) ∧ Hid (US w0 g n rest d1 wr ∧ Sort.partialIns ltN a b (5 - s) i d1 = Sort.partialInsertionSort ltN d a b)) (fun _ v _=>(5 - intOf v).toNat)
 case atStart=>exact ⟨a + 1,0,d,Nat.le_refl _,by omega,by omega,rfl,rfl,H.out,rfl⟩
 case round=>
  obtain ⟨i,s,d1,hi,hib,hs,rfl,rfl,hS⟩:=hrel
  by_cases hs5 : s < 5
  ·have hs5i : (s : Int) < 5:=by omega
   go_wp2_with fail
   go_loopw [7] (fun u wr=>∃ (k : Nat),i ≤ k ∧ k ≤ b ∧ u = .int .i64 (k : Int) ∧ Hid (US w0 g n rest d1 wr ∧ Sort.scanSorted ltN d1 b k = Sort.scanSorted ltN d1 b i)) (fun u _=>b - (intOf u).toNat)
   case atStart=>exact ⟨i,Nat.le_refl _,hib,rfl,hS.out.1,rfl⟩
   case round=>
    obtain ⟨k,hik,hkb,rfl,hT⟩:=hrel
    obtain ⟨p,hp⟩ : ∃ p : Nat,k - 1 = p:=⟨_,rfl⟩
    have ep : (k : Int) - 1 = (p : Int):=by omega
    have vp:=wrapN (k:=p) (by omega)
    have ltp : p < n:=by omega
    go_upto_region 5 with fail
    obtain ⟨c,hc⟩ : ∃ c,(decide (k < b) && !ltN d1[k]! d1[p]!) = c:=⟨_,rfl⟩
    have HC:=Lib.hid hc
    clear hc
    go_cut [32] (fun v wx=>v = .bool c ∧ Hid (US w0 g n rest d1 wx))
    case first=>
     by_cases hg : k < b
     ·have ht : ltN d1[k]! d1[p]! = !c:=by
       have:=HC.out
       rw [decide_eq_true hg,Bool.true_and] at this
       rw [← this,Bool.not_not]
      have HT:=Lib.hid ht
      clear ht
      have lgi : k < n:=by omega
      have lgj : p < n:=by omega
      refine Rt.wp_region_rt (by kernel_rfl) [0,1,2,3,4,5,6,7,8,9,10,11,12,13,14,15] [] [] [0,0,3,7,15,15,63,127,15,15,527,1807,3855,8191,16383,32767] (by kernel_rfl) (fun _ W=>US w0 g n rest d1 W) ?_ ?_
      ·exact US.drawn (hT.out.1) _
      iterate 6 (refine Rt.rs_sil rfl rfl rfl (fun K hK=>?_);go_simp;refine hK _ ?_;clear hK K)
      (refine Rt.rs_rd rfl rfl rfl ?_;apply Exists.intro;refine ⟨fun us' W hp hl hI=>?_,?_⟩;· (skip;go_simp;rfl));simp only [Act.put,zA,zB,zC,zD,zE,zF]
      (refine Rt.rs_rd rfl rfl rfl ?_;apply Exists.intro;refine ⟨fun us' W hp hl hI=>?_,?_⟩;· (have c0:=US.cell hI (j:=k) (by omega);have c1:=US.cell hI (j:=p) (by omega);go_simp;rfl));simp only [Act.put,zA,zB,zC,zD,zE,zF]
      iterate 3 (refine Rt.rs_sil rfl rfl rfl (fun K hK=>?_);go_simp;refine hK _ ?_;clear hK K)
      (refine Rt.rs_rd rfl rfl rfl ?_;apply Exists.intro;refine ⟨fun us' W hp hl hI=>?_,?_⟩;· (skip;go_simp;rfl));simp only [Act.put,zA,zB,zC,zD,zE,zF]
      (refine Rt.rs_rd rfl rfl rfl ?_;apply Exists.intro;refine ⟨fun us' W hp hl hI=>?_,?_⟩;· (have c0:=US.cell hI (j:=k) (by omega);have c1:=US.cell hI (j:=p) (by omega);go_simp;rfl));simp only [Act.put,zA,zB,zC,zD,zE,zF]
      refine Rt.rs_qt rfl rfl rfl ?_
      apply Exists.intro
      refine ⟨fun us' W hp hl hI=>?_,?_⟩
      ·refine Rt.gives_cal ?_
       apply Exists.intro
       apply Exists.intro
       apply Exists.intro
       refine ⟨by go_simp;exact ⟨⟨rfl,rfl⟩,rfl⟩,?_⟩
       refine (lessU_any W _ _).mono ?_
       rintro e w7 ⟨rfl,rfl⟩
       exact ⟨_,rfl,by rw [HT.out],hI⟩
      simp only [Act.put,zA,zB,zC,zD,zE,zF]
      iterate 2 (refine Rt.rs_sil rfl rfl rfl (fun K hK=>?_);go_simp;refine hK _ ?_;clear hK K)
      refine Rt.rs_nil (fun W hI=>?_)
      replace hI:=Lib.hid hI
      go_wp2_with fail
      all_goals go_meet
      all_goals exact ⟨by first | rfl | simp,hI⟩
     ·have ht : false = c:=by
       have:=HC.out
       rw [decide_eq_false hg,Bool.false_and] at this
       exact this
      subst ht
      refine Rt.wp_region_rt (by kernel_rfl) [0,1,2,3,4,5,6,7,8,9,10,11,12,13,14,15] [] [] [0,0,3,7,15,15,63,127,15,15,527,1807,3855,8191,16383,32767] (by kernel_rfl) (fun _ W=>US w0 g n rest d1 W) ?_ ?_
      ·exact US.drawn (hT.out.1) _
      iterate 4 (refine Rt.rs_sil rfl rfl rfl (fun K hK=>?_);go_simp;refine hK _ ?_;clear hK K)
      iterate 11 ((refine Rt.rs_skip rfl rfl rfl ?_;simp only [Act.put,zA,zB,zC,zD,zE,zF]))
      (refine Rt.rs_sil rfl rfl rfl (fun K hK=>?_);go_simp;refine hK _ ?_;clear hK K)
      refine Rt.rs_nil (fun W hI=>?_)
      replace hI:=Lib.hid hI
      go_wp2_with fail
      all_goals go_meet
      all_goals exact ⟨by first | rfl | simp,hI⟩
    case rest=>
     obtain ⟨rfl,hW⟩:=hcut
     cases c with
     | true=>
      have hlt : k < b:=by have:=HC.out;simp at this;omega
      have HGO:=Lib.hid ((scanS_go hp HC.out).symm.trans hT.out.2)
      clear hp ep vp
      go_wp2_with fail
      exact ⟨⟨k + 1,by omega,by omega,rfl,hW.out,HGO.out⟩,by simp [intOf];omega⟩
     | false=>
      have HK:=Lib.hid ((scanS_stop hp HC.out).symm.trans hT.out.2)
      have HP:=Lib.hid hp
      have HF : Hid (Sort.partialInsertionSort ltN d a b = if k = b then (d1,true) else if b - a < 50 then (d1,false) else Sort.partialIns ltN a b (4 - s) k (Sort.fixUp ltN b k (Sort.fixDown ltN a k (Sort.swp d1 k p)))):=by
       unfold Hid
       rw [← hS.out.2,show 5 - s = (4 - s) + 1 by omega,Sort.partialIns_succ,← HK.out,HP.out]
      clear hT hS
      by_cases hkb2 : k = b
      ·clear hp ep vp
       have HKB:=Lib.hid hkb2
       have hkb3 : (k : Int) = (b : Int):=by omega
       clear hkb2
       go_wp2_with fail
       go_ret
       rw [HF.out,if_pos HKB.out]
       exact ⟨rfl,hW.out⟩
      ·by_cases h50 : b - a < 50
       ·clear hp ep vp
        have hkb3 : ¬ ((k : Int) = (b : Int)):=by omega
        go_wp2_with fail
        go_ret
        rw [HF.out,if_neg hkb2,if_pos h50]
        exact ⟨rfl,hW.out⟩
       ·have HNE:=Lib.hid hkb2
        have hkb3 : ¬ ((k : Int) = (b : Int)):=by omega
        have hlk : k < n:=by omega
        have h50i : ¬ ((b : Int) - (a : Int) < 50):=by omega
        go_upto_region 11 with fail
        refine Rt.wp_region_rt (by kernel_rfl) [0,1,2,3,4,5,6,7,8,9,10,11,12,13,14,15,16,17] [15,17] [0,0,1,1,1,0,0,0,0,0,0,0,0,0,0,1000,1] [0,0,0,0,8,0,0,64,224,480,0,0,3072,7168,16355,32739,65535,131071] (by kernel_rfl) (SwI w0 g n rest d1 (k) (p)) ?_ ?_
        ·exact US.drawn (hW.out) _
        iterate 8 (refine Rt.rs_sil rfl rfl rfl (fun K hK=>?_);go_simp;refine hK _ ?_;clear hK K)
        (refine Rt.rs_rd rfl rfl rfl ?_;apply Exists.intro;refine ⟨fun us' W hp hl hI=>?_,?_⟩;· (skip;go_simp;rfl));simp only [Act.put,zA,zB,zC,zD,zE,zF]
        (refine Rt.rs_rd rfl rfl rfl ?_;apply Exists.intro;refine ⟨fun us' W hp hl hI=>?_,?_⟩;· (have hl0 : us'.length ≤ 0:=hl;obtain rfl:=List.eq_nil_of_length_eq_zero (Nat.le_zero.1 hl0);have c0:=US.cell hI (j:=k) (by omega);have c1:=US.cell hI (j:=p) (by omega);go_simp;rfl));simp only [Act.put,zA,zB,zC,zD,zE,zF]
        iterate 2 (refine Rt.rs_sil rfl rfl rfl (fun K hK=>?_);go_simp;refine hK _ ?_;clear hK K)
        (refine Rt.rs_rd rfl rfl rfl ?_;apply Exists.intro;refine ⟨fun us' W hp hl hI=>?_,?_⟩;· (skip;go_simp;rfl));simp only [Act.put,zA,zB,zC,zD,zE,zF]
        (refine Rt.rs_rd rfl rfl rfl ?_;apply Exists.intro;refine ⟨fun us' W hp hl hI=>?_,?_⟩;· (have hl0 : us'.length ≤ 0:=hl;obtain rfl:=List.eq_nil_of_length_eq_zero (Nat.le_zero.1 hl0);have c0:=US.cell hI (j:=k) (by omega);have c1:=US.cell hI (j:=p) (by omega);go_simp;rfl));simp only [Act.put,zA,zB,zC,zD,zE,zF]
        (refine Rt.rs_rd rfl rfl rfl ?_;apply Exists.intro;refine ⟨fun us' W hp hl hI=>?_,?_⟩;· (skip;go_simp;rfl));simp only [Act.put,zA,zB,zC,zD,zE,zF]
        refine Rt.rs_eff rfl rfl rfl (fun W hI=>?_) (fun v hv=>?_)
        ·have f0:=US.froz hI (k)
         have c0:=US.cell hI (j:=k) (by omega)
         refine Rt.gives_skp ?_
         apply Exists.intro
         refine ⟨by go_simp;rfl,?_⟩
         exact US.put hI (j:=k) (by omega) _
        clear hv
        simp only [Act.put,zA,zB,zC,zD,zE,zF]
        (refine Rt.rs_rd rfl rfl rfl ?_;apply Exists.intro;refine ⟨fun us' W hp hl hI=>?_,?_⟩;· (skip;go_simp;rfl));simp only [Act.put,zA,zB,zC,zD,zE,zF]
        refine Rt.rs_eff rfl rfl rfl (fun W hI=>?_) (fun v hv=>?_)
        ·have f0:=US.froz hI (p)
         have c0:=US.cell hI (j:=p) (by omega)
         refine Rt.gives_skp ?_
         apply Exists.intro
         refine ⟨by go_simp;rfl,?_⟩
         exact US.put hI (j:=p) (by omega) _
        clear hv
        simp only [Act.put,zA,zB,zC,zD,zE,zF]
        refine Rt.rs_nil (fun W hI=>?_)
        replace hI:=Lib.hid (SwI.out hI)
        have HD:=Lib.hid hI.out
        clear hI
        obtain ⟨d2,hd2⟩ : ∃ d2,Sort.swp d1 k p = d2:=⟨_,rfl⟩
        rw [hd2] at HD
        have HD2:=Lib.hid hd2
        clear hd2 hW
        go_upto_if 61 with fail
        go_cut [] (fun wx=>Hid (US w0 g n rest (Sort.fixDown ltN a k d2) wx))
        case first=>
         by_cases h2 : 2 ≤ k - a
         ·have h2i : (2 : Int) ≤ (k : Int) - (a : Int):=by omega
          go_wp2_with fail
          go_loopw [9] (fun u wr=>∃ (q : Nat) (d3 : Array Nat),q ≤ p ∧ u = .int .i64 (q : Int) ∧ Hid (US w0 g n rest d3 wr ∧ Sort.shiftDown ltN q d3 = Sort.shiftDown ltN p d2)) (fun u _=>(intOf u).toNat)
          case atStart=>exact ⟨p,d2,Nat.le_refl _,rfl,HD.out,rfl⟩
          case round=>
           obtain ⟨q,d3,hq,rfl,hT⟩:=hrel
           by_cases h1 : 1 ≤ q
           ·
            obtain ⟨r,hr⟩ : ∃ r : Nat,q - 1 = r:=⟨_,rfl⟩
            have er : (q : Int) - 1 = (r : Int):=by omega
            have vr:=wrapN (k:=r) (by omega)
            have ltr : r < n:=by omega
            have ltq : q < n:=by omega
            obtain ⟨c,hc⟩ : ∃ c,ltN d3[q]! d3[r]! = c:=⟨_,rfl⟩
            have HC2:=Lib.hid hc
            clear hc
            go_upto_region 16 with fail
            refine Rt.wp_region_rt (by kernel_rfl) [0,1,2,3,4,5,6,7,8,9,10] [] [] [0,0,3,7,0,0,32,112,240,511,1023] (by kernel_rfl) (fun _ W=>US w0 g n rest d3 W) ?_ ?_
            ·exact US.drawn (hT.out.1) _
            iterate 2 (refine Rt.rs_sil rfl rfl rfl (fun K hK=>?_);go_simp;refine hK _ ?_;clear hK K)
            (refine Rt.rs_rd rfl rfl rfl ?_;apply Exists.intro;refine ⟨fun us' W hp hl hI=>?_,?_⟩;· (skip;go_simp;rfl));simp only [Act.put,zA,zB,zC,zD,zE,zF]
            (refine Rt.rs_rd rfl rfl rfl ?_;apply Exists.intro;refine ⟨fun us' W hp hl hI=>?_,?_⟩;· (have c0:=US.cell hI (j:=q) (by omega);have c1:=US.cell hI (j:=r) (by omega);go_simp;rfl));simp only [Act.put,zA,zB,zC,zD,zE,zF]
            iterate 3 (refine Rt.rs_sil rfl rfl rfl (fun K hK=>?_);go_simp;refine hK _ ?_;clear hK K)
            (refine Rt.rs_rd rfl rfl rfl ?_;apply Exists.intro;refine ⟨fun us' W hp hl hI=>?_,?_⟩;· (skip;go_simp;rfl));simp only [Act.put,zA,zB,zC,zD,zE,zF]
            (refine Rt.rs_rd rfl rfl rfl ?_;apply Exists.intro;refine ⟨fun us' W hp hl hI=>?_,?_⟩;· (have c0:=US.cell hI (j:=q) (by omega);have c1:=US.cell hI (j:=r) (by omega);go_simp;rfl));simp only [Act.put,zA,zB,zC,zD,zE,zF]
            refine Rt.rs_qt rfl rfl rfl ?_
            apply Exists.intro
            refine ⟨fun us' W hp hl hI=>?_,?_⟩
            ·refine Rt.gives_cal ?_
             apply Exists.intro
             apply Exists.intro
             apply Exists.intro
             refine ⟨by go_simp;exact ⟨⟨rfl,rfl⟩,rfl⟩,?_⟩
             refine (lessU_any W _ _).mono ?_
             rintro e w7 ⟨rfl,rfl⟩
             exact ⟨_,rfl,by rw [HC2.out],hI⟩
            simp only [Act.put,zA,zB,zC,zD,zE,zF]
            (refine Rt.rs_sil rfl rfl rfl (fun K hK=>?_);go_simp;refine hK _ ?_;clear hK K)
            refine Rt.rs_nil (fun W hI=>?_)
            replace hI:=Lib.hid hI
            cases c with
            | true=>
             go_upto_region 17 with fail
             refine Rt.wp_region_rt (by kernel_rfl) [0,1,2,3,4,5,6,7,8,9,10,11,12,13,14,15,16,17] [15,17] [0,0,1,1,1,0,0,0,0,0,0,0,0,0,0,1000,1] [0,0,0,0,8,0,0,64,224,480,0,0,3072,7168,16355,32739,65535,131071] (by kernel_rfl) (SwI w0 g n rest d3 (q) (r)) ?_ ?_
             ·exact US.drawn (hI.out) _
             iterate 8 (refine Rt.rs_sil rfl rfl rfl (fun K hK=>?_);go_simp;refine hK _ ?_;clear hK K)
             (refine Rt.rs_rd rfl rfl rfl ?_;apply Exists.intro;refine ⟨fun us' W hp hl hI=>?_,?_⟩;· (skip;go_simp;rfl));simp only [Act.put,zA,zB,zC,zD,zE,zF]
             (refine Rt.rs_rd rfl rfl rfl ?_;apply Exists.intro;refine ⟨fun us' W hp hl hI=>?_,?_⟩;· (have hl0 : us'.length ≤ 0:=hl;obtain rfl:=List.eq_nil_of_length_eq_zero (Nat.le_zero.1 hl0);have c0:=US.cell hI (j:=q) (by omega);have c1:=US.cell hI (j:=r) (by omega);go_simp;rfl));simp only [Act.put,zA,zB,zC,zD,zE,zF]
             iterate 2 (refine Rt.rs_sil rfl rfl rfl (fun K hK=>?_);go_simp;refine hK _ ?_;clear hK K)
             (refine Rt.rs_rd rfl rfl rfl ?_;apply Exists.intro;refine ⟨fun us' W hp hl hI=>?_,?_⟩;· (skip;go_simp;rfl));simp only [Act.put,zA,zB,zC,zD,zE,zF]
             (refine Rt.rs_rd rfl rfl rfl ?_;apply Exists.intro;refine ⟨fun us' W hp hl hI=>?_,?_⟩;· (have hl0 : us'.length ≤ 0:=hl;obtain rfl:=List.eq_nil_of_length_eq_zero (Nat.le_zero.1 hl0);have c0:=US.cell hI (j:=q) (by omega);have c1:=US.cell hI (j:=r) (by omega);go_simp;rfl));simp only [Act.put,zA,zB,zC,zD,zE,zF]
             (refine Rt.rs_rd rfl rfl rfl ?_;apply Exists.intro;refine ⟨fun us' W hp hl hI=>?_,?_⟩;· (skip;go_simp;rfl));simp only [Act.put,zA,zB,zC,zD,zE,zF]
             refine Rt.rs_eff rfl rfl rfl (fun W hI=>?_) (fun v hv=>?_)
             ·have f0:=US.froz hI (q)
              have c0:=US.cell hI (j:=q) (by omega)
              refine Rt.gives_skp ?_
              apply Exists.intro
              refine ⟨by go_simp;rfl,?_⟩
              exact US.put hI (j:=q) (by omega) _
             clear hv
             simp only [Act.put,zA,zB,zC,zD,zE,zF]
             (refine Rt.rs_rd rfl rfl rfl ?_;apply Exists.intro;refine ⟨fun us' W hp hl hI=>?_,?_⟩;· (skip;go_simp;rfl));simp only [Act.put,zA,zB,zC,zD,zE,zF]
             refine Rt.rs_eff rfl rfl rfl (fun W hI=>?_) (fun v hv=>?_)
             ·have f0:=US.froz hI (r)
              have c0:=US.cell hI (j:=r) (by omega)
              refine Rt.gives_skp ?_
              apply Exists.intro
              refine ⟨by go_simp;rfl,?_⟩
              exact US.put hI (j:=r) (by omega) _
             clear hv
             simp only [Act.put,zA,zB,zC,zD,zE,zF]
             refine Rt.rs_nil (fun W hI=>?_)
             replace hI:=Lib.hid (SwI.out hI)
             have HX:=Lib.hid ((shiftD_go h1 hr HC2.out).symm.trans hT.out.2)
             clear hr
             go_wp2_with fail
             exact ⟨⟨r,_,by omega,rfl,hI.out,HX.out⟩,by simp [intOf];omega⟩
            | false=>
             have HX:=Lib.hid ((shiftD_stop hr (.inr HC2.out)).symm.trans hT.out.2)
             clear hr
             go_wp2_with fail
             go_meet
             case rel=>
              unfold Hid
              rw [fixD_yes HP.out h2,← HX.out]
              exact hI.out
           ·have hq0 : q = 0:=by omega
            subst hq0
            have HX:=Lib.hid ((shiftD_stop rfl (.inl rfl)).symm.trans hT.out.2)
            go_wp2_with fail
            go_meet
            case rel=>
             unfold Hid
             rw [fixD_yes HP.out h2,← HX.out]
             exact hT.out.1
         ·have h2i : ¬ ((2 : Int) ≤ (k : Int) - (a : Int)):=by omega
          go_wp2_with fail
          go_meet
          case rel=>
           unfold Hid
           rw [fixD_no h2]
           exact HD.out
        case rest=>
         obtain ⟨d4,hd4⟩ : ∃ d4,Sort.fixDown ltN a k d2 = d4:=⟨_,rfl⟩
         rw [hd4] at hcut
         have HD4:=Lib.hid hd4
         have HD3:=Lib.hid hcut.out
         clear hd4 hcut HD
         by_cases h2 : 2 ≤ b - k
         ·have h2i : (2 : Int) ≤ (b : Int) - (k : Int):=by omega
          go_wp2_with fail
          go_loopw [10] (fun u wr=>∃ (q : Nat) (d3 : Array Nat),k + 1 ≤ q ∧ q ≤ b ∧ u = .int .i64 (q : Int) ∧ Hid (US w0 g n rest d3 wr ∧ Sort.shiftUp ltN b q d3 = Sort.shiftUp ltN b (k + 1) d4)) (fun u _=>b - (intOf u).toNat)
          case atStart=>exact ⟨k + 1,d4,Nat.le_refl _,by omega,rfl,HD3.out,rfl⟩
          case round=>
           obtain ⟨q,d3,hq,hqb,rfl,hT⟩:=hrel
           by_cases h1 : q < b
           ·
            obtain ⟨r,hr⟩ : ∃ r : Nat,q - 1 = r:=⟨_,rfl⟩
            have er : (q : Int) - 1 = (r : Int):=by omega
            have vr:=wrapN (k:=r) (by omega)
            have ltr : r < n:=by omega
            have ltq : q < n:=by omega
            obtain ⟨c,hc⟩ : ∃ c,ltN d3[q]! d3[r]! = c:=⟨_,rfl⟩
            have HC2:=Lib.hid hc
            clear hc
            go_upto_region 22 with fail
            refine Rt.wp_region_rt (by kernel_rfl) [0,1,2,3,4,5,6,7,8,9,10] [] [] [0,0,3,7,0,0,32,112,240,511,1023] (by kernel_rfl) (fun _ W=>US w0 g n rest d3 W) ?_ ?_
            ·exact US.drawn (hT.out.1) _
            iterate 2 (refine Rt.rs_sil rfl rfl rfl (fun K hK=>?_);go_simp;refine hK _ ?_;clear hK K)
            (refine Rt.rs_rd rfl rfl rfl ?_;apply Exists.intro;refine ⟨fun us' W hp hl hI=>?_,?_⟩;· (skip;go_simp;rfl));simp only [Act.put,zA,zB,zC,zD,zE,zF]
            (refine Rt.rs_rd rfl rfl rfl ?_;apply Exists.intro;refine ⟨fun us' W hp hl hI=>?_,?_⟩;· (have c0:=US.cell hI (j:=q) (by omega);have c1:=US.cell hI (j:=r) (by omega);go_simp;rfl));simp only [Act.put,zA,zB,zC,zD,zE,zF]
            iterate 3 (refine Rt.rs_sil rfl rfl rfl (fun K hK=>?_);go_simp;refine hK _ ?_;clear hK K)
            (refine Rt.rs_rd rfl rfl rfl ?_;apply Exists.intro;refine ⟨fun us' W hp hl hI=>?_,?_⟩;· (skip;go_simp;rfl));simp only [Act.put,zA,zB,zC,zD,zE,zF]
            (refine Rt.rs_rd rfl rfl rfl ?_;apply Exists.intro;refine ⟨fun us' W hp hl hI=>?_,?_⟩;· (have c0:=US.cell hI (j:=q) (by omega);have c1:=US.cell hI (j:=r) (by omega);go_simp;rfl));simp only [Act.put,zA,zB,zC,zD,zE,zF]
            refine Rt.rs_qt rfl rfl rfl ?_
            apply Exists.intro
            refine ⟨fun us' W hp hl hI=>?_,?_⟩
            ·refine Rt.gives_cal ?_
             apply Exists.intro
             apply Exists.intro
             apply Exists.intro
             refine ⟨by go_simp;exact ⟨⟨rfl,rfl⟩,rfl⟩,?_⟩
             refine (lessU_any W _ _).mono ?_
             rintro e w7 ⟨rfl,rfl⟩
             exact ⟨_,rfl,by rw [HC2.out],hI⟩
            simp only [Act.put,zA,zB,zC,zD,zE,zF]
            (refine Rt.rs_sil rfl rfl rfl (fun K hK=>?_);go_simp;refine hK _ ?_;clear hK K)
            refine Rt.rs_nil (fun W hI=>?_)
            replace hI:=Lib.hid hI
            cases c with
            | true=>
             go_upto_region 23 with fail
             refine Rt.wp_region_rt (by kernel_rfl) [0,1,2,3,4,5,6,7,8,9,10,11,12,13,14,15,16,17] [15,17] [0,0,1,1,1,0,0,0,0,0,0,0,0,0,0,1000,1] [0,0,0,0,8,0,0,64,224,480,0,0,3072,7168,16355,32739,65535,131071] (by kernel_rfl) (SwI w0 g n rest d3 (q) (r)) ?_ ?_
             ·exact US.drawn (hI.out) _
             iterate 8 (refine Rt.rs_sil rfl rfl rfl (fun K hK=>?_);go_simp;refine hK _ ?_;clear hK K)
             (refine Rt.rs_rd rfl rfl rfl ?_;apply Exists.intro;refine ⟨fun us' W hp hl hI=>?_,?_⟩;· (skip;go_simp;rfl));simp only [Act.put,zA,zB,zC,zD,zE,zF]
             (refine Rt.rs_rd rfl rfl rfl ?_;apply Exists.intro;refine ⟨fun us' W hp hl hI=>?_,?_⟩;· (have hl0 : us'.length ≤ 0:=hl;obtain rfl:=List.eq_nil_of_length_eq_zero (Nat.le_zero.1 hl0);have c0:=US.cell hI (j:=q) (by omega);have c1:=US.cell hI (j:=r) (by omega);go_simp;rfl));simp only [Act.put,zA,zB,zC,zD,zE,zF]
             iterate 2 (refine Rt.rs_sil rfl rfl rfl (fun K hK=>?_);go_simp;refine hK _ ?_;clear hK K)
             (refine Rt.rs_rd rfl rfl rfl ?_;apply Exists.intro;refine ⟨fun us' W hp hl hI=>?_,?_⟩;· (skip;go_simp;rfl));simp only [Act.put,zA,zB,zC,zD,zE,zF]
             (refine Rt.rs_rd rfl rfl rfl ?_;apply Exists.intro;refine ⟨fun us' W hp hl hI=>?_,?_⟩;· (have hl0 : us'.length ≤ 0:=hl;obtain rfl:=List.eq_nil_of_length_eq_zero (Nat.le_zero.1 hl0);have c0:=US.cell hI (j:=q) (by omega);have c1:=US.cell hI (j:=r) (by omega);go_simp;rfl));simp only [Act.put,zA,zB,zC,zD,zE,zF]
             (refine Rt.rs_rd rfl rfl rfl ?_;apply Exists.intro;refine ⟨fun us' W hp hl hI=>?_,?_⟩;· (skip;go_simp;rfl));simp only [Act.put,zA,zB,zC,zD,zE,zF]
             refine Rt.rs_eff rfl rfl rfl (fun W hI=>?_) (fun v hv=>?_)
             ·have f0:=US.froz hI (q)
              have c0:=US.cell hI (j:=q) (by omega)
              refine Rt.gives_skp ?_
              apply Exists.intro
              refine ⟨by go_simp;rfl,?_⟩
              exact US.put hI (j:=q) (by omega) _
             clear hv
             simp only [Act.put,zA,zB,zC,zD,zE,zF]
             (refine Rt.rs_rd rfl rfl rfl ?_;apply Exists.intro;refine ⟨fun us' W hp hl hI=>?_,?_⟩;· (skip;go_simp;rfl));simp only [Act.put,zA,zB,zC,zD,zE,zF]
             refine Rt.rs_eff rfl rfl rfl (fun W hI=>?_) (fun v hv=>?_)
             ·have f0:=US.froz hI (r)
              have c0:=US.cell hI (j:=r) (by omega)
              refine Rt.gives_skp ?_
              apply Exists.intro
              refine ⟨by go_simp;rfl,?_⟩
              exact US.put hI (j:=r) (by omega) _
             clear hv
             simp only [Act.put,zA,zB,zC,zD,zE,zF]
             refine Rt.rs_nil (fun W hI=>?_)
             replace hI:=Lib.hid (SwI.out hI)
             have HX:=Lib.hid ((shiftU_go h1 hr HC2.out).symm.trans hT.out.2)
             clear hr
             go_wp2_with fail
             exact ⟨⟨q + 1,_,by omega,by omega,rfl,hI.out,HX.out⟩,by simp [intOf];omega⟩
            | false=>
             have HX:=Lib.hid ((shiftU_stop hr (.inr HC2.out)).symm.trans hT.out.2)
             clear hr
             go_wp2_with fail
             refine ⟨⟨k,s + 1,_,by omega,hkb,by omega,rfl,rfl,hI.out,?_⟩,by simp [intOf];omega⟩
             rw [HF.out,if_neg HNE.out,if_neg h50,HD2.out,HD4.out,fixU_yes h2,← HX.out,show 5 - (s + 1) = 4 - s by omega]
           ·have HX:=Lib.hid ((shiftU_stop rfl (.inl h1)).symm.trans hT.out.2)
            go_wp2_with fail
            refine ⟨⟨k,s + 1,_,by omega,hkb,by omega,rfl,rfl,hT.out.1,?_⟩,by simp [intOf];omega⟩
            rw [HF.out,if_neg HNE.out,if_neg h50,HD2.out,HD4.out,fixU_yes h2,← HX.out,show 5 - (s + 1) = 4 - s by omega]
         ·have h2i : ¬ ((2 : Int) ≤ (b : Int) - (k : Int)):=by omega
          go_wp2_with fail
          refine ⟨⟨k,s + 1,_,by omega,hkb,by omega,rfl,rfl,HD3.out,?_⟩,by simp [intOf];omega⟩
          rw [HF.out,if_neg HNE.out,if_neg h50,HD2.out,HD4.out,fixU_no h2,show 5 - (s + 1) = 4 - s by omega]
  ·have hs5i : ¬ ((s : Int) < 5):=by omega
   go_wp2_with fail
   go_ret
   have hs0 : s = 5:=by omega
   subst hs0
   have hF : Sort.partialInsertionSort ltN d a b = (d1,false):=by rw [← hS.out.2];rfl
   rw [hF]
   exact ⟨rfl,hS.out.1⟩
end Go.Proofs.YtihfcjioilmmjaaGreat
