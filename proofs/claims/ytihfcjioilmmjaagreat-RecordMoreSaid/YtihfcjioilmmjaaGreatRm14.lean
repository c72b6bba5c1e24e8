/- Lemmas: sort 1. -/
import Derived.Test.YtihfcjioilmmjaaGreatRm1
import Derived.Test.YtihfcjioilmmjaaGreatRm13
set_option linter.all false
namespace Go.Proofs.YtihfcjioilmmjaaGreat
open Go Go.RowKit
open Go.Lib Go.Proofs
set_option maxHeartbeats 1000000 in
set_option maxRecDepth 100000 in
theorem nanU_any (w : World) (x : Nat) : Calls Tryz.prog 144 #[.int .u64 (x : Int)] w fun e w'=>e = .returned (.bool false) ∧ w = w':=by
 go_enter Tryz.func144,Tryz.ntmps144
 go_wp2_with fail
 go_ret
 exact ⟨rfl,rfl⟩
set_option maxHeartbeats 1000000 in
set_option maxRecDepth 100000 in
theorem lessU_any (w : World) (x y : Nat) : Calls Tryz.prog 124 #[.int .u64 (x : Int),.int .u64 (y : Int)] w fun e w'=>e = .returned (.bool (ltN x y)) ∧ w = w':=by
 go_enter Tryz.func124,Tryz.ntmps124
 go_wp2_with fail
 refine (nanU_any w x).mono ?_
 rintro e w' ⟨rfl,rfl⟩
 go_wp2_with fail
 go_ret
 exact ⟨rfl,rfl⟩
theorem insInner_stop {a j : Nat} {d : Array Nat} (h : j ≤ a ∨ ltN d[j]! d[j - 1]! = false) : Sort.insInner ltN a j d = d:=by
 cases j with
 | zero=>rfl
 | succ j=>
  unfold Sort.insInner
  rw [if_neg]
  rcases h with h | h
  ·simp;omega
  ·rw [Nat.add_sub_cancel] at h
   simp [h]
theorem insInner_go {a j : Nat} {d : Array Nat} (hj : a < j) (h : ltN d[j]! d[j - 1]! = true) : Sort.insInner ltN a j d = Sort.insInner ltN a (j - 1) (Sort.swp d j (j - 1)):=by
 cases j with
 | zero=>omega
 | succ j=>
  rw [Nat.add_sub_cancel] at *
  rw [Sort.insInner,if_pos (by simp [h];omega)]
theorem insOuter_go {a b k : Nat} {d : Array Nat} (h : k < b) : Sort.insOuter ltN a b k d = Sort.insOuter ltN a b (k + 1) (Sort.insInner ltN a k d):=by rw [Sort.insOuter,if_pos h]
theorem insOuter_stop {a b k : Nat} {d : Array Nat} (h : ¬ k < b) : Sort.insOuter ltN a b k d = d:=by rw [Sort.insOuter,if_neg h]
set_option maxHeartbeats 4000000 in
set_option maxRecDepth 100000 in
theorem insU_any {w0 w : World} {g n : Nat} {rest : Array Value} {d : Array Nat} (h : US w0 g n rest d w) (cap a b : Nat) (hab : a ≤ b) (hb : b ≤ n) (hn : n ≤ 1000000) :
  Calls Tryz.prog 118 #[.slice (some ⟨g,0,none⟩) n cap,.int .i64 (a : Int),.int .i64 (b : Int)] w fun e w'=>e = .returned (.tuple #[]) ∧ US w0 g n rest (Sort.insertionSort ltN d a b) w':=by
 have H:=Lib.hid h
 clear h
 go_enter Tryz.func118,Tryz.ntmps118
 go_wp2_with fail
 go_loopw [6] (fun i wr=>∃ (k : Nat) (d1 : Array Nat),a + 1 ≤ k ∧ (k ≤ b ∨ k = a + 1) ∧ i = .int .i64 k ∧ Hid (US w0 g n rest d1 wr ∧ Sort.insOuter ltN a b k d1 = Sort.insertionSort ltN d a b)) (fun i _=>b - (intOf i).toNat)
 case atStart=>exact ⟨a + 1,d,Nat.le_refl _,.inr rfl,rfl,H.out,rfl⟩
 case round=>
  obtain ⟨k,d1,hk,hkb,rfl,hS⟩:=hrel
  by_cases hlt : k < b
  ·go_wp2_with fail
   go_loopw [7] (fun j wr=>∃ (q : Nat) (d2 : Array Nat),a ≤ q ∧ q ≤ k ∧ j = .int .i64 q ∧ Hid (US w0 g n rest d2 wr ∧ Sort.insInner ltN a q d2 = Sort.insInner ltN a k d1)) (fun j _=>(intOf j).toNat)
   case atStart=>exact ⟨k,d1,by omega,Nat.le_refl _,rfl,hS.out.1,rfl⟩
   case round=>
    obtain ⟨q,d2,hq,hqk,rfl,hT⟩:=hrel
    by_cases hqa : a < q
    ·have c0:=hT.out.1.cell (j:=q) (by omega)
     have c1:=hT.out.1.cell (j:=q - 1) (by omega)
     have f0:=hT.out.1.froz q
     have f1:=hT.out.1.froz (q - 1)
     have e1 : (q : Int) - 1 = ((q - 1 : Nat) : Int):=by omega
     have b1 : q < n:=by omega
     have b2 : q - 1 < n:=by omega
     have v2:=wrapN (k:=q - 1) (by omega)
     obtain ⟨c,hc⟩ : ∃ c,ltN d2[q]! d2[q - 1]! = c:=⟨_,rfl⟩
     have HC:=Lib.hid hc
     clear hc c0 c1 f0 f1
     cases c with
     | true=>
      go_upto_region 4 with fail
      refine Rt.wp_region_rt (by kernel_rfl) [0,1,2,3,4,5,6,7,8,9,10,11,12,13,14] [] [] [0,0,3,7,15,15,63,127,15,15,527,1807,3855,8191,16383] (by kernel_rfl) (fun _ W=>US w0 g n rest d2 W) ?_ ?_
      ·exact US.drawn (hT.out.1) _
      iterate 6 (refine Rt.rs_sil rfl rfl rfl (fun K hK=>?_);go_simp;refine hK _ ?_;clear hK K)
      (refine Rt.rs_rd rfl rfl rfl ?_;apply Exists.intro;refine ⟨fun us' W hp hl hI=>?_,?_⟩;· (skip;go_simp;rfl));simp only [Act.put,zA,zB,zC,zD,zE,zF]
      (refine Rt.rs_rd rfl rfl rfl ?_;apply Exists.intro;refine ⟨fun us' W hp hl hI=>?_,?_⟩;· (have c0:=US.cell hI (j:=q) (by omega);have c1:=US.cell hI (j:=q - 1) (by omega);go_simp;rfl));simp only [Act.put,zA,zB,zC,zD,zE,zF]
      iterate 3 (refine Rt.rs_sil rfl rfl rfl (fun K hK=>?_);go_simp;refine hK _ ?_;clear hK K)
      (refine Rt.rs_rd rfl rfl rfl ?_;apply Exists.intro;refine ⟨fun us' W hp hl hI=>?_,?_⟩;· (skip;go_simp;rfl));simp only [Act.put,zA,zB,zC,zD,zE,zF]
      (refine Rt.rs_rd rfl rfl rfl ?_;apply Exists.intro;refine ⟨fun us' W hp hl hI=>?_,?_⟩;· (have c0:=US.cell hI (j:=q) (by omega);have c1:=US.cell hI (j:=q - 1) (by omega);go_simp;rfl));simp only [Act.put,zA,zB,zC,zD,zE,zF]
      refine Rt.rs_qt rfl rfl rfl ?_
      apply Exists.intro
      refine ⟨fun us' W hp hl hI=>?_,?_⟩
      ·refine Rt.gives_cal ?_
       apply Exists.intro
       apply Exists.intro
       apply Exists.intro
       refine ⟨by go_simp;exact ⟨⟨rfl,rfl⟩,rfl⟩,?_⟩
       refine (lessU_any W _ _).mono ?_
       rintro e w7 ⟨rfl,rfl⟩
       exact ⟨_,rfl,by rw [HC.out],hI⟩
      simp only [Act.put,zA,zB,zC,zD,zE,zF]
      (refine Rt.rs_sil rfl rfl rfl (fun K hK=>?_);go_simp;refine hK _ ?_;clear hK K)
      refine Rt.rs_nil (fun W hI=>?_)
      replace hI:=Lib.hid hI
      go_upto_region 6 with fail
      refine Rt.wp_region_rt (by kernel_rfl) [0,1,2,3,4,5,6,7,8,9,10,11,12,13,14,15,16,17] [15,17] [0,0,1,1,1,0,0,0,0,0,0,0,0,0,0,1000,1] [0,0,0,0,8,0,0,64,224,480,0,0,3072,7168,16355,32739,65535,131071] (by kernel_rfl) (SwI w0 g n rest d2 (q) (q - 1)) ?_ ?_
      ·exact US.drawn (hI.out) _
      iterate 8 (refine Rt.rs_sil rfl rfl rfl (fun K hK=>?_);go_simp;refine hK _ ?_;clear hK K)
      (refine Rt.rs_rd rfl rfl rfl ?_;apply Exists.intro;refine ⟨fun us' W hp hl hI=>?_,?_⟩;· (skip;go_simp;rfl));simp only [Act.put,zA,zB,zC,zD,zE,zF]
      (refine Rt.rs_rd rfl rfl rfl ?_;apply Exists.intro;refine ⟨fun us' W hp hl hI=>?_,?_⟩;· (have hl0 : us'.length ≤ 0:=hl;obtain rfl:=List.eq_nil_of_length_eq_zero (Nat.le_zero.1 hl0);have c0:=US.cell hI (j:=q) (by omega);have c1:=US.cell hI (j:=q - 1) (by omega);go_simp;rfl));simp only [Act.put,zA,zB,zC,zD,zE,zF]
      iterate 2 (refine Rt.rs_sil rfl rfl rfl (fun K hK=>?_);go_simp;refine hK _ ?_;clear hK K)
      (refine Rt.rs_rd rfl rfl rfl ?_;apply Exists.intro;refine ⟨fun us' W hp hl hI=>?_,?_⟩;· (skip;go_simp;rfl));simp only [Act.put,zA,zB,zC,zD,zE,zF]
      (refine Rt.rs_rd rfl rfl rfl ?_;apply Exists.intro;refine ⟨fun us' W hp hl hI=>?_,?_⟩;· (have hl0 : us'.length ≤ 0:=hl;obtain rfl:=List.eq_nil_of_length_eq_zero (Nat.le_zero.1 hl0);have c0:=US.cell hI (j:=q) (by omega);have c1:=US.cell hI (j:=q - 1) (by omega);go_simp;rfl));simp only [Act.put,zA,zB,zC,zD,zE,zF]
      (refine Rt.rs_rd rfl rfl rfl ?_;apply Exists.intro;refine ⟨fun us' W hp hl hI=>?_,?_⟩;· (skip;go_simp;rfl));simp only [Act.put,zA,zB,zC,zD,zE,zF]
      refine Rt.rs_eff rfl rfl rfl (fun W hI=>?_) (fun v hv=>?_)
      ·have f0:=US.froz hI (q)
       have c0:=US.cell hI (j:=q) (by omega)
       refine Rt.gives_skp ?_
       apply Exists.intro
       refine ⟨by go_simp;rfl,?_⟩
       exact US.put hI (j:=q) (by omega) _
      clear hv
      simp only [Act.put,zA,zB,zC,zD,zE,zF]
      (refine Rt.rs_rd rfl rfl rfl ?_;apply Exists.intro;refine ⟨fun us' W hp hl hI=>?_,?_⟩;· (skip;go_simp;rfl));simp only [Act.put,zA,zB,zC,zD,zE,zF]
      refine Rt.rs_eff rfl rfl rfl (fun W hI=>?_) (fun v hv=>?_)
      ·have f0:=US.froz hI (q - 1)
       have c0:=US.cell hI (j:=q - 1) (by omega)
       refine Rt.gives_skp ?_
       apply Exists.intro
       refine ⟨by go_simp;rfl,?_⟩
       exact US.put hI (j:=q - 1) (by omega) _
      clear hv
      simp only [Act.put,zA,zB,zC,zD,zE,zF]
      refine Rt.rs_nil (fun W hI=>?_)
      replace hI:=Lib.hid (SwI.out hI)
      go_wp2_with fail
      exact ⟨⟨q - 1,_,by omega,by omega,rfl,hI.out,(insInner_go hqa HC.out).symm.trans hT.out.2⟩,by simp [intOf];omega⟩
     | false=>
      go_upto_region 4 with fail
      refine Rt.wp_region_rt (by kernel_rfl) [0,1,2,3,4,5,6,7,8,9,10,11,12,13,14] [] [] [0,0,3,7,15,15,63,127,15,15,527,1807,3855,8191,16383] (by kernel_rfl) (fun _ W=>US w0 g n rest d2 W) ?_ ?_
      ·exact US.drawn (hT.out.1) _
      iterate 6 (refine Rt.rs_sil rfl rfl rfl (fun K hK=>?_);go_simp;refine hK _ ?_;clear hK K)
      (refine Rt.rs_rd rfl rfl rfl ?_;apply Exists.intro;refine ⟨fun us' W hp hl hI=>?_,?_⟩;· (skip;go_simp;rfl));simp only [Act.put,zA,zB,zC,zD,zE,zF]
      (refine Rt.rs_rd rfl rfl rfl ?_;apply Exists.intro;refine ⟨fun us' W hp hl hI=>?_,?_⟩;· (have c0:=US.cell hI (j:=q) (by omega);have c1:=US.cell hI (j:=q - 1) (by omega);go_simp;rfl));simp only [Act.put,zA,zB,zC,zD,zE,zF]
      iterate 3 (refine Rt.rs_sil rfl rfl rfl (fun K hK=>?_);go_simp;refine hK _ ?_;clear hK K)
      (refine Rt.rs_rd rfl rfl rfl ?_;apply Exists.intro;refine ⟨fun us' W hp hl hI=>?_,?_⟩;· (skip;go_simp;rfl));simp only [Act.put,zA,zB,zC,zD,zE,zF]
      (refine Rt.rs_rd rfl rfl rfl ?_;apply Exists.intro;refine ⟨fun us' W hp hl hI=>?_,?_⟩;· (have c0:=US.cell hI (j:=q) (by omega);have c1:=US.cell hI (j:=q - 1) (by omega);go_simp;rfl));simp only [Act.put,zA,zB,zC,zD,zE,zF]
      refine Rt.rs_qt rfl rfl rfl ?_
      apply Exists.intro
      refine ⟨fun us' W hp hl hI=>?_,?_⟩
      ·refine Rt.gives_cal ?_
       apply Exists.intro
       apply Exists.intro
       apply Exists.intro
       refine ⟨by go_simp;exact ⟨⟨rfl,rfl⟩,rfl⟩,?_⟩
       refine (lessU_any W _ _).mono ?_
       rintro e w7 ⟨rfl,rfl⟩
       exact ⟨_,rfl,by rw [HC.out],hI⟩
      simp only [Act.put,zA,zB,zC,zD,zE,zF]
      (refine Rt.rs_sil rfl rfl rfl (fun K hK=>?_);go_simp;refine hK _ ?_;clear hK K)
      refine Rt.rs_nil (fun W hI=>?_)
      replace hI:=Lib.hid hI
      go_wp2_with fail
      refine ⟨⟨k + 1,d2,by omega,by omega,rfl,hI.out,?_⟩,by simp [intOf];omega⟩
      rw [← hS.out.2,insOuter_go hlt,← hT.out.2,insInner_stop (.inr HC.out)]
    ·go_upto_region 4 with fail
     refine Rt.wp_region_rt (by kernel_rfl) [0,1,2,3,4,5,6,7,8,9,10,11,12,13,14] [] [] [0,0,3,7,15,15,63,127,15,15,527,1807,3855,8191,16383] (by kernel_rfl) (fun _ W=>US w0 g n rest d2 W) ?_ ?_
     ·exact US.drawn (hT.out.1) _
     iterate 4 (refine Rt.rs_sil rfl rfl rfl (fun K hK=>?_);go_simp;refine hK _ ?_;clear hK K)
     iterate 10 ((refine Rt.rs_skip rfl rfl rfl ?_;simp only [Act.put,zA,zB,zC,zD,zE,zF]))
     (refine Rt.rs_sil rfl rfl rfl (fun K hK=>?_);go_simp;refine hK _ ?_;clear hK K)
     refine Rt.rs_nil (fun W hI=>?_)
     replace hI:=Lib.hid hI
     go_wp2_with fail
     refine ⟨⟨k + 1,d2,by omega,by omega,rfl,hI.out,?_⟩,by simp [intOf];omega⟩
     rw [← hS.out.2,insOuter_go hlt,← hT.out.2,insInner_stop (.inl (by omega))]
  ·go_wp2_with fail
   go_end0
   refine ⟨rfl,?_⟩
   rw [← hS.out.2,insOuter_stop hlt]
   exact hS.out.1
end Go.Proofs.YtihfcjioilmmjaaGreat
namespace Go.Proofs.YtihfcjioilmmjaaGreat
open Go Go.RowKit
open Go.Lib Go.Proofs
theorem siftDown_def (hi first root : Nat) (d : Array Nat) : Sort.siftDown ltN hi first root d =
  if 2 * root + 1 ≥ hi then d else
  if 2 * root + 1 + 1 < hi && ltN d[first + (2 * root + 1)]! d[first + (2 * root + 1) + 1]! then
   if !ltN d[first + root]! d[first + (2 * root + 2)]! then d else
    if 2 * root + 2 < hi then Sort.siftDown ltN hi first (2 * root + 2) (Sort.swp d (first + root) (first + (2 * root + 2))) else d
  else
   if !ltN d[first + root]! d[first + (2 * root + 1)]! then d else Sort.siftDown ltN hi first (2 * root + 1) (Sort.swp d (first + root) (first + (2 * root + 1))):=by
 rw [Sort.siftDown]
 split
 ·rfl
 ·split
  ·split
   ·rfl
   ·split <;> rfl
  ·rfl
theorem sift_one {hi first k c q x y : Nat} {d : Array Nat} (hc : 2 * k + 1 = c) (hq : first + k = q) (hx : first + c = x) (hy : first + (c + 1) = y) (hlt : c < hi) (h1 : ¬ (c + 1 < hi) ∨ ltN d[x]! d[y]! = false) :
  Sort.siftDown ltN hi first k d = if ltN d[q]! d[x]! = true then Sort.siftDown ltN hi first c (Sort.swp d q x) else d:=by
 subst hc hq hx hy
 rw [siftDown_def,if_neg (by omega),if_neg]
 ·cases ltN d[first + k]! d[first + (2 * k + 1)]! <;> rfl
 ·rcases h1 with h1 | h1
  ·simp only [Bool.and_eq_true,decide_eq_true_eq];omega
  ·rw [show first + (2 * k + 1) + 1 = first + (2 * k + 1 + 1) by omega,h1];simp
theorem sift_two {hi first k c c2 q x y : Nat} {d : Array Nat} (hc : 2 * k + 1 = c) (hq : first + k = q) (hx : first + c = x) (hy : first + (c + 1) = y) (hc2 : c + 1 = c2) (hlt : c2 < hi) (h1 : ltN d[x]! d[y]! = true) :
  Sort.siftDown ltN hi first k d = if ltN d[q]! d[y]! = true then Sort.siftDown ltN hi first c2 (Sort.swp d q y) else d:=by
 subst hc hq hx hy hc2
 rw [siftDown_def,if_neg (by omega),if_pos]
 ·rw [show 2 * k + 2 = 2 * k + 1 + 1 by omega]
  cases ltN d[first + k]! d[first + (2 * k + 1 + 1)]!
  ·rfl
  ·simp [hlt]
 ·rw [show first + (2 * k + 1) + 1 = first + (2 * k + 1 + 1) by omega,h1];simp;omega
set_option maxHeartbeats 4000000 in
set_option maxRecDepth 100000 in
theorem siftU_any {w0 w : World} {g n : Nat} {rest : Array Value} {d : Array Nat} (h : US w0 g n rest d w) (cap lo hi first : Nat) (hlo : lo ≤ hi) (hf : first + hi ≤ n) (hn : n ≤ 1000000) :
  Calls Tryz.prog 141 #[.slice (some ⟨g,0,none⟩) n cap,.int .i64 (lo : Int),.int .i64 (hi : Int),.int .i64 (first : Int)] w fun e w'=>e = .returned (.tuple #[]) ∧ US w0 g n rest (Sort.siftDown ltN hi first lo d) w':=by
 have H:=Lib.hid h
 clear h
 go_enter Tryz.func141,Tryz.ntmps141
 go_wp2_with fail
 go_loopw [8] (fun r wr=>∃ (k : Nat) (d1 : Array Nat),k ≤ hi ∧ r = .int .i64 k ∧ Hid (US w0 g n rest d1 wr ∧ Sort.siftDown ltN hi first k d1 = Sort.siftDown ltN hi first lo d)) (fun r _=>hi - (intOf r).toNat)
 case atStart=>exact ⟨lo,d,hlo,rfl,H.out,rfl⟩
 case round=>
  obtain ⟨k,d1,hk,rfl,hS⟩:=hrel
  by_cases hlt : 2 * k + 1 < hi
  ·go_upto_region 3 with fail
   obtain ⟨c,hc⟩ : ∃ c : Nat,2 * k + 1 = c:=⟨_,rfl⟩
   have ec : 2 * (k : Int) + 1 = (c : Int):=by omega
   have vc:=wrapN (k:=c) (by omega)
   rw [ec]
   clear ec vc
   obtain ⟨q,hq⟩ : ∃ q : Nat,first + k = q:=⟨_,rfl⟩
   have eq : (first : Int) + (k : Int) = (q : Int):=by omega
   have vq:=wrapN (k:=q) (by omega)
   have ltq : q < n:=by omega
   obtain ⟨x,hx⟩ : ∃ x : Nat,first + c = x:=⟨_,rfl⟩
   have ex : (first : Int) + (c : Int) = (x : Int):=by omega
   have vx:=wrapN (k:=x) (by omega)
   have ltx : x < n:=by omega
   have hxc:=Lib.hid hx
   have hlt3 : c < hi:=by omega
   clear hx
   obtain ⟨c1,hc1⟩ : ∃ c1,ltN d1[x]! d1[first + (c + 1)]! = c1:=⟨_,rfl⟩
   have HC1:=Lib.hid hc1
   clear hc1
   by_cases hlt2 : c + 1 < hi
   ·
    obtain ⟨y,hy⟩ : ∃ y : Nat,first + (c + 1) = y:=⟨_,rfl⟩
    have ey : (x : Int) + 1 = (y : Int):=by omega
    have vy:=wrapN (k:=y) (by omega)
    have lty : y < n:=by omega
    obtain ⟨c2,hc2⟩ : ∃ c2 : Nat,c + 1 = c2:=⟨_,rfl⟩
    have ec2 : (c : Int) + 1 = (c2 : Int):=by omega
    have vc2:=wrapN (k:=c2) (by omega)
    have hl3 : c2 < hi:=by omega
    rw [hy] at HC1
    refine Rt.wp_region_rt (by kernel_rfl) [0,1,2,3,4,5,6,7,8,9,10,11,12,13,14,15,16,17,18,19] [] [] [0,1,0,7,15,31,31,31,223,511,1023,31,31,31,12319,28703,63519,129055,262143,524287] (by kernel_rfl) (fun _ W=>US w0 g n rest d1 W) ?_ ?_
    ·exact US.drawn (hS.out.1) _
    iterate 9 (refine Rt.rs_sil rfl rfl rfl (fun K hK=>?_);go_simp;refine hK _ ?_;clear hK K)
    (refine Rt.rs_rd rfl rfl rfl ?_;apply Exists.intro;refine ⟨fun us' W hp hl hI=>?_,?_⟩;· (skip;go_simp;rfl));simp only [Act.put,zA,zB,zC,zD,zE,zF]
    (refine Rt.rs_rd rfl rfl rfl ?_;apply Exists.intro;refine ⟨fun us' W hp hl hI=>?_,?_⟩;· (have c0:=US.cell hI (j:=x) (by omega);have c1:=US.cell hI (j:=y) (by omega);go_simp;rfl));simp only [Act.put,zA,zB,zC,zD,zE,zF]
    iterate 5 (refine Rt.rs_sil rfl rfl rfl (fun K hK=>?_);go_simp;refine hK _ ?_;clear hK K)
    (refine Rt.rs_rd rfl rfl rfl ?_;apply Exists.intro;refine ⟨fun us' W hp hl hI=>?_,?_⟩;· (skip;go_simp;rfl));simp only [Act.put,zA,zB,zC,zD,zE,zF]
    (refine Rt.rs_rd rfl rfl rfl ?_;apply Exists.intro;refine ⟨fun us' W hp hl hI=>?_,?_⟩;· (have c0:=US.cell hI (j:=x) (by omega);have c1:=US.cell hI (j:=y) (by omega);go_simp;rfl));simp only [Act.put,zA,zB,zC,zD,zE,zF]
    refine Rt.rs_qt rfl rfl rfl ?_
    apply Exists.intro
    refine ⟨fun us' W hp hl hI=>?_,?_⟩
    ·refine Rt.gives_cal ?_
     apply Exists.intro
     apply Exists.intro
     apply Exists.intro
     refine ⟨by go_simp;exact ⟨⟨rfl,rfl⟩,rfl⟩,?_⟩
     refine (lessU_any W _ _).mono ?_
     rintro e w7 ⟨rfl,rfl⟩
     exact ⟨_,rfl,by rw [HC1.out],hI⟩
    simp only [Act.put,zA,zB,zC,zD,zE,zF]
    (refine Rt.rs_sil rfl rfl rfl (fun K hK=>?_);go_simp;refine hK _ ?_;clear hK K)
    refine Rt.rs_nil (fun W hI=>?_)
    replace hI:=Lib.hid hI
    cases c1 with
    | true=>
     have ey2 : (first : Int) + (c2 : Int) = (y : Int):=by omega
     go_upto_region 5 with fail
     obtain ⟨l2,hl2⟩ : ∃ l2,ltN d1[q]! d1[y]! = l2:=⟨_,rfl⟩
     have HL2:=Lib.hid hl2
     clear hl2
     refine Rt.wp_region_rt (by kernel_rfl) [0,1,2,3,4,5,6,7,8,9,10,11,12,13] [] [] [0,0,0,6,15,31,0,0,0,384,960,1984,4095,8191] (by kernel_rfl) (fun _ W=>US w0 g n rest d1 W) ?_ ?_
     ·exact US.drawn (hI.out) _
     iterate 4 (refine Rt.rs_sil rfl rfl rfl (fun K hK=>?_);go_simp;refine hK _ ?_;clear hK K)
     (refine Rt.rs_rd rfl rfl rfl ?_;apply Exists.intro;refine ⟨fun us' W hp hl hI=>?_,?_⟩;· (skip;go_simp;rfl));simp only [Act.put,zA,zB,zC,zD,zE,zF]
     (refine Rt.rs_rd rfl rfl rfl ?_;apply Exists.intro;refine ⟨fun us' W hp hl hI=>?_,?_⟩;· (have c0:=US.cell hI (j:=q) (by omega);have c1:=US.cell hI (j:=y) (by omega);go_simp;rfl));simp only [Act.put,zA,zB,zC,zD,zE,zF]
     iterate 4 (refine Rt.rs_sil rfl rfl rfl (fun K hK=>?_);go_simp;refine hK _ ?_;clear hK K)
     (refine Rt.rs_rd rfl rfl rfl ?_;apply Exists.intro;refine ⟨fun us' W hp hl hI=>?_,?_⟩;· (skip;go_simp;rfl));simp only [Act.put,zA,zB,zC,zD,zE,zF]
     (refine Rt.rs_rd rfl rfl rfl ?_;apply Exists.intro;refine ⟨fun us' W hp hl hI=>?_,?_⟩;· (have c0:=US.cell hI (j:=q) (by omega);have c1:=US.cell hI (j:=y) (by omega);go_simp;rfl));simp only [Act.put,zA,zB,zC,zD,zE,zF]
     refine Rt.rs_qt rfl rfl rfl ?_
     apply Exists.intro
     refine ⟨fun us' W hp hl hI=>?_,?_⟩
     ·refine Rt.gives_cal ?_
      apply Exists.intro
      apply Exists.intro
      apply Exists.intro
      refine ⟨by go_simp;exact ⟨⟨rfl,rfl⟩,rfl⟩,?_⟩
      refine (lessU_any W _ _).mono ?_
      rintro e w7 ⟨rfl,rfl⟩
      exact ⟨_,rfl,by rw [HL2.out],hI⟩
     simp only [Act.put,zA,zB,zC,zD,zE,zF]
     (refine Rt.rs_sil rfl rfl rfl (fun K hK=>?_);go_simp;refine hK _ ?_;clear hK K)
     refine Rt.rs_nil (fun W hI=>?_)
     replace hI:=Lib.hid hI
     cases l2 with
     | false=>
      go_wp2_with fail
      refine bodyPost_ret (v:=.tuple #[]) (by simp [results,Tryz.results141,go_sem]) rfl ?_
      refine ⟨rfl,?_⟩
      rw [← hS.out.2,sift_two hc hq hxc.out hy hc2 hl3 HC1.out,if_neg (by rw [HL2.out];simp)]
      exact hI.out
     | true=>
      go_upto_region 6 with fail
      refine Rt.wp_region_rt (by kernel_rfl) [0,1,2,3,4,5,6,7,8,9,10,11,12,13,14,15,16,17,18,19,20,21,22,23] [21,23] [0,0,0,0,1,1,1,1,0,0,0,0,0,0,0,0,0,0,0,0,0,1000,1] [0,0,0,6,0,0,0,96,0,0,0,1536,3840,7936,0,0,0,98304,245760,507904,1048335,2096911,4194303,8388607] (by kernel_rfl) (SwI w0 g n rest d1 (q) (y)) ?_ ?_
      ·exact US.drawn (hI.out) _
      iterate 12 (refine Rt.rs_sil rfl rfl rfl (fun K hK=>?_);go_simp;refine hK _ ?_;clear hK K)
      (refine Rt.rs_rd rfl rfl rfl ?_;apply Exists.intro;refine ⟨fun us' W hp hl hI=>?_,?_⟩;· (skip;go_simp;rfl));simp only [Act.put,zA,zB,zC,zD,zE,zF]
      (refine Rt.rs_rd rfl rfl rfl ?_;apply Exists.intro;refine ⟨fun us' W hp hl hI=>?_,?_⟩;· (have hl0 : us'.length ≤ 0:=hl;obtain rfl:=List.eq_nil_of_length_eq_zero (Nat.le_zero.1 hl0);have c0:=US.cell hI (j:=q) (by omega);have c1:=US.cell hI (j:=y) (by omega);go_simp;rfl));simp only [Act.put,zA,zB,zC,zD,zE,zF]
      iterate 4 (refine Rt.rs_sil rfl rfl rfl (fun K hK=>?_);go_simp;refine hK _ ?_;clear hK K)
      (refine Rt.rs_rd rfl rfl rfl ?_;apply Exists.intro;refine ⟨fun us' W hp hl hI=>?_,?_⟩;· (skip;go_simp;rfl));simp only [Act.put,zA,zB,zC,zD,zE,zF]
      (refine Rt.rs_rd rfl rfl rfl ?_;apply Exists.intro;refine ⟨fun us' W hp hl hI=>?_,?_⟩;· (have hl0 : us'.length ≤ 0:=hl;obtain rfl:=List.eq_nil_of_length_eq_zero (Nat.le_zero.1 hl0);have c0:=US.cell hI (j:=q) (by omega);have c1:=US.cell hI (j:=y) (by omega);go_simp;rfl));simp only [Act.put,zA,zB,zC,zD,zE,zF]
      (refine Rt.rs_rd rfl rfl rfl ?_;apply Exists.intro;refine ⟨fun us' W hp hl hI=>?_,?_⟩;· (skip;go_simp;rfl));simp only [Act.put,zA,zB,zC,zD,zE,zF]
      refine Rt.rs_eff rfl rfl rfl (fun W hI=>?_) (fun v hv=>?_)
      ·have f0:=US.froz hI (q)
       have c0:=US.cell hI (j:=q) (by omega)
       refine Rt.gives_skp ?_
       apply Exists.intro
       refine ⟨by go_simp;rfl,?_⟩
       exact US.put hI (j:=q) (by omega) _
      clear hv
      simp only [Act.put,zA,zB,zC,zD,zE,zF]
      (refine Rt.rs_rd rfl rfl rfl ?_;apply Exists.intro;refine ⟨fun us' W hp hl hI=>?_,?_⟩;· (skip;go_simp;rfl));simp only [Act.put,zA,zB,zC,zD,zE,zF]
      refine Rt.rs_eff rfl rfl rfl (fun W hI=>?_) (fun v hv=>?_)
      ·have f0:=US.froz hI (y)
       have c0:=US.cell hI (j:=y) (by omega)
       refine Rt.gives_skp ?_
       apply Exists.intro
       refine ⟨by go_simp;rfl,?_⟩
       exact US.put hI (j:=y) (by omega) _
      clear hv
      simp only [Act.put,zA,zB,zC,zD,zE,zF]
      refine Rt.rs_nil (fun W hI=>?_)
      replace hI:=Lib.hid (SwI.out hI)
      go_wp2_with fail
      refine ⟨⟨c2,_,by omega,rfl,hI.out,?_⟩,by simp [intOf];omega⟩
      rw [← hS.out.2,sift_two hc hq hxc.out hy hc2 hl3 HC1.out,if_pos HL2.out]
    | false=>
     go_upto_region 5 with fail
     obtain ⟨l2,hl2⟩ : ∃ l2,ltN d1[q]! d1[x]! = l2:=⟨_,rfl⟩
     have HL2:=Lib.hid hl2
     clear hl2
     refine Rt.wp_region_rt (by kernel_rfl) [0,1,2,3,4,5,6,7,8,9,10,11,12,13] [] [] [0,0,0,6,15,31,0,0,0,384,960,1984,4095,8191] (by kernel_rfl) (fun _ W=>US w0 g n rest d1 W) ?_ ?_
     ·exact US.drawn (hI.out) _
     iterate 4 (refine Rt.rs_sil rfl rfl rfl (fun K hK=>?_);go_simp;refine hK _ ?_;clear hK K)
     (refine Rt.rs_rd rfl rfl rfl ?_;apply Exists.intro;refine ⟨fun us' W hp hl hI=>?_,?_⟩;· (skip;go_simp;rfl));simp only [Act.put,zA,zB,zC,zD,zE,zF]
     (refine Rt.rs_rd rfl rfl rfl ?_;apply Exists.intro;refine ⟨fun us' W hp hl hI=>?_,?_⟩;· (have c0:=US.cell hI (j:=q) (by omega);have c1:=US.cell hI (j:=x) (by omega);go_simp;rfl));simp only [Act.put,zA,zB,zC,zD,zE,zF]
     iterate 4 (refine Rt.rs_sil rfl rfl rfl (fun K hK=>?_);go_simp;refine hK _ ?_;clear hK K)
     (refine Rt.rs_rd rfl rfl rfl ?_;apply Exists.intro;refine ⟨fun us' W hp hl hI=>?_,?_⟩;· (skip;go_simp;rfl));simp only [Act.put,zA,zB,zC,zD,zE,zF]
     (refine Rt.rs_rd rfl rfl rfl ?_;apply Exists.intro;refine ⟨fun us' W hp hl hI=>?_,?_⟩;· (have c0:=US.cell hI (j:=q) (by omega);have c1:=US.cell hI (j:=x) (by omega);go_simp;rfl));simp only [Act.put,zA,zB,zC,zD,zE,zF]
     refine Rt.rs_qt rfl rfl rfl ?_
     apply Exists.intro
     refine ⟨fun us' W hp hl hI=>?_,?_⟩
     ·refine Rt.gives_cal ?_
      apply Exists.intro
      apply Exists.intro
      apply Exists.intro
      refine ⟨by go_simp;exact ⟨⟨rfl,rfl⟩,rfl⟩,?_⟩
      refine (lessU_any W _ _).mono ?_
      rintro e w7 ⟨rfl,rfl⟩
      exact ⟨_,rfl,by rw [HL2.out],hI⟩
     simp only [Act.put,zA,zB,zC,zD,zE,zF]
     (refine Rt.rs_sil rfl rfl rfl (fun K hK=>?_);go_simp;refine hK _ ?_;clear hK K)
     refine Rt.rs_nil (fun W hI=>?_)
     replace hI:=Lib.hid hI
     cases l2 with
     | false=>
      go_wp2_with fail
      refine bodyPost_ret (v:=.tuple #[]) (by simp [results,Tryz.results141,go_sem]) rfl ?_
      refine ⟨rfl,?_⟩
      rw [← hS.out.2,sift_one hc hq hxc.out hy hlt3 (.inr HC1.out),if_neg (by rw [HL2.out];simp)]
      exact hI.out
     | true=>
      go_upto_region 6 with fail
      refine Rt.wp_region_rt (by kernel_rfl) [0,1,2,3,4,5,6,7,8,9,10,11,12,13,14,15,16,17,18,19,20,21,22,23] [21,23] [0,0,0,0,1,1,1,1,0,0,0,0,0,0,0,0,0,0,0,0,0,1000,1] [0,0,0,6,0,0,0,96,0,0,0,1536,3840,7936,0,0,0,98304,245760,507904,1048335,2096911,4194303,8388607] (by kernel_rfl) (SwI w0 g n rest d1 (q) (x)) ?_ ?_
      ·exact US.drawn (hI.out) _
      iterate 12 (refine Rt.rs_sil rfl rfl rfl (fun K hK=>?_);go_simp;refine hK _ ?_;clear hK K)
      (refine Rt.rs_rd rfl rfl rfl ?_;apply Exists.intro;refine ⟨fun us' W hp hl hI=>?_,?_⟩;· (skip;go_simp;rfl));simp only [Act.put,zA,zB,zC,zD,zE,zF]
      (refine Rt.rs_rd rfl rfl rfl ?_;apply Exists.intro;refine ⟨fun us' W hp hl hI=>?_,?_⟩;· (have hl0 : us'.length ≤ 0:=hl;obtain rfl:=List.eq_nil_of_length_eq_zero (Nat.le_zero.1 hl0);have c0:=US.cell hI (j:=q) (by omega);have c1:=US.cell hI (j:=x) (by omega);go_simp;rfl));simp only [Act.put,zA,zB,zC,zD,zE,zF]
      iterate 4 (refine Rt.rs_sil rfl rfl rfl (fun K hK=>?_);go_simp;refine hK _ ?_;clear hK K)
      (refine Rt.rs_rd rfl rfl rfl ?_;apply Exists.intro;refine ⟨fun us' W hp hl hI=>?_,?_⟩;· (skip;go_simp;rfl));simp only [Act.put,zA,zB,zC,zD,zE,zF]
      (refine Rt.rs_rd rfl rfl rfl ?_;apply Exists.intro;refine ⟨fun us' W hp hl hI=>?_,?_⟩;· (have hl0 : us'.length ≤ 0:=hl;obtain rfl:=List.eq_nil_of_length_eq_zero (Nat.le_zero.1 hl0);have c0:=US.cell hI (j:=q) (by omega);have c1:=US.cell hI (j:=x) (by omega);go_simp;rfl));simp only [Act.put,zA,zB,zC,zD,zE,zF]
      (refine Rt.rs_rd rfl rfl rfl ?_;apply Exists.intro;refine ⟨fun us' W hp hl hI=>?_,?_⟩;· (skip;go_simp;rfl));simp only [Act.put,zA,zB,zC,zD,zE,zF]
      refine Rt.rs_eff rfl rfl rfl (fun W hI=>?_) (fun v hv=>?_)
      ·have f0:=US.froz hI (q)
       have c0:=US.cell hI (j:=q) (by omega)
       refine Rt.gives_skp ?_
       apply Exists.intro
       refine ⟨by go_simp;rfl,?_⟩
       exact US.put hI (j:=q) (by omega) _
      clear hv
      simp only [Act.put,zA,zB,zC,zD,zE,zF]
      (refine Rt.rs_rd rfl rfl rfl ?_;apply Exists.intro;refine ⟨fun us' W hp hl hI=>?_,?_⟩;· (skip;go_simp;rfl));simp only [Act.put,zA,zB,zC,zD,zE,zF]
      refine Rt.rs_eff rfl rfl rfl (fun W hI=>?_) (fun v hv=>?_)
      ·have f0:=US.froz hI (x)
       have c0:=US.cell hI (j:=x) (by omega)
       refine Rt.gives_skp ?_
       apply Exists.intro
       refine ⟨by go_simp;rfl,?_⟩
       exact US.put hI (j:=x) (by omega) _
      clear hv
      simp only [Act.put,zA,zB,zC,zD,zE,zF]
      refine Rt.rs_nil (fun W hI=>?_)
      replace hI:=Lib.hid (SwI.out hI)
      go_wp2_with fail
      refine ⟨⟨c,_,by omega,rfl,hI.out,?_⟩,by simp [intOf];omega⟩
      rw [← hS.out.2,sift_one hc hq hxc.out hy hlt3 (.inr HC1.out),if_pos HL2.out]
   ·
    obtain ⟨c2,hc2⟩ : ∃ c2 : Nat,c + 1 = c2:=⟨_,rfl⟩
    have ec2 : (c : Int) + 1 = (c2 : Int):=by omega
    have vc2:=wrapN (k:=c2) (by omega)
    have hl3 : ¬ (c2 < hi):=by omega
    refine Rt.wp_region_rt (by kernel_rfl) [0,1,2,3,4,5,6,7,8,9,10,11,12,13,14,15,16,17,18,19] [] [] [0,1,0,7,15,31,31,31,223,511,1023,31,31,31,12319,28703,63519,129055,262143,524287] (by kernel_rfl) (fun _ W=>US w0 g n rest d1 W) ?_ ?_
    ·exact US.drawn (hS.out.1) _
    iterate 5 (refine Rt.rs_sil rfl rfl rfl (fun K hK=>?_);go_simp;refine hK _ ?_;clear hK K)
    iterate 14 ((refine Rt.rs_skip rfl rfl rfl ?_;simp only [Act.put,zA,zB,zC,zD,zE,zF]))
    (refine Rt.rs_sil rfl rfl rfl (fun K hK=>?_);go_simp;refine hK _ ?_;clear hK K)
    refine Rt.rs_nil (fun W hI=>?_)
    replace hI:=Lib.hid hI
    go_upto_region 5 with fail
    obtain ⟨l2,hl2⟩ : ∃ l2,ltN d1[q]! d1[x]! = l2:=⟨_,rfl⟩
    have HL2:=Lib.hid hl2
    clear hl2
    refine Rt.wp_region_rt (by kernel_rfl) [0,1,2,3,4,5,6,7,8,9,10,11,12,13] [] [] [0,0,0,6,15,31,0,0,0,384,960,1984,4095,8191] (by kernel_rfl) (fun _ W=>US w0 g n rest d1 W) ?_ ?_
    ·exact US.drawn (hI.out) _
    iterate 4 (refine Rt.rs_sil rfl rfl rfl (fun K hK=>?_);go_simp;refine hK _ ?_;clear hK K)
    (refine Rt.rs_rd rfl rfl rfl ?_;apply Exists.intro;refine ⟨fun us' W hp hl hI=>?_,?_⟩;· (skip;go_simp;rfl));simp only [Act.put,zA,zB,zC,zD,zE,zF]
    (refine Rt.rs_rd rfl rfl rfl ?_;apply Exists.intro;refine ⟨fun us' W hp hl hI=>?_,?_⟩;· (have c0:=US.cell hI (j:=q) (by omega);have c1:=US.cell hI (j:=x) (by omega);go_simp;rfl));simp only [Act.put,zA,zB,zC,zD,zE,zF]
    iterate 4 (refine Rt.rs_sil rfl rfl rfl (fun K hK=>?_);go_simp;refine hK _ ?_;clear hK K)
    (refine Rt.rs_rd rfl rfl rfl ?_;apply Exists.intro;refine ⟨fun us' W hp hl hI=>?_,?_⟩;· (skip;go_simp;rfl));simp only [Act.put,zA,zB,zC,zD,zE,zF]
    (refine Rt.rs_rd rfl rfl rfl ?_;apply Exists.intro;refine ⟨fun us' W hp hl hI=>?_,?_⟩;· (have c0:=US.cell hI (j:=q) (by omega);have c1:=US.cell hI (j:=x) (by omega);go_simp;rfl));simp only [Act.put,zA,zB,zC,zD,zE,zF]
    refine Rt.rs_qt rfl rfl rfl ?_
    apply Exists.intro
    refine ⟨fun us' W hp hl hI=>?_,?_⟩
    ·refine Rt.gives_cal ?_
     apply Exists.intro
     apply Exists.intro
     apply Exists.intro
     refine ⟨by go_simp;exact ⟨⟨rfl,rfl⟩,rfl⟩,?_⟩
     refine (lessU_any W _ _).mono ?_
     rintro e w7 ⟨rfl,rfl⟩
     exact ⟨_,rfl,by rw [HL2.out],hI⟩
    simp only [Act.put,zA,zB,zC,zD,zE,zF]
    (refine Rt.rs_sil rfl rfl rfl (fun K hK=>?_);go_simp;refine hK _ ?_;clear hK K)
    refine Rt.rs_nil (fun W hI=>?_)
    replace hI:=Lib.hid hI
    cases l2 with
    | false=>
     go_wp2_with fail
     refine bodyPost_ret (v:=.tuple #[]) (by simp [results,Tryz.results141,go_sem]) rfl ?_
     refine ⟨rfl,?_⟩
     rw [← hS.out.2,sift_one hc hq hxc.out rfl hlt3 (.inl (by omega)),if_neg (by rw [HL2.out];simp)]
     exact hI.out
    | true=>
     go_upto_region 6 with fail
     refine Rt.wp_region_rt (by kernel_rfl) [0,1,2,3,4,5,6,7,8,9,10,11,12,13,14,15,16,17,18,19,20,21,22,23] [21,23] [0,0,0,0,1,1,1,1,0,0,0,0,0,0,0,0,0,0,0,0,0,1000,1] [0,0,0,6,0,0,0,96,0,0,0,1536,3840,7936,0,0,0,98304,245760,507904,1048335,2096911,4194303,8388607] (by kernel_rfl) (SwI w0 g n rest d1 (q) (x)) ?_ ?_
     ·exact US.drawn (hI.out) _
     iterate 12 (refine Rt.rs_sil rfl rfl rfl (fun K hK=>?_);go_simp;refine hK _ ?_;clear hK K)
     (refine Rt.rs_rd rfl rfl rfl ?_;apply Exists.intro;refine ⟨fun us' W hp hl hI=>?_,?_⟩;· (skip;go_simp;rfl));simp only [Act.put,zA,zB,zC,zD,zE,zF]
     (refine Rt.rs_rd rfl rfl rfl ?_;apply Exists.intro;refine ⟨fun us' W hp hl hI=>?_,?_⟩;· (have hl0 : us'.length ≤ 0:=hl;obtain rfl:=List.eq_nil_of_length_eq_zero (Nat.le_zero.1 hl0);have c0:=US.cell hI (j:=q) (by omega);have c1:=US.cell hI (j:=x) (by omega);go_simp;rfl));simp only [Act.put,zA,zB,zC,zD,zE,zF]
     iterate 4 (refine Rt.rs_sil rfl rfl rfl (fun K hK=>?_);go_simp;refine hK _ ?_;clear hK K)
     (refine Rt.rs_rd rfl rfl rfl ?_;apply Exists.intro;refine ⟨fun us' W hp hl hI=>?_,?_⟩;· (skip;go_simp;rfl));simp only [Act.put,zA,zB,zC,zD,zE,zF]
     (refine Rt.rs_rd rfl rfl rfl ?_;apply Exists.intro;refine ⟨fun us' W hp hl hI=>?_,?_⟩;· (have hl0 : us'.length ≤ 0:=hl;obtain rfl:=List.eq_nil_of_length_eq_zero (Nat.le_zero.1 hl0);have c0:=US.cell hI (j:=q) (by omega);have c1:=US.cell hI (j:=x) (by omega);go_simp;rfl));simp only [Act.put,zA,zB,zC,zD,zE,zF]
     (refine Rt.rs_rd rfl rfl rfl ?_;apply Exists.intro;refine ⟨fun us' W hp hl hI=>?_,?_⟩;· (skip;go_simp;rfl));simp only [Act.put,zA,zB,zC,zD,zE,zF]
     refine Rt.rs_eff rfl rfl rfl (fun W hI=>?_) (fun v hv=>?_)
     ·have f0:=US.froz hI (q)
      have c0:=US.cell hI (j:=q) (by omega)
      refine Rt.gives_skp ?_
      apply Exists.intro
      refine ⟨by go_simp;rfl,?_⟩
      exact US.put hI (j:=q) (by omega) _
     clear hv
     simp only [Act.put,zA,zB,zC,zD,zE,zF]
     (refine Rt.rs_rd rfl rfl rfl ?_;apply Exists.intro;refine ⟨fun us' W hp hl hI=>?_,?_⟩;· (skip;go_simp;rfl));simp only [Act.put,zA,zB,zC,zD,zE,zF]
     refine Rt.rs_eff rfl rfl rfl (fun W hI=>?_) (fun v hv=>?_)
     ·have f0:=US.froz hI (x)
      have c0:=US.cell hI (j:=x) (by omega)
      refine Rt.gives_skp ?_
      apply Exists.intro
      refine ⟨by go_simp;rfl,?_⟩
      exact US.put hI (j:=x) (by omega) _
     clear hv
     simp only [Act.put,zA,zB,zC,zD,zE,zF]
     refine Rt.rs_nil (fun W hI=>?_)
     replace hI:=Lib.hid (SwI.out hI)
     go_wp2_with fail
     refine ⟨⟨c,_,by omega,rfl,hI.out,?_⟩,by simp [intOf];omega⟩
     rw [← hS.out.2,sift_one hc hq hxc.out rfl hlt3 (.inl (by omega)),if_pos HL2.out]
  ·go_wp2_with fail
   go_end0
   refine ⟨rfl,?_⟩
   rw [← hS.out.2,siftDown_def,if_pos (by omega)]
   exact hS.out.1
end Go.Proofs.YtihfcjioilmmjaaGreat
namespace Go.Proofs.YtihfcjioilmmjaaGreat
open Go Go.RowKit
open Go.Lib Go.Proofs
set_option maxHeartbeats 4000000 in
set_option maxRecDepth 100000 in
theorem heapU_any {w0 w : World} {g n : Nat} {rest : Array Value} {d : Array Nat} (h : US w0 g n rest d w) (cap a b : Nat) (hab : a < b) (hb : b ≤ n) (hn : n ≤ 1000000) :
  Calls Tryz.prog 119 #[.slice (some ⟨g,0,none⟩) n cap,.int .i64 (a : Int),.int .i64 (b : Int)] w fun e w'=>e = .returned (.tuple #[]) ∧ US w0 g n rest (Sort.heapSort ltN d a b) w':=by
 have H:=Lib.hid h
 clear h
 obtain ⟨m,hm⟩ : ∃ m,m + a = b:=⟨b - a,by omega⟩
 have HD : Hid (Sort.heapSort ltN d a b = Sort.heapPop ltN a m (Sort.heapBuild ltN m a ((m - 1) / 2 + 1) d)):=by
  unfold Sort.heapSort;rw [show b - a = m by omega];rfl
 have em : (b : Int) - (a : Int) = (m : Int):=by omega
 go_enter Tryz.func119,Tryz.ntmps119
 go_wp2_with fail
 go_loopw [9] (fun i wr=>∃ (k : Nat) (d1 : Array Nat),k ≤ m ∧ i = .int .i64 ((k : Int) - 1) ∧ Hid (US w0 g n rest d1 wr ∧ Sort.heapBuild ltN m a k d1 = Sort.heapBuild ltN m a ((m - 1) / 2 + 1) d)) (fun i _=>(intOf i + 1).toNat)
 case atStart=>
  exact ⟨(m - 1) / 2 + 1,d,by omega,by congr 1;omega,H.out,rfl⟩
 case round=>
  obtain ⟨k,d1,hk,rfl,hS⟩:=hrel
  cases k with
  | succ k=>
   rw [show ((k + 1 : Nat) : Int) - 1 = (k : Int) by omega]
   go_wp2_with fail
   refine (siftU_any hS.out.1 cap k m a (by omega) (by omega) hn).mono ?_
   rintro e w2 ⟨rfl,hU⟩
   have HU:=Lib.hid hU
   clear hU
   go_wp2_with fail
   exact ⟨⟨k,_,by omega,rfl,HU.out,hS.out.2⟩,by simp [intOf]⟩
  | zero=>
   rw [show ((0 : Nat) : Int) - 1 = (-1 : Int) from rfl]
   go_wp2_with fail
   go_loopw [10] (fun i wr=>∃ (k : Nat) (d1 : Array Nat),k ≤ m ∧ i = .int .i64 ((k : Int) - 1) ∧ Hid (US w0 g n rest d1 wr ∧ Sort.heapPop ltN a k d1 = Sort.heapSort ltN d a b)) (fun i _=>(intOf i + 1).toNat)
   case atStart=>
    exact ⟨m,d1,Nat.le_refl _,rfl,hS.out.1,by rw [HD.out,← hS.out.2];rfl⟩
   case round=>
    obtain ⟨k,d1,hk,rfl,hS⟩:=hrel
    cases k with
    | zero=>
     rw [show ((0 : Nat) : Int) - 1 = (-1 : Int) from rfl]
     go_wp2_with fail
     go_end0
     exact ⟨rfl,by rw [← hS.out.2];exact hS.out.1⟩
    | succ k=>
     rw [show ((k + 1 : Nat) : Int) - 1 = (k : Int) by omega]
     go_upto_region 10 with fail
     have han : a < n:=by omega
     obtain ⟨x,hx⟩ : ∃ x : Nat,a + k = x:=⟨_,rfl⟩
     have ex : (a : Int) + (k : Int) = (x : Int):=by omega
     have vx:=wrapN (k:=x) (by omega)
     have ltx : x < n:=by omega
     refine Rt.wp_region_rt (by kernel_rfl) [0,1,2,3,4,5,6,7,8,9,10,11,12,13,14,15,16,17,18,19] [17,19] [0,0,1,1,1,1,0,0,0,0,0,0,0,0,0,0,0,1000,1] [0,0,0,0,0,24,0,0,0,384,960,1984,0,0,12288,28672,65475,131011,262143,524287] (by kernel_rfl) (SwI w0 g n rest d1 (a) (x)) ?_ ?_
     ·exact US.drawn (hS.out.1) _
     iterate 10 (refine Rt.rs_sil rfl rfl rfl (fun K hK=>?_);go_simp;refine hK _ ?_;clear hK K)
     (refine Rt.rs_rd rfl rfl rfl ?_;apply Exists.intro;refine ⟨fun us' W hp hl hI=>?_,?_⟩;· (skip;go_simp;rfl));simp only [Act.put,zA,zB,zC,zD,zE,zF]
     (refine Rt.rs_rd rfl rfl rfl ?_;apply Exists.intro;refine ⟨fun us' W hp hl hI=>?_,?_⟩;· (have hl0 : us'.length ≤ 0:=hl;obtain rfl:=List.eq_nil_of_length_eq_zero (Nat.le_zero.1 hl0);have c0:=US.cell hI (j:=a) (by omega);have c1:=US.cell hI (j:=x) (by omega);go_simp;rfl));simp only [Act.put,zA,zB,zC,zD,zE,zF]
     iterate 2 (refine Rt.rs_sil rfl rfl rfl (fun K hK=>?_);go_simp;refine hK _ ?_;clear hK K)
     (refine Rt.rs_rd rfl rfl rfl ?_;apply Exists.intro;refine ⟨fun us' W hp hl hI=>?_,?_⟩;· (skip;go_simp;rfl));simp only [Act.put,zA,zB,zC,zD,zE,zF]
     (refine Rt.rs_rd rfl rfl rfl ?_;apply Exists.intro;refine ⟨fun us' W hp hl hI=>?_,?_⟩;· (have hl0 : us'.length ≤ 0:=hl;obtain rfl:=List.eq_nil_of_length_eq_zero (Nat.le_zero.1 hl0);have c0:=US.cell hI (j:=a) (by omega);have c1:=US.cell hI (j:=x) (by omega);go_simp;rfl));simp only [Act.put,zA,zB,zC,zD,zE,zF]
     (refine Rt.rs_rd rfl rfl rfl ?_;apply Exists.intro;refine ⟨fun us' W hp hl hI=>?_,?_⟩;· (skip;go_simp;rfl));simp only [Act.put,zA,zB,zC,zD,zE,zF]
     refine Rt.rs_eff rfl rfl rfl (fun W hI=>?_) (fun v hv=>?_)
     ·have f0:=US.froz hI (a)
      have c0:=US.cell hI (j:=a) (by omega)
      refine Rt.gives_skp ?_
      apply Exists.intro
      refine ⟨by go_simp;rfl,?_⟩
      exact US.put hI (j:=a) (by omega) _
     clear hv
     simp only [Act.put,zA,zB,zC,zD,zE,zF]
     (refine Rt.rs_rd rfl rfl rfl ?_;apply Exists.intro;refine ⟨fun us' W hp hl hI=>?_,?_⟩;· (skip;go_simp;rfl));simp only [Act.put,zA,zB,zC,zD,zE,zF]
     refine Rt.rs_eff rfl rfl rfl (fun W hI=>?_) (fun v hv=>?_)
     ·have f0:=US.froz hI (x)
      have c0:=US.cell hI (j:=x) (by omega)
      refine Rt.gives_skp ?_
      apply Exists.intro
      refine ⟨by go_simp;rfl,?_⟩
      exact US.put hI (j:=x) (by omega) _
     clear hv
     simp only [Act.put,zA,zB,zC,zD,zE,zF]
     refine Rt.rs_nil (fun W hI=>?_)
     replace hI:=Lib.hid (SwI.out hI)
     go_wp2_with fail
     refine (siftU_any hI.out cap 0 k a (Nat.zero_le _) (by omega) hn).mono ?_
     rintro e w2 ⟨rfl,hU⟩
     have HU:=Lib.hid hU
     clear hU
     go_wp2_with fail
     refine ⟨⟨k,_,by omega,rfl,HU.out,?_⟩,by simp [intOf]⟩
     rw [← hS.out.2,← hx]
     rfl
set_option maxHeartbeats 4000000 in
set_option maxRecDepth 100000 in
theorem revU_any {w0 w : World} {g n : Nat} {rest : Array Value} {d : Array Nat} (h : US w0 g n rest d w) (cap a b : Nat) (hab : a < b) (hb : b ≤ n) (hn : n ≤ 1000000) :
  Calls Tryz.prog 122 #[.slice (some ⟨g,0,none⟩) n cap,.int .i64 (a : Int),.int .i64 (b : Int)] w fun e w'=>e = .returned (.tuple #[]) ∧ US w0 g n rest (Sort.reverseRange d a b) w':=by
 have H:=Lib.hid h
 clear h
 go_enter Tryz.func122,Tryz.ntmps122
 go_wp2_with fail
 go_loopw [6,7] (fun i j wr=>∃ (p q : Nat) (d1 : Array Nat),p ≤ b ∧ q < b ∧ i = .int .i64 (p : Int) ∧ j = .int .i64 (q : Int) ∧ Hid (US w0 g n rest d1 wr ∧ Sort.reverseLoop p q d1 = Sort.reverseRange d a b)) (fun i _ _=>b - (intOf i).toNat)
 case atStart=>exact ⟨a,b - 1,d,by omega,by omega,rfl,by congr 1;omega,H.out,rfl⟩
 case round=>
  obtain ⟨p,q,d1,hp,hq,rfl,rfl,hS⟩:=hrel
  by_cases hlt : p < q
  ·have l1 : p < n:=by omega
   have l2 : q < n:=by omega
   go_upto_region 3 with fail
   refine Rt.wp_region_rt (by kernel_rfl) [0,1,2,3,4,5,6,7,8,9,10,11,12,13,14,15] [13,15] [0,0,1,1,0,0,0,0,0,0,0,0,0,1000,1] [0,0,0,0,0,0,48,112,0,0,768,1792,4083,8179,16383,32767] (by kernel_rfl) (SwI w0 g n rest d1 (p) (q)) ?_ ?_
   ·exact US.drawn (hS.out.1) _
   iterate 6 (refine Rt.rs_sil rfl rfl rfl (fun K hK=>?_);go_simp;refine hK _ ?_;clear hK K)
   (refine Rt.rs_rd rfl rfl rfl ?_;apply Exists.intro;refine ⟨fun us' W hp hl hI=>?_,?_⟩;· (skip;go_simp;rfl));simp only [Act.put,zA,zB,zC,zD,zE,zF]
   (refine Rt.rs_rd rfl rfl rfl ?_;apply Exists.intro;refine ⟨fun us' W hp hl hI=>?_,?_⟩;· (have hl0 : us'.length ≤ 0:=hl;obtain rfl:=List.eq_nil_of_length_eq_zero (Nat.le_zero.1 hl0);have c0:=US.cell hI (j:=p) (by omega);have c1:=US.cell hI (j:=q) (by omega);go_simp;rfl));simp only [Act.put,zA,zB,zC,zD,zE,zF]
   iterate 2 (refine Rt.rs_sil rfl rfl rfl (fun K hK=>?_);go_simp;refine hK _ ?_;clear hK K)
   (refine Rt.rs_rd rfl rfl rfl ?_;apply Exists.intro;refine ⟨fun us' W hp hl hI=>?_,?_⟩;· (skip;go_simp;rfl));simp only [Act.put,zA,zB,zC,zD,zE,zF]
   (refine Rt.rs_rd rfl rfl rfl ?_;apply Exists.intro;refine ⟨fun us' W hp hl hI=>?_,?_⟩;· (have hl0 : us'.length ≤ 0:=hl;obtain rfl:=List.eq_nil_of_length_eq_zero (Nat.le_zero.1 hl0);have c0:=US.cell hI (j:=p) (by omega);have c1:=US.cell hI (j:=q) (by omega);go_simp;rfl));simp only [Act.put,zA,zB,zC,zD,zE,zF]
   (refine Rt.rs_rd rfl rfl rfl ?_;apply Exists.intro;refine ⟨fun us' W hp hl hI=>?_,?_⟩;· (skip;go_simp;rfl));simp only [Act.put,zA,zB,zC,zD,zE,zF]
   refine Rt.rs_eff rfl rfl rfl (fun W hI=>?_) (fun v hv=>?_)
   ·have f0:=US.froz hI (p)
    have c0:=US.cell hI (j:=p) (by omega)
    refine Rt.gives_skp ?_
    apply Exists.intro
    refine ⟨by go_simp;rfl,?_⟩
    exact US.put hI (j:=p) (by omega) _
   clear hv
   simp only [Act.put,zA,zB,zC,zD,zE,zF]
   (refine Rt.rs_rd rfl rfl rfl ?_;apply Exists.intro;refine ⟨fun us' W hp hl hI=>?_,?_⟩;· (skip;go_simp;rfl));simp only [Act.put,zA,zB,zC,zD,zE,zF]
   refine Rt.rs_eff rfl rfl rfl (fun W hI=>?_) (fun v hv=>?_)
   ·have f0:=US.froz hI (q)
    have c0:=US.cell hI (j:=q) (by omega)
    refine Rt.gives_skp ?_
    apply Exists.intro
    refine ⟨by go_simp;rfl,?_⟩
    exact US.put hI (j:=q) (by omega) _
   clear hv
   simp only [Act.put,zA,zB,zC,zD,zE,zF]
   refine Rt.rs_nil (fun W hI=>?_)
   replace hI:=Lib.hid (SwI.out hI)
   go_wp2_with fail
   refine ⟨⟨p + 1,q - 1,_,by omega,by omega,rfl,by congr 1;omega,hI.out,?_⟩,by simp [intOf];omega⟩
   rw [← hS.out.2]
   conv=>rhs;rw [Sort.reverseLoop,if_pos hlt]
  ·go_wp2_with fail
   go_end0
   refine ⟨rfl,?_⟩
   rw [← hS.out.2,Sort.reverseLoop,if_neg hlt]
   exact hS.out.1
end Go.Proofs.YtihfcjioilmmjaaGreat
