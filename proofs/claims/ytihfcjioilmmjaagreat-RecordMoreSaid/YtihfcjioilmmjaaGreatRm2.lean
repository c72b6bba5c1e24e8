/- Lemmas: read. -/
import Derived.Test.YtihfcjioilmmjaaGreatRm1
set_option linter.all false
namespace Go.Proofs.YtihfcjioilmmjaaGreat
open Go Go.RowKit
def BoxI (w : World) (n : Nat) (r : St) (us : List Value) (W : World) : Prop:=
 Below w.heap.size w W ∧ ∃ x y z,W.heap[n]? = some (.cells #[x,y,z] 120 (0,0)) ∧ (us ≠ [] → #[x,y,z] = stCells r)
def placeFrom : List ByteArray → ByteArray → Nat → Option Nat
 | [],_,_=>none
 | x :: r,v,i=>if x = v then some i else placeFrom r v (i + 1)
def place (l : List ByteArray) (v : ByteArray) : Option Nat:=placeFrom l v 0
theorem look_zip : ∀ (l : List ByteArray) (v : ByteArray) (i : Nat),look ((l.zipIdx i).map fun x=>(x.1,Value.int .i64 (x.2 : Int))) v = (placeFrom l v i).map fun n=>Value.int .i64 (n : Int)
 | [],_,_=>rfl
 | x :: r,v,i=>by
  simp only [List.zipIdx_cons,List.map_cons,look,placeFrom]
  split
  ·rfl
  ·exact look_zip r v (i + 1)
theorem placeFrom_lt : ∀ (l : List ByteArray) (v : ByteArray) (i n : Nat),placeFrom l v i = some n → i ≤ n ∧ n < i + l.length ∧ l[n - i]? = some v
 | [],_,_,_,h=>by simp [placeFrom] at h
 | x :: r,v,i,n,h=>by
  unfold placeFrom at h
  split at h
  ·rename_i hx
   obtain rfl:=Option.some.inj h
   simp [hx]
  ·obtain ⟨h1,h2,h3⟩:=placeFrom_lt r v (i + 1) n h
   refine ⟨by omega,by simp;omega,?_⟩
   have : n - i = (n - (i + 1)) + 1:=by omega
   rw [this,List.getElem?_cons_succ];exact h3
def readLoop (av : List ByteArray) : List ByteArray → Nat → Int → Option Nat
 | [],b,_=>some b
 | v :: r,b,last=>match place av v with
  | none=>none
  | some i=>if (i : Int) ≤ last then none else readLoop av r (b ||| 2 ^ i) i
def readF (a : Attr) (values : List ByteArray) (lo hi : Int) : St × Bool:=
 if a.values = [] then (⟨0,lo,hi⟩,decide (values = []) && (decide (a.low ≤ lo) && (decide (lo ≤ hi) && decide (hi ≤ a.high))))
 else match readLoop a.values values 0 (-1) with
  | none=>(⟨0,0,0⟩,false)
  | some b=>(⟨b,0,0⟩,decide (values ≠ []) && (decide (lo = 0) && decide (hi = 0)))
def stTuple (x : St × Bool) : Value:=.tuple #[x.1.val,.bool x.2]
set_option maxHeartbeats 4000000 in
set_option maxRecDepth 100000 in
theorem read_count (cb : Nat) (a : Attr) (w : World) (hcol : ColAt w cb a) (hv : a.values = []) (va : Option Addr) (values : List ByteArray) (cap : Nat) (lo hi : Int) (hlen : values.length ≤ maxLen) :
  Calls Tryz.prog 59 #[encP cb,.slice va values.length cap,.int .i64 lo,.int .i64 hi] w fun e w'=>e = .returned (stTuple (readF a values lo hi)) ∧ Ext w w':=by
 have hcv : decide (a.values ≠ []) = false:=by simp [hv]
 have hfin : readF a values lo hi = (⟨0,lo,hi⟩,decide (values = []) && (decide (a.low ≤ lo) && (decide (lo ≤ hi) && decide (hi ≤ a.high)))):=by unfold readF;rw [if_pos hv]
 rw [hfin]
 clear hfin
 obtain ⟨alo,ahi,hclo,hchi⟩ : ∃ alo ahi,alo = a.low ∧ ahi = a.high:=⟨_,_,rfl,rfl⟩
 rw [← hclo,← hchi]
 have hcells : ∀ W,Ext w W → W.cell? ⟨cb,2,none⟩ = some (.int .i64 alo) ∧ W.cell? ⟨cb,3,none⟩ = some (.int .i64 ahi):=by
  intro W hW
  obtain ⟨vals,t,pb,h1,_,_⟩:=hcol
  have h1':=hW.obj h1
  exact ⟨by rw [cell_of h1',hclo];rfl,by rw [cell_of h1',hchi];rfl⟩
 have HC:=Lib.hid hcells
 have HCV:=Lib.hid hcv
 have HB:=Lib.hid hclo
 have HA:=Lib.hid hchi
 clear hcells hcv hv hclo hchi
 unfold maxLen at hlen
 have key : ∀ (c1 c2 c3 c4 : Bool),decide (values = []) = c1 → decide (alo ≤ lo) = c2 → decide (lo ≤ hi) = c3 → decide (hi ≤ ahi) = c4 →
   Calls Tryz.prog 59 #[encP cb,.slice va values.length cap,.int .i64 lo,.int .i64 hi] w fun e w'=>e = .returned (stTuple (⟨0,lo,hi⟩,c1 && (c2 && (c3 && c4)))) ∧ Ext w w':=by
  intro c1 c2 c3 c4 h1 h2 h3 h4
  have hl : ((values.length : Int) == 0) = c1:=by rw [← h1];cases values <;> simp;omega
  unfold encP
  go_enter Tryz.func59,Tryz.ntmps59
  go_wp2_with fail
  refine (choice_val cb a _ (hcol.ext (by exact bel)) HCV.out).mono ?_
  rintro e w1 ⟨rfl,rfl⟩
  go_wp2_with fail
  by_cases k1 : c1 = true ∧ c2 = true ∧ c3 = true
  ·obtain ⟨rfl,rfl,rfl⟩:=k1
   refine Rt.wp_region_rt (by kernel_rfl) [0,1,2,3,4,5,6,7,8,9,10,11,12,13,14,15,16,17,18,19,20,21,22,23,24,25,26,27,28,29,30] [29] [0,0,0,0,0,0,0,0,0,0,0,0,0,0,0,0,0,0,0,0,0] [0,0,3,0,8,24,56,120,248,504,1016,2040,120,8184,16376,32760,65528,65528,262136,524280,1048568,2097144,2097144,6291448,14680056,31457272,65011704,134217720,268435448,2097151,1073741823] (by kernel_rfl) (BoxI w w.heap.size ⟨0,lo,hi⟩) ?_ ?_
   ·exact ⟨by exact bel,.int .u64 0,.int .i64 0,.int .i64 0,by simp only [heap_drawn_get,heap_drew_get,heap_setCell_get,heap_alloc_get,World.size_alloc,World.size_setCell,size_drawn,putObj_get,putObj_size];(repeat (first | rw [if_pos trivial] | rw [if_pos rfl] | rw [if_neg (by omega)] | rw [if_pos (by omega)])),fun h=>absurd rfl h⟩
   iterate 11 (refine Rt.rs_sil rfl rfl rfl (fun K hK=>?_);go_simp;refine hK _ ?_;clear hK K)
   (refine Rt.rs_rd rfl rfl rfl ?_;apply Exists.intro;refine ⟨fun us' W hp hl hI=>?_,?_⟩;· (obtain ⟨r1,r2⟩:=HC.out W hI.1;go_simp;rfl));simp only [Act.put,zA,zB,zC,zD,zE,zF]
   iterate 14 (refine Rt.rs_sil rfl rfl rfl (fun K hK=>?_);go_simp;refine hK _ ?_;clear hK K)
   (refine Rt.rs_rd rfl rfl rfl ?_;apply Exists.intro;refine ⟨fun us' W hp hl hI=>?_,?_⟩;· (obtain ⟨r1,r2⟩:=HC.out W hI.1;go_simp;rfl));simp only [Act.put,zA,zB,zC,zD,zE,zF]
   iterate 2 (refine Rt.rs_sil rfl rfl rfl (fun K hK=>?_);go_simp;refine hK _ ?_;clear hK K)
   refine Rt.rs_eff rfl rfl rfl (fun W hI=>?_) (fun v hv=>?_)
   ·obtain ⟨hb,x,y,z,hx,_⟩:=hI
    have f0:=frozen_of hx 0
    have f1:=frozen_of hx 1
    have f2:=frozen_of hx 2
    have c0 : W.cell? ⟨w.heap.size,0,none⟩ = some x:=cell_of hx 0
    have c1 : W.cell? ⟨w.heap.size,1,none⟩ = some y:=cell_of hx 1
    have c2 : W.cell? ⟨w.heap.size,2,none⟩ = some z:=cell_of hx 2
    have HX:=Lib.hid hx
    clear hx
    refine Rt.gives_skp ?_
    apply Exists.intro
    refine ⟨by go_simp;rfl,?_⟩
    refine ⟨by exact bel,.int .u64 (0 : Nat),.int .i64 lo,.int .i64 hi,?_,fun _=>rfl⟩
    simp only [heap_drawn_get,heap_drew_get,heap_setCell_get,heap_alloc_get,World.size_alloc,World.size_setCell,size_drawn,putObj_get,putObj_size];(repeat (first | rw [if_pos trivial] | rw [if_pos rfl] | rw [if_neg (by omega)] | rw [if_pos (by omega)]))
    rw [HX.out];rfl
   clear hv
   simp only [Act.put,zA,zB,zC,zD,zE,zF]
   (refine Rt.rs_sil rfl rfl rfl (fun K hK=>?_);go_simp;refine hK _ ?_;clear hK K)
   refine Rt.rs_nil (fun W hI=>?_)
   obtain ⟨hb,x,y,z,hx,hxyz⟩:=hI
   replace hxyz:=hxyz (by simp)
   rw [hxyz] at hx
   have c0 : W.cell? ⟨w.heap.size,0,none⟩ = some (.int .u64 (0 : Nat)):=cell_of hx 0
   have c1 : W.cell? ⟨w.heap.size,1,none⟩ = some (.int .i64 lo):=cell_of hx 1
   have c2 : W.cell? ⟨w.heap.size,2,none⟩ = some (.int .i64 hi):=cell_of hx 2
   have Hx:=Lib.hid hx
   clear hx hxyz
   go_wp2
   exact bodyPost_ret (v:=stTuple (⟨0,lo,hi⟩,_)) (by simp [results,Tryz.results59,go_sem,c0,c1,c2,stTuple,St.val]) rfl ⟨rfl,hb⟩
  by_cases k2 : c1 = true ∧ c2 = true
  ·obtain ⟨rfl,rfl⟩:=k2
   obtain rfl : c3 = false:=by simpa using k1
   clear k1
   refine Rt.wp_region_rt (by kernel_rfl) [0,1,2,3,4,5,6,7,8,9,10,11,12,13,14,15,16,17,18,19,20,21,22,23,24,25,26,27,28,29,30] [29] [0,0,0,0,0,0,0,0,0,0,0,0,0,0,0,0,0,0,0,0,0] [0,0,3,0,8,24,56,120,248,504,1016,2040,120,8184,16376,32760,65528,65528,262136,524280,1048568,2097144,2097144,6291448,14680056,31457272,65011704,134217720,268435448,2097151,1073741823] (by kernel_rfl) (BoxI w w.heap.size ⟨0,lo,hi⟩) ?_ ?_
   ·exact ⟨by exact bel,.int .u64 0,.int .i64 0,.int .i64 0,by simp only [heap_drawn_get,heap_drew_get,heap_setCell_get,heap_alloc_get,World.size_alloc,World.size_setCell,size_drawn,putObj_get,putObj_size];(repeat (first | rw [if_pos trivial] | rw [if_pos rfl] | rw [if_neg (by omega)] | rw [if_pos (by omega)])),fun h=>absurd rfl h⟩
   iterate 11 (refine Rt.rs_sil rfl rfl rfl (fun K hK=>?_);go_simp;refine hK _ ?_;clear hK K)
   (refine Rt.rs_rd rfl rfl rfl ?_;apply Exists.intro;refine ⟨fun us' W hp hl hI=>?_,?_⟩;· (obtain ⟨r1,r2⟩:=HC.out W hI.1;go_simp;rfl));simp only [Act.put,zA,zB,zC,zD,zE,zF]
   iterate 9 (refine Rt.rs_sil rfl rfl rfl (fun K hK=>?_);go_simp;refine hK _ ?_;clear hK K)
   iterate 7 ((refine Rt.rs_skip rfl rfl rfl ?_;simp only [Act.put,zA,zB,zC,zD,zE,zF]))
   (refine Rt.rs_sil rfl rfl rfl (fun K hK=>?_);go_simp;refine hK _ ?_;clear hK K)
   refine Rt.rs_eff rfl rfl rfl (fun W hI=>?_) (fun v hv=>?_)
   ·obtain ⟨hb,x,y,z,hx,_⟩:=hI
    have f0:=frozen_of hx 0
    have f1:=frozen_of hx 1
    have f2:=frozen_of hx 2
    have c0 : W.cell? ⟨w.heap.size,0,none⟩ = some x:=cell_of hx 0
    have c1 : W.cell? ⟨w.heap.size,1,none⟩ = some y:=cell_of hx 1
    have c2 : W.cell? ⟨w.heap.size,2,none⟩ = some z:=cell_of hx 2
    have HX:=Lib.hid hx
    clear hx
    refine Rt.gives_skp ?_
    apply Exists.intro
    refine ⟨by go_simp;rfl,?_⟩
    refine ⟨by exact bel,.int .u64 (0 : Nat),.int .i64 lo,.int .i64 hi,?_,fun _=>rfl⟩
    simp only [heap_drawn_get,heap_drew_get,heap_setCell_get,heap_alloc_get,World.size_alloc,World.size_setCell,size_drawn,putObj_get,putObj_size];(repeat (first | rw [if_pos trivial] | rw [if_pos rfl] | rw [if_neg (by omega)] | rw [if_pos (by omega)]))
    rw [HX.out];rfl
   clear hv
   simp only [Act.put,zA,zB,zC,zD,zE,zF]
   (refine Rt.rs_sil rfl rfl rfl (fun K hK=>?_);go_simp;refine hK _ ?_;clear hK K)
   refine Rt.rs_nil (fun W hI=>?_)
   obtain ⟨hb,x,y,z,hx,hxyz⟩:=hI
   replace hxyz:=hxyz (by simp)
   rw [hxyz] at hx
   have c0 : W.cell? ⟨w.heap.size,0,none⟩ = some (.int .u64 (0 : Nat)):=cell_of hx 0
   have c1 : W.cell? ⟨w.heap.size,1,none⟩ = some (.int .i64 lo):=cell_of hx 1
   have c2 : W.cell? ⟨w.heap.size,2,none⟩ = some (.int .i64 hi):=cell_of hx 2
   have Hx:=Lib.hid hx
   clear hx hxyz
   go_wp2
   exact bodyPost_ret (v:=stTuple (⟨0,lo,hi⟩,_)) (by simp [results,Tryz.results59,go_sem,c0,c1,c2,stTuple,St.val]) rfl ⟨rfl,hb⟩
  by_cases k3 : c1 = true
  ·obtain rfl:=k3
   obtain rfl : c2 = false:=by simpa using k2
   clear k1 k2
   refine Rt.wp_region_rt (by kernel_rfl) [0,1,2,3,4,5,6,7,8,9,10,11,12,13,14,15,16,17,18,19,20,21,22,23,24,25,26,27,28,29,30] [29] [0,0,0,0,0,0,0,0,0,0,0,0,0,0,0,0,0,0,0,0,0] [0,0,3,0,8,24,56,120,248,504,1016,2040,120,8184,16376,32760,65528,65528,262136,524280,1048568,2097144,2097144,6291448,14680056,31457272,65011704,134217720,268435448,2097151,1073741823] (by kernel_rfl) (BoxI w w.heap.size ⟨0,lo,hi⟩) ?_ ?_
   ·exact ⟨by exact bel,.int .u64 0,.int .i64 0,.int .i64 0,by simp only [heap_drawn_get,heap_drew_get,heap_setCell_get,heap_alloc_get,World.size_alloc,World.size_setCell,size_drawn,putObj_get,putObj_size];(repeat (first | rw [if_pos trivial] | rw [if_pos rfl] | rw [if_neg (by omega)] | rw [if_pos (by omega)])),fun h=>absurd rfl h⟩
   iterate 11 (refine Rt.rs_sil rfl rfl rfl (fun K hK=>?_);go_simp;refine hK _ ?_;clear hK K)
   (refine Rt.rs_rd rfl rfl rfl ?_;apply Exists.intro;refine ⟨fun us' W hp hl hI=>?_,?_⟩;· (obtain ⟨r1,r2⟩:=HC.out W hI.1;go_simp;rfl));simp only [Act.put,zA,zB,zC,zD,zE,zF]
   iterate 4 (refine Rt.rs_sil rfl rfl rfl (fun K hK=>?_);go_simp;refine hK _ ?_;clear hK K)
   iterate 3 ((refine Rt.rs_skip rfl rfl rfl ?_;simp only [Act.put,zA,zB,zC,zD,zE,zF]))
   iterate 2 (refine Rt.rs_sil rfl rfl rfl (fun K hK=>?_);go_simp;refine hK _ ?_;clear hK K)
   iterate 7 ((refine Rt.rs_skip rfl rfl rfl ?_;simp only [Act.put,zA,zB,zC,zD,zE,zF]))
   (refine Rt.rs_sil rfl rfl rfl (fun K hK=>?_);go_simp;refine hK _ ?_;clear hK K)
   refine Rt.rs_eff rfl rfl rfl (fun W hI=>?_) (fun v hv=>?_)
   ·obtain ⟨hb,x,y,z,hx,_⟩:=hI
    have f0:=frozen_of hx 0
    have f1:=frozen_of hx 1
    have f2:=frozen_of hx 2
    have c0 : W.cell? ⟨w.heap.size,0,none⟩ = some x:=cell_of hx 0
    have c1 : W.cell? ⟨w.heap.size,1,none⟩ = some y:=cell_of hx 1
    have c2 : W.cell? ⟨w.heap.size,2,none⟩ = some z:=cell_of hx 2
    have HX:=Lib.hid hx
    clear hx
    refine Rt.gives_skp ?_
    apply Exists.intro
    refine ⟨by go_simp;rfl,?_⟩
    refine ⟨by exact bel,.int .u64 (0 : Nat),.int .i64 lo,.int .i64 hi,?_,fun _=>rfl⟩
    simp only [heap_drawn_get,heap_drew_get,heap_setCell_get,heap_alloc_get,World.size_alloc,World.size_setCell,size_drawn,putObj_get,putObj_size];(repeat (first | rw [if_pos trivial] | rw [if_pos rfl] | rw [if_neg (by omega)] | rw [if_pos (by omega)]))
    rw [HX.out];rfl
   clear hv
   simp only [Act.put,zA,zB,zC,zD,zE,zF]
   (refine Rt.rs_sil rfl rfl rfl (fun K hK=>?_);go_simp;refine hK _ ?_;clear hK K)
   refine Rt.rs_nil (fun W hI=>?_)
   obtain ⟨hb,x,y,z,hx,hxyz⟩:=hI
   replace hxyz:=hxyz (by simp)
   rw [hxyz] at hx
   have c0 : W.cell? ⟨w.heap.size,0,none⟩ = some (.int .u64 (0 : Nat)):=cell_of hx 0
   have c1 : W.cell? ⟨w.heap.size,1,none⟩ = some (.int .i64 lo):=cell_of hx 1
   have c2 : W.cell? ⟨w.heap.size,2,none⟩ = some (.int .i64 hi):=cell_of hx 2
   have Hx:=Lib.hid hx
   clear hx hxyz
   go_wp2
   exact bodyPost_ret (v:=stTuple (⟨0,lo,hi⟩,_)) (by simp [results,Tryz.results59,go_sem,c0,c1,c2,stTuple,St.val]) rfl ⟨rfl,hb⟩
  ·obtain rfl : c1 = false:=by simpa using k3
   clear k1 k2 k3
   refine Rt.wp_region_rt (by kernel_rfl) [0,1,2,3,4,5,6,7,8,9,10,11,12,13,14,15,16,17,18,19,20,21,22,23,24,25,26,27,28,29,30] [29] [0,0,0,0,0,0,0,0,0,0,0,0,0,0,0,0,0,0,0,0,0] [0,0,3,0,8,24,56,120,248,504,1016,2040,120,8184,16376,32760,65528,65528,262136,524280,1048568,2097144,2097144,6291448,14680056,31457272,65011704,134217720,268435448,2097151,1073741823] (by kernel_rfl) (BoxI w w.heap.size ⟨0,lo,hi⟩) ?_ ?_
   ·exact ⟨by exact bel,.int .u64 0,.int .i64 0,.int .i64 0,by simp only [heap_drawn_get,heap_drew_get,heap_setCell_get,heap_alloc_get,World.size_alloc,World.size_setCell,size_drawn,putObj_get,putObj_size];(repeat (first | rw [if_pos trivial] | rw [if_pos rfl] | rw [if_neg (by omega)] | rw [if_pos (by omega)])),fun h=>absurd rfl h⟩
   iterate 7 (refine Rt.rs_sil rfl rfl rfl (fun K hK=>?_);go_simp;refine hK _ ?_;clear hK K)
   iterate 7 ((refine Rt.rs_skip rfl rfl rfl ?_;simp only [Act.put,zA,zB,zC,zD,zE,zF]))
   iterate 2 (refine Rt.rs_sil rfl rfl rfl (fun K hK=>?_);go_simp;refine hK _ ?_;clear hK K)
   iterate 3 ((refine Rt.rs_skip rfl rfl rfl ?_;simp only [Act.put,zA,zB,zC,zD,zE,zF]))
   iterate 2 (refine Rt.rs_sil rfl rfl rfl (fun K hK=>?_);go_simp;refine hK _ ?_;clear hK K)
   iterate 7 ((refine Rt.rs_skip rfl rfl rfl ?_;simp only [Act.put,zA,zB,zC,zD,zE,zF]))
   (refine Rt.rs_sil rfl rfl rfl (fun K hK=>?_);go_simp;refine hK _ ?_;clear hK K)
   refine Rt.rs_eff rfl rfl rfl (fun W hI=>?_) (fun v hv=>?_)
   ·obtain ⟨hb,x,y,z,hx,_⟩:=hI
    have f0:=frozen_of hx 0
    have f1:=frozen_of hx 1
    have f2:=frozen_of hx 2
    have c0 : W.cell? ⟨w.heap.size,0,none⟩ = some x:=cell_of hx 0
    have c1 : W.cell? ⟨w.heap.size,1,none⟩ = some y:=cell_of hx 1
    have c2 : W.cell? ⟨w.heap.size,2,none⟩ = some z:=cell_of hx 2
    have HX:=Lib.hid hx
    clear hx
    refine Rt.gives_skp ?_
    apply Exists.intro
    refine ⟨by go_simp;rfl,?_⟩
    refine ⟨by exact bel,.int .u64 (0 : Nat),.int .i64 lo,.int .i64 hi,?_,fun _=>rfl⟩
    simp only [heap_drawn_get,heap_drew_get,heap_setCell_get,heap_alloc_get,World.size_alloc,World.size_setCell,size_drawn,putObj_get,putObj_size];(repeat (first | rw [if_pos trivial] | rw [if_pos rfl] | rw [if_neg (by omega)] | rw [if_pos (by omega)]))
    rw [HX.out];rfl
   clear hv
   simp only [Act.put,zA,zB,zC,zD,zE,zF]
   (refine Rt.rs_sil rfl rfl rfl (fun K hK=>?_);go_simp;refine hK _ ?_;clear hK K)
   refine Rt.rs_nil (fun W hI=>?_)
   obtain ⟨hb,x,y,z,hx,hxyz⟩:=hI
   replace hxyz:=hxyz (by simp)
   rw [hxyz] at hx
   have c0 : W.cell? ⟨w.heap.size,0,none⟩ = some (.int .u64 (0 : Nat)):=cell_of hx 0
   have c1 : W.cell? ⟨w.heap.size,1,none⟩ = some (.int .i64 lo):=cell_of hx 1
   have c2 : W.cell? ⟨w.heap.size,2,none⟩ = some (.int .i64 hi):=cell_of hx 2
   have Hx:=Lib.hid hx
   clear hx hxyz
   go_wp2
   exact bodyPost_ret (v:=stTuple (⟨0,lo,hi⟩,_)) (by simp [results,Tryz.results59,go_sem,c0,c1,c2,stTuple,St.val]) rfl ⟨rfl,hb⟩
 exact key _ _ _ _ rfl rfl rfl rfl
theorem readF_no {a : Attr} {values : List ByteArray} {lo hi : Int} (hv : a.values ≠ []) (h : readLoop a.values values 0 (-1) = none) : readF a values lo hi = (⟨0,0,0⟩,false):=by
 unfold readF;rw [if_neg hv,h]
theorem readF_yes {a : Attr} {values : List ByteArray} {lo hi : Int} {b : Nat} (hv : a.values ≠ []) (h : readLoop a.values values 0 (-1) = some b) : readF a values lo hi = (⟨b,0,0⟩,decide (values ≠ []) && (decide (lo = 0) && decide (hi = 0))):=by
 unfold readF;rw [if_neg hv,h]
theorem readLoop_none {av l : List ByteArray} {v : ByteArray} {r : List ByteArray} {b : Nat} {la : Int} (hd : l = v :: r) (h : place av v = none) : readLoop av l b la = none:=by
 subst hd;unfold readLoop;rw [h]
theorem readLoop_back {av l : List ByteArray} {v : ByteArray} {r : List ByteArray} {b n : Nat} {la : Int} (hd : l = v :: r) (h : place av v = some n) (hle : (n : Int) ≤ la) : readLoop av l b la = none:=by
 subst hd;unfold readLoop;rw [h];simp [hle]
theorem readLoop_on {av l : List ByteArray} {v : ByteArray} {r : List ByteArray} {b n : Nat} {la : Int} (hd : l = v :: r) (h : place av v = some n) (hle : ¬ (n : Int) ≤ la) : readLoop av l b la = readLoop av r (b ||| 2 ^ n) n:=by
 subst hd;conv=>lhs;unfold readLoop
 rw [h];simp [hle]
theorem or_pow (b n : Nat) (hb : b < 256) (hn : n < 8) : bits .or .u64 (b : Int) (IntKind.u64.wrap (2 ^ n)) = ((b ||| 2 ^ n : Nat) : Int) ∧ b ||| 2 ^ n < 256:=by
 have hle : 2 ^ n < 2 ^ 8:=Nat.pow_lt_pow_right (by omega) hn
 have hpow : (2 : Int) ^ n = ((2 ^ n : Nat) : Int):=by simp
 have hpos : 0 < 2 ^ n:=Nat.pow_pos (by omega)
 rw [hpow]
 generalize 2 ^ n = q at *
 rw [IntWalk.u64_in (q : Int) (by omega)]
 exact ⟨u64_or_nat _ _ (by omega) (by omega),Nat.or_lt_two_pow (n:=8) hb hle⟩
def BoxJ (w : World) (n : Nat) (r : St) (o : Obj) (us : List Value) (W : World) : Prop:=BoxI w n r us W ∧ W.heap[n + 1]? = some o
structure ReadL (w : World) (b : Nat) (wr : World) : Prop where
 below : Below w.heap.size w wr
 size : w.heap.size + 1 < wr.heap.size
 res : wr.heap[w.heap.size]? = some (.cells #[.int .u64 (0 : Nat),.int .i64 0,.int .i64 0] 120 (0,0))
 box : wr.heap[w.heap.size + 1]? = some (.cells #[.int .u64 b,.int .i64 0,.int .i64 0] 120 (0,0))
set_option maxHeartbeats 4000000 in
set_option maxRecDepth 100000 in
theorem read_choice (cb : Nat) (a : Attr) (w : World) (hcol : ColAt w cb a) (ha : AttrOk a) (hv : a.values ≠ []) (v : Value) (values : List ByteArray) (hvs : StrsAt w v values) (lo hi : Int) :
  Calls Tryz.prog 59 #[encP cb,v,.int .i64 lo,.int .i64 hi] w fun e w'=>e = .returned (stTuple (readF a values lo hi)) ∧ Ext w w':=by
 have hcv : decide (a.values ≠ []) = true:=by simp [hv]
 have HV:=Lib.hid hv
 have h8:=ha.small
 have HA:=Lib.hid ha
 have HCV:=Lib.hid hcv
 clear hv ha hcv
 obtain ⟨⟨p,cap,rfl,hcap,hlen,_,hel⟩,hsz⟩:=hvs
 unfold maxLen at hlen
 have hpb : ∃ pb,(∀ W,Ext w W → W.cell? ⟨cb,5,none⟩ = some (.map (some pb))) ∧ ∀ W,Ext w W → MapIs Value.string W pb (a.values.zipIdx.map fun x=>(x.1,.int .i64 (x.2 : Int))):=by
  obtain ⟨vals,t,pb,h1,_,h3⟩:=hcol
  exact ⟨pb,fun W hW=>by rw [cell_of (hW.obj h1)];rfl,fun W hW=>h3.ext hW⟩
 obtain ⟨pb,hpb1,hpb2⟩:=hpb
 have HP1:=Lib.hid hpb1
 have HP2:=Lib.hid hpb2
 have HEL:=Lib.hid hel
 clear hpb1 hpb2 hel hcap
 unfold encP
 go_enter Tryz.func59,Tryz.ntmps59
 go_wp2_with fail
 refine (choice_val cb a _ (hcol.ext (by exact bel)) HCV.out).mono ?_
 rintro e w1 ⟨rfl,rfl⟩
 go_wp2_with fail
 go_loopw [11,13,14,15,51] (fun last _ _ _ i wr=>∃ (k b : Nat) (la : Int),k ≤ values.length ∧ i = .int .i64 k ∧ last = .int .i64 la ∧ -1 ≤ la ∧ la < 8 ∧ b < 256 ∧ Hid (readLoop a.values values 0 (-1) = readLoop a.values (values.drop k) b la) ∧ ReadL w b wr) (fun _ _ _ _ i _=>values.length - (intOf i).toNat)
 case atStart=>
  refine ⟨0,0,-1,Nat.zero_le _,rfl,rfl,by omega,by omega,by omega,rfl,⟨by exact bel,by simp,?_,?_⟩⟩
  ·simp only [heap_drawn_get,heap_drew_get,heap_setCell_get,heap_alloc_get,World.size_alloc,World.size_setCell,size_drawn,putObj_get,putObj_size];(repeat (first | rw [if_pos trivial] | rw [if_pos rfl] | rw [if_neg (by omega)] | rw [if_pos (by omega)]))
   rfl
  ·simp only [heap_drawn_get,heap_drew_get,heap_setCell_get,heap_alloc_get,World.size_alloc,World.size_setCell,size_drawn,putObj_get,putObj_size];(repeat (first | rw [if_pos trivial] | rw [if_pos rfl] | rw [if_neg (by omega)] | rw [if_pos (by omega)]))
   rfl
 case round=>
  obtain ⟨k,b,la,hk,rfl,rfl,hl1,hl2,hb,hr,hR⟩:=hrel
  obtain ⟨hb1,hsz1,hres,hbox⟩:=hR
  have hp1 : wr.cell? ⟨cb,5,none⟩ = some (.map (some pb)):=HP1.out wr hb1
  by_cases hlt : k < values.length
  ·obtain ⟨eb,eo,rfl,hcell⟩:=HEL.out k (.string values[k]) (by simp [hlt])
   replace hcell:=Ext.cell' hb1 hcell
   have hlook : ∀ W',Ext w W' → (Instr.lookup 102 (.map (some pb)) (.string values[k]) true).run Tryz.prog W' = .ok (.tuple #[((place a.values values[k]).map fun n : Nat=>Value.int .i64 (n : Int)).getD (.int .i64 0),.bool (place a.values values[k]).isSome]) W':=by
    intro W' hW'
    have:=run_lookup2 (P:=Tryz.prog) (T:=102) (K:=9) (E:=3) (z:=.int .i64 0) (k:=values[k]) (by kernel_rfl) (HP2.out W' hW') (finds_string (by kernel_rfl) W' _ _) (by kernel_rfl)
    rw [look_zip] at this
    unfold place
    cases hq : placeFrom a.values values[k] 0 <;> rw [hq] at this <;> exact this
   have hlk:=hlook wr hb1
   have r0 : wr.cell? ⟨w.heap.size,0,none⟩ = some (.int .u64 (0 : Nat)):=cell_of hres 0
   have r1 : wr.cell? ⟨w.heap.size,1,none⟩ = some (.int .i64 0):=cell_of hres 1
   have r2 : wr.cell? ⟨w.heap.size,2,none⟩ = some (.int .i64 0):=cell_of hres 2
   have fr0:=frozen_of hres 0
   have fr1:=frozen_of hres 1
   have fr2:=frozen_of hres 2
   have b0 : wr.cell? ⟨w.heap.size + 1,0,none⟩ = some (.int .u64 b):=cell_of hbox 0
   have fb0:=frozen_of hbox 0
   have HR1:=Lib.hid hres
   have HB1:=Lib.hid hbox
   clear hres hbox
   have hdrop : values.drop k = values[k] :: values.drop (k + 1):=List.drop_eq_getElem_cons hlt
   have HD:=Lib.hid hdrop
   clear hdrop hlook
   cases hpl : place a.values values[k] with
   | none=>
    rw [hpl] at hlk
    simp only [Option.map_none,Option.getD_none,Option.isSome_none] at hlk
    have HPL:=Lib.hid hpl
    clear hpl
    go_wp2_with fail
    refine bodyPost_ret (v:=stTuple (⟨0,0,0⟩,false)) (by simp [results,Tryz.results59,go_sem,r0,r1,r2,stTuple,St.val]) rfl ⟨?_,by exact bel⟩
    rw [readF_no HV.out (hr.out.trans (readLoop_none HD.out HPL.out))]
   | some n=>
    rw [hpl] at hlk
    simp only [Option.map_some,Option.getD_some,Option.isSome_some] at hlk
    have hn:=(placeFrom_lt _ _ _ _ hpl).2.1
    have HPL:=Lib.hid hpl
    clear hpl
    go_wp2_with fail
    ·refine bodyPost_ret (v:=stTuple (⟨0,0,0⟩,false)) (by simp [results,Tryz.results59,go_sem,r0,r1,r2,stTuple,St.val]) rfl ⟨?_,by exact bel⟩
     rw [readF_no HV.out (hr.out.trans (readLoop_back HD.out HPL.out (by (try simp only [beq_iff_eq,beq_eq_false_iff_ne] at *);omega)))]
    ·go_region
     all_goals go_wp2
     obtain ⟨hor,hlt2⟩:=or_pow b n hb (by omega)
     refine ⟨⟨k + 1,b ||| 2 ^ n,n,by omega,rfl,rfl,by omega,by omega,hlt2,hr.out.trans (readLoop_on HD.out HPL.out (by omega)),⟨by exact bel,(by show w.heap.size + 1 < (World.setCell _ _ _).heap.size;rw [World.size_setCell];exact hsz1),?_,?_⟩⟩,by simp [intOf];omega⟩
     ·simp only [heap_drawn_get,heap_drew_get,heap_setCell_get,heap_alloc_get,World.size_alloc,World.size_setCell,size_drawn,putObj_get,putObj_size];(repeat (first | rw [if_pos trivial] | rw [if_pos rfl] | rw [if_neg (by omega)] | rw [if_pos (by omega)]))
      exact HR1.out
     ·simp only [heap_drawn_get,heap_drew_get,heap_setCell_get,heap_alloc_get,World.size_alloc,World.size_setCell,size_drawn,putObj_get,putObj_size];(repeat (first | rw [if_pos trivial] | rw [if_pos rfl] | rw [if_neg (by omega)] | rw [if_pos (by omega)]))
      rw [HB1.out];simp [hor]
  ·obtain rfl : k = values.length:=by omega
   have hr2 : readLoop a.values values 0 (-1) = some b:=by rw [hr.out,List.drop_length];rfl
   have HF:=Lib.hid (readF_yes (lo:=lo) (hi:=hi) HV.out hr2)
   clear hr hr2
   have HR1:=Lib.hid hres
   have HB1:=Lib.hid hbox
   clear hres hbox
   have d1 : decide (values ≠ []) = decide (0 < values.length):=by rw [Bool.eq_iff_iff];simp [List.length_pos_iff]
   obtain ⟨c1,h1⟩ : ∃ c,decide (0 < values.length) = c:=⟨_,rfl⟩
   obtain ⟨c2,h2⟩ : ∃ c,decide (lo = 0) = c:=⟨_,rfl⟩
   obtain ⟨c3,h3⟩ : ∃ c,decide (hi = 0) = c:=⟨_,rfl⟩
   have HF' : Hid (readF a values lo hi = (⟨b,0,0⟩,c1 && (c2 && c3))):=by rw [← h1,← h2,← h3,← d1];exact HF
   clear HF d1
   have hcells : ∀ W,(us : List Value) → BoxJ w w.heap.size ⟨b,0,0⟩ (.cells #[.int .u64 b,.int .i64 0,.int .i64 0] 120 (0,0)) us W → W.cell? ⟨w.heap.size + 1,0,none⟩ = some (.int .u64 b) ∧ W.cell? ⟨w.heap.size + 1,1,none⟩ = some (.int .i64 0) ∧ W.cell? ⟨w.heap.size + 1,2,none⟩ = some (.int .i64 0):=
    fun W us hW=>⟨cell_of hW.2 0,cell_of hW.2 1,cell_of hW.2 2⟩
   have HCS:=Lib.hid hcells
   clear hcells
   have b0 : wr.cell? ⟨w.heap.size + 1,0,none⟩ = some (.int .u64 b):=cell_of HB1.out 0
   have b1 : wr.cell? ⟨w.heap.size + 1,1,none⟩ = some (.int .i64 0):=cell_of HB1.out 1
   have b2 : wr.cell? ⟨w.heap.size + 1,2,none⟩ = some (.int .i64 0):=cell_of HB1.out 2
   have r0 : wr.cell? ⟨w.heap.size,0,none⟩ = some (.int .u64 (0 : Nat)):=cell_of HR1.out 0
   have r1 : wr.cell? ⟨w.heap.size,1,none⟩ = some (.int .i64 0):=cell_of HR1.out 1
   have r2 : wr.cell? ⟨w.heap.size,2,none⟩ = some (.int .i64 0):=cell_of HR1.out 2
   have fr0:=frozen_of HR1.out 0
   have fr1:=frozen_of HR1.out 1
   have fr2:=frozen_of HR1.out 2
   go_wp2_with fail
   ·rename_i hx1 hx2
    refine bodyPost_ret (v:=stTuple (⟨b,0,0⟩,c1 && (c2 && c3))) ?_ rfl ⟨by rw [HF'.out],by exact bel⟩
    subst hx2 h2 h3
    by_cases h : hi = 0 <;> simp [results,Tryz.results59,go_sem,r0,r1,r2,stTuple,St.val,hx1,h]
   ·rename_i hx1 hx2
    refine bodyPost_ret (v:=stTuple (⟨b,0,0⟩,c1 && (c2 && c3))) ?_ rfl ⟨by rw [HF'.out],by exact bel⟩
    subst h2
    simp [results,Tryz.results59,go_sem,r0,r1,r2,stTuple,St.val,hx1,hx2]
   ·rename_i hx2
    refine bodyPost_ret (v:=stTuple (⟨b,0,0⟩,c1 && (c2 && c3))) ?_ rfl ⟨by rw [HF'.out],by exact bel⟩
    simp [results,Tryz.results59,go_sem,r0,r1,r2,stTuple,St.val,hx2]
theorem read_any (cb : Nat) (a : Attr) (w : World) (hcol : ColAt w cb a) (ha : AttrOk a) (v : Value) (values : List ByteArray) (hvs : StrsAt w v values) (lo hi : Int) :
  Calls Tryz.prog 59 #[encP cb,v,.int .i64 lo,.int .i64 hi] w fun e w'=>e = .returned (stTuple (readF a values lo hi)) ∧ Ext w w':=by
 by_cases hv : a.values = []
 ·obtain ⟨⟨p,cap,rfl,hcap,hlen,_,hel⟩,hsz⟩:=hvs
  exact read_count cb a w hcol hv p values cap lo hi hlen
 ·exact read_choice cb a w hcol ha hv v values hvs lo hi
end Go.Proofs.YtihfcjioilmmjaaGreat
namespace Go.Proofs
open Go.Shelf
open Go.RowKit Go.Lib in
open Go.RowKit Go.Lib in
open Go.RowKit Go.Lib in
open Go.RowKit Go.Lib in
open Go.RowKit Go.Lib in
open Go.RowKit Go.Lib in
open Go.RowKit Go.Lib in
open Go.RowKit Go.Lib in
def Tryz.lays144_ren : Go.Shelf.Ren:=⟨fun | 144=>65 | 143=>88 | 219=>114 | 217=>137 | 225=>138 | 224=>139 | 267=>140 | 266=>147 | 314=>148 | n=>n,fun | 9=>9 | 4=>4 | 3=>3 | 5=>5 | 46=>118 | 146=>236 | 51=>23 | n=>n,fun | 1=>0 | n=>n⟩
theorem Tryz.lays144 : Go.Proofs.Lays.n144 Tryz.prog Tryz.lays144_ren:={
 mixed:=by kernel_rfl
 f143:=Tryz.func88.trans (congrArg some (by kernel_rfl))
 f144:=Tryz.func65.trans (congrArg some (by kernel_rfl))
 f217:=Tryz.func137.trans (congrArg some (by kernel_rfl))
 f219:=Tryz.func114.trans (congrArg some (by kernel_rfl))
 f224:=Tryz.func139.trans (congrArg some (by kernel_rfl))
 f225:=Tryz.func138.trans (congrArg some (by kernel_rfl))
 f266:=Tryz.func147.trans (congrArg some (by kernel_rfl))
 f267:=Tryz.func140.trans (congrArg some (by kernel_rfl))
 f314:=Tryz.func148.trans (congrArg some (by kernel_rfl))
 t3:=Tryz.underlying3
 a3:=Tryz.isAgg3
 z3:=Tryz.sizeOf3
 v3:=Tryz.zeroValue3
 t4:=Tryz.underlying4
 a4:=Tryz.isAgg4
 z4:=Tryz.sizeOf4
 v4:=Tryz.zeroValue4
 t5:=Tryz.underlying5
 a5:=Tryz.isAgg5
 z5:=Tryz.sizeOf5
 v5:=Tryz.zeroValue5
 t9:=Tryz.underlying9
 a9:=Tryz.isAgg9
 z9:=Tryz.sizeOf9
 v9:=Tryz.zeroValue9
 t46:=Tryz.underlying118
 a46:=Tryz.isAgg118
 z46:=Tryz.sizeOf118
 v46:=Tryz.zeroValue118
 t51:=Tryz.underlying23
 a51:=Tryz.isAgg23
 z51:=Tryz.sizeOf23
 v51:=Tryz.zeroValue23
 t146:=Tryz.underlying236
 a146:=Tryz.isAgg236
 z146:=Tryz.sizeOf236
 v146:=Tryz.zeroValue236
 g1:=by kernel_rfl }
open Go.RowKit Go.Lib in
theorem Tryz.strings_Contains_one (s : ByteArray) (c : UInt8) (w : World) :
 Calls Tryz.prog 65 #[.string s,.string ⟨#[c]⟩] w fun e w'=>e = .returned (.bool (decide (0 ≤ Lib.indexByte s.data.toList c))) ∧ w' = w:=Any.strings_Contains_one Tryz.lays144 s c w
open Go.RowKit Go.Lib in
open Go.RowKit Go.Lib in
def Tryz.lays145_ren : Go.Shelf.Ren:=⟨fun | 145=>61 | 220=>77 | 219=>114 | 217=>137 | 225=>138 | 224=>139 | 267=>140 | 266=>147 | 314=>148 | n=>n,fun | 9=>9 | 4=>4 | 59=>154 | 3=>3 | 5=>5 | 46=>118 | 146=>236 | 51=>23 | n=>n,fun | 1=>0 | n=>n⟩
theorem Tryz.lays145 : Go.Proofs.Lays.n145 Tryz.prog Tryz.lays145_ren:={
 mixed:=by kernel_rfl
 f145:=Tryz.func61.trans (congrArg some (by kernel_rfl))
 f217:=Tryz.func137.trans (congrArg some (by kernel_rfl))
 f219:=Tryz.func114.trans (congrArg some (by kernel_rfl))
 f220:=Tryz.func77.trans (congrArg some (by kernel_rfl))
 f224:=Tryz.func139.trans (congrArg some (by kernel_rfl))
 f225:=Tryz.func138.trans (congrArg some (by kernel_rfl))
 f266:=Tryz.func147.trans (congrArg some (by kernel_rfl))
 f267:=Tryz.func140.trans (congrArg some (by kernel_rfl))
 f314:=Tryz.func148.trans (congrArg some (by kernel_rfl))
 t3:=Tryz.underlying3
 a3:=Tryz.isAgg3
 z3:=Tryz.sizeOf3
 v3:=Tryz.zeroValue3
 t4:=Tryz.underlying4
 a4:=Tryz.isAgg4
 z4:=Tryz.sizeOf4
 v4:=Tryz.zeroValue4
 t5:=Tryz.underlying5
 a5:=Tryz.isAgg5
 z5:=Tryz.sizeOf5
 v5:=Tryz.zeroValue5
 t9:=Tryz.underlying9
 a9:=Tryz.isAgg9
 z9:=Tryz.sizeOf9
 v9:=Tryz.zeroValue9
 t46:=Tryz.underlying118
 a46:=Tryz.isAgg118
 z46:=Tryz.sizeOf118
 v46:=Tryz.zeroValue118
 t51:=Tryz.underlying23
 a51:=Tryz.isAgg23
 z51:=Tryz.sizeOf23
 v51:=Tryz.zeroValue23
 t59:=Tryz.underlying154
 a59:=Tryz.isAgg154
 z59:=Tryz.sizeOf154
 v59:=Tryz.zeroValue154
 t146:=Tryz.underlying236
 a146:=Tryz.isAgg236
 z146:=Tryz.sizeOf236
 v146:=Tryz.zeroValue236
 g1:=by kernel_rfl }
open Go.RowKit Go.Lib in
theorem Tryz.strings_Cut (s sep : ByteArray) (m : Int) (w : World) (hs : s.size < 4294967281) (hm : w.cell? ⟨0,0,none⟩ = some (.int .i64 m)) :
 Calls Tryz.prog 61 #[.string s,.string sep] w fun e w'=>e = .returned (.tuple #[.string ⟨(Lib.cut s.data.toList sep.data.toList).1.toArray⟩,.string ⟨(Lib.cut s.data.toList sep.data.toList).2.1.toArray⟩,.bool (Lib.cut s.data.toList sep.data.toList).2.2]) ∧ ∃ n,w' = w.drewN n:=Any.strings_Cut Tryz.lays145 s sep m w hs hm
open Go.RowKit Go.Lib in
open Go.RowKit Go.Lib in
open Go.RowKit Go.Lib in
open Go.RowKit Go.Lib in
open Go.RowKit Go.Lib in
def Tryz.lays189_ren : Go.Shelf.Ren:=⟨fun | 189=>57 | 125=>74 | 257=>76 | 128=>103 | 129=>104 | 294=>105 | 295=>106 | 296=>107 | 297=>108 | 298=>109 | 299=>110 | 216=>111 | 300=>112 | 301=>113 | 328=>133 | 329=>128 | 330=>129 | 331=>134 | 332=>135 | 215=>136 | 343=>146 | n=>n,fun | 28=>35 | 3=>3 | 46=>118 | 0=>0 | 51=>23 | 53=>201 | 4=>4 | 183=>194 | 182=>193 | 131=>125 | 5=>5 | 9=>9 | 218=>219 | 222=>223 | 228=>232 | 229=>233 | n=>n,fun | n=>n⟩
theorem Tryz.lays189 : Go.Proofs.Lays.n189 Tryz.prog Tryz.lays189_ren:={
 mixed:=by kernel_rfl
 f125:=Tryz.func74.trans (congrArg some (by kernel_rfl))
 f128:=Tryz.func103.trans (congrArg some (by kernel_rfl))
 f129:=Tryz.func104.trans (congrArg some (by kernel_rfl))
 f189:=Tryz.func57.trans (congrArg some (by kernel_rfl))
 f215:=Tryz.func136.trans (congrArg some (by kernel_rfl))
 f216:=Tryz.func111.trans (congrArg some (by kernel_rfl))
 f257:=Tryz.func76.trans (congrArg some (by kernel_rfl))
 f294:=Tryz.func105.trans (congrArg some (by kernel_rfl))
 f295:=Tryz.func106.trans (congrArg some (by kernel_rfl))
 f296:=Tryz.func107.trans (congrArg some (by kernel_rfl))
 f297:=Tryz.func108.trans (congrArg some (by kernel_rfl))
 f298:=Tryz.func109.trans (congrArg some (by kernel_rfl))
 f299:=Tryz.func110.trans (congrArg some (by kernel_rfl))
 f300:=Tryz.func112.trans (congrArg some (by kernel_rfl))
 f301:=Tryz.func113.trans (congrArg some (by kernel_rfl))
 f328:=Tryz.func133.trans (congrArg some (by kernel_rfl))
 f329:=Tryz.func128.trans (congrArg some (by kernel_rfl))
 f330:=Tryz.func129.trans (congrArg some (by kernel_rfl))
 f331:=Tryz.func134.trans (congrArg some (by kernel_rfl))
 f332:=Tryz.func135.trans (congrArg some (by kernel_rfl))
 f343:=Tryz.func146.trans (congrArg some (by kernel_rfl))
 t0:=Tryz.underlying0
 a0:=Tryz.isAgg0
 z0:=Tryz.sizeOf0
 v0:=Tryz.zeroValue0
 t3:=Tryz.underlying3
 a3:=Tryz.isAgg3
 z3:=Tryz.sizeOf3
 v3:=Tryz.zeroValue3
 t4:=Tryz.underlying4
 a4:=Tryz.isAgg4
 z4:=Tryz.sizeOf4
 v4:=Tryz.zeroValue4
 t5:=Tryz.underlying5
 a5:=Tryz.isAgg5
 z5:=Tryz.sizeOf5
 v5:=Tryz.zeroValue5
 t9:=Tryz.underlying9
 a9:=Tryz.isAgg9
 z9:=Tryz.sizeOf9
 v9:=Tryz.zeroValue9
 t28:=Tryz.underlying35
 a28:=Tryz.isAgg35
 z28:=Tryz.sizeOf35
 v28:=Tryz.zeroValue35
 t46:=Tryz.underlying118
 a46:=Tryz.isAgg118
 z46:=Tryz.sizeOf118
 v46:=Tryz.zeroValue118
 t51:=Tryz.underlying23
 a51:=Tryz.isAgg23
 z51:=Tryz.sizeOf23
 v51:=Tryz.zeroValue23
 t53:=Tryz.underlying201
 a53:=Tryz.isAgg201
 z53:=Tryz.sizeOf201
 v53:=Tryz.zeroValue201
 t131:=Tryz.underlying125
 a131:=Tryz.isAgg125
 z131:=Tryz.sizeOf125
 v131:=Tryz.zeroValue125
 t182:=Tryz.underlying193
 a182:=Tryz.isAgg193
 z182:=Tryz.sizeOf193
 v182:=Tryz.zeroValue193
 t183:=Tryz.underlying194
 a183:=Tryz.isAgg194
 z183:=Tryz.sizeOf194
 v183:=Tryz.zeroValue194
 t218:=Tryz.underlying219
 a218:=Tryz.isAgg219
 z218:=Tryz.sizeOf219
 v218:=Tryz.zeroValue219
 t222:=Tryz.underlying223
 a222:=Tryz.isAgg223
 z222:=Tryz.sizeOf223
 v222:=Tryz.zeroValue223
 t228:=Tryz.underlying232
 a228:=Tryz.isAgg232
 z228:=Tryz.sizeOf232
 v228:=Tryz.zeroValue232
 t229:=Tryz.underlying233
 a229:=Tryz.isAgg233
 z229:=Tryz.sizeOf233
 v229:=Tryz.zeroValue233 }
open Go.Sort Go.RowKit in
theorem Tryz.slices_Sort_int (blk off cap : Nat) (zs : List Int) (w : World) (hH : Holds (Value.int .i64) w blk off zs.toArray) (hblk : blk < w.heap.size) (hsz : zs.length < 4611686018427387904) :
 Calls Tryz.prog 57 #[.slice (some ⟨blk,off,none⟩) zs.length cap] w fun e w'=>
  e = .returned (.tuple #[]) ∧ ∃ n os,w' = grow (putRow (Value.int .i64) (Sort.ahead w n) blk off (zs.mergeSort fun x y=>decide (x ≤ y)).toArray) os:=Any.slices_Sort_int Tryz.lays189 blk off cap zs w hH hblk hsz
def Tryz.lays190_ren : Go.Shelf.Ren:=⟨fun | 190=>52 | 125=>74 | 258=>73 | 128=>103 | 129=>104 | 302=>94 | 303=>95 | 304=>96 | 305=>97 | 306=>98 | 307=>99 | 308=>100 | 309=>101 | 310=>102 | 333=>127 | 329=>128 | 330=>129 | 334=>130 | 335=>131 | 336=>132 | 344=>145 | n=>n,fun | 31=>26 | 9=>9 | 3=>3 | 46=>118 | 0=>0 | 51=>23 | 53=>201 | 4=>4 | 183=>194 | 182=>193 | 131=>125 | 5=>5 | 218=>219 | 222=>223 | 228=>232 | 229=>233 | n=>n,fun | n=>n⟩
theorem Tryz.lays190 : Go.Proofs.Lays.n190 Tryz.prog Tryz.lays190_ren:={
 mixed:=by kernel_rfl
 f125:=Tryz.func74.trans (congrArg some (by kernel_rfl))
 f128:=Tryz.func103.trans (congrArg some (by kernel_rfl))
 f129:=Tryz.func104.trans (congrArg some (by kernel_rfl))
 f190:=Tryz.func52.trans (congrArg some (by kernel_rfl))
 f258:=Tryz.func73.trans (congrArg some (by kernel_rfl))
 f302:=Tryz.func94.trans (congrArg some (by kernel_rfl))
 f303:=Tryz.func95.trans (congrArg some (by kernel_rfl))
 f304:=Tryz.func96.trans (congrArg some (by kernel_rfl))
 f305:=Tryz.func97.trans (congrArg some (by kernel_rfl))
 f306:=Tryz.func98.trans (congrArg some (by kernel_rfl))
 f307:=Tryz.func99.trans (congrArg some (by kernel_rfl))
 f308:=Tryz.func100.trans (congrArg some (by kernel_rfl))
 f309:=Tryz.func101.trans (congrArg some (by kernel_rfl))
 f310:=Tryz.func102.trans (congrArg some (by kernel_rfl))
 f329:=Tryz.func128.trans (congrArg some (by kernel_rfl))
 f330:=Tryz.func129.trans (congrArg some (by kernel_rfl))
 f333:=Tryz.func127.trans (congrArg some (by kernel_rfl))
 f334:=Tryz.func130.trans (congrArg some (by kernel_rfl))
 f335:=Tryz.func131.trans (congrArg some (by kernel_rfl))
 f336:=Tryz.func132.trans (congrArg some (by kernel_rfl))
 f344:=Tryz.func145.trans (congrArg some (by kernel_rfl))
 t0:=Tryz.underlying0
 a0:=Tryz.isAgg0
 z0:=Tryz.sizeOf0
 v0:=Tryz.zeroValue0
 t3:=Tryz.underlying3
 a3:=Tryz.isAgg3
 z3:=Tryz.sizeOf3
 v3:=Tryz.zeroValue3
 t4:=Tryz.underlying4
 a4:=Tryz.isAgg4
 z4:=Tryz.sizeOf4
 v4:=Tryz.zeroValue4
 t5:=Tryz.underlying5
 a5:=Tryz.isAgg5
 z5:=Tryz.sizeOf5
 v5:=Tryz.zeroValue5
 t9:=Tryz.underlying9
 a9:=Tryz.isAgg9
 z9:=Tryz.sizeOf9
 v9:=Tryz.zeroValue9
 t31:=Tryz.underlying26
 a31:=Tryz.isAgg26
 z31:=Tryz.sizeOf26
 v31:=Tryz.zeroValue26
 t46:=Tryz.underlying118
 a46:=Tryz.isAgg118
 z46:=Tryz.sizeOf118
 v46:=Tryz.zeroValue118
 t51:=Tryz.underlying23
 a51:=Tryz.isAgg23
 z51:=Tryz.sizeOf23
 v51:=Tryz.zeroValue23
 t53:=Tryz.underlying201
 a53:=Tryz.isAgg201
 z53:=Tryz.sizeOf201
 v53:=Tryz.zeroValue201
 t131:=Tryz.underlying125
 a131:=Tryz.isAgg125
 z131:=Tryz.sizeOf125
 v131:=Tryz.zeroValue125
 t182:=Tryz.underlying193
 a182:=Tryz.isAgg193
 z182:=Tryz.sizeOf193
 v182:=Tryz.zeroValue193
 t183:=Tryz.underlying194
 a183:=Tryz.isAgg194
 z183:=Tryz.sizeOf194
 v183:=Tryz.zeroValue194
 t218:=Tryz.underlying219
 a218:=Tryz.isAgg219
 z218:=Tryz.sizeOf219
 v218:=Tryz.zeroValue219
 t222:=Tryz.underlying223
 a222:=Tryz.isAgg223
 z222:=Tryz.sizeOf223
 v222:=Tryz.zeroValue223
 t228:=Tryz.underlying232
 a228:=Tryz.isAgg232
 z228:=Tryz.sizeOf232
 v228:=Tryz.zeroValue232
 t229:=Tryz.underlying233
 a229:=Tryz.isAgg233
 z229:=Tryz.sizeOf233
 v229:=Tryz.zeroValue233 }
open Go.Sort Go.RowKit in
theorem Tryz.slices_Sort_string (blk off cap : Nat) (ss : List (List UInt8)) (w : World) (hH : Holds encStr w blk off ss.toArray) (hblk : blk < w.heap.size) (hsz : ss.length < 4611686018427387904) :
 Calls Tryz.prog 52 #[.slice (some ⟨blk,off,none⟩) ss.length cap] w fun e w'=>
  e = .returned (.tuple #[]) ∧ ∃ n os,w' = grow (putRow encStr (Sort.ahead w n) blk off (ss.mergeSort fun x y=>decide (x ≤ y)).toArray) os:=Any.slices_Sort_string Tryz.lays190 blk off cap ss w hH hblk hsz
def Tryz.laysNm216_ren : Go.Shelf.Ren:=⟨fun | 16=>29 | n=>n,fun | 24=>26 | 9=>9 | 4=>4 | n=>n,fun | n=>n⟩
theorem Tryz.laysNm216 : Go.Proofs.Lays2.n16 Tryz.prog Tryz.laysNm216_ren:={
 mixed:=by kernel_rfl
 f16:=Tryz.func29.trans (congrArg some (by kernel_rfl))
 t4:=Tryz.underlying4
 a4:=Tryz.isAgg4
 z4:=Tryz.sizeOf4
 v4:=Tryz.zeroValue4
 t9:=Tryz.underlying9
 a9:=Tryz.isAgg9
 z9:=Tryz.sizeOf9
 v9:=Tryz.zeroValue9
 t24:=Tryz.underlying26
 a24:=Tryz.isAgg26
 z24:=Tryz.sizeOf26
 v24:=Tryz.zeroValue26
 i9:=by kernel_rfl }
open Go.RowKit Go.Lib in
theorem Tryz.slices_Clone_string (b off n c : Nat) (zs : List ByteArray) (w : World) (hz : n ≤ zs.length) (hbig : n * 16 ≤ 140737488355328) (hc : ∀ j,j < zs.length → w.cell? ⟨b,off + j,none⟩ = some (.string (zs.getD j ByteArray.empty))) :
 Calls Tryz.prog 29 #[.slice (some ⟨b,off,none⟩) n c] w fun e w'=>∃ v',e = .returned v' ∧ w'.ownsRow w.heap.size 9 1 v' n ((zs.take n).map (Value.string)) ∧ v' ≠ .slice none 0 0 ∧ Below w.heap.size w w':=Any.slices_Clone_string Tryz.laysNm216 b off n c zs w hz hbig hc
open Go.RowKit Go.Lib in
theorem Tryz.slices_Clone_string_nil (n c : Nat) (w : World) :
 Calls Tryz.prog 29 #[.slice none n c] w fun e w'=>e = .returned (.slice none 0 0) ∧ w' = w:=Any.slices_Clone_string_nil Tryz.laysNm216 n c w
open Go.RowKit Go.Lib in
theorem Tryz.slices_Clone_string_zero (a : Addr) (c : Nat) (w : World) :
 Calls Tryz.prog 29 #[.slice (some a) 0 c] w fun e w'=>∃ v',e = .returned v' ∧ w'.ownsRow w.heap.size 9 1 v' 0 [] ∧ v' ≠ .slice none 0 0 ∧ Below w.heap.size w w':=Any.slices_Clone_string_zero Tryz.laysNm216 a c w
def Tryz.laysNm220_ren : Go.Shelf.Ren:=⟨fun | 20=>36 | n=>n,fun | 22=>35 | 3=>3 | 4=>4 | 0=>0 | n=>n,fun | n=>n⟩
theorem Tryz.laysNm220 : Go.Proofs.Lays2.n20 Tryz.prog Tryz.laysNm220_ren:={
 mixed:=by kernel_rfl
 f20:=Tryz.func36.trans (congrArg some (by kernel_rfl))
 t0:=Tryz.underlying0
 a0:=Tryz.isAgg0
 z0:=Tryz.sizeOf0
 v0:=Tryz.zeroValue0
 t3:=Tryz.underlying3
 a3:=Tryz.isAgg3
 z3:=Tryz.sizeOf3
 v3:=Tryz.zeroValue3
 t4:=Tryz.underlying4
 a4:=Tryz.isAgg4
 z4:=Tryz.sizeOf4
 v4:=Tryz.zeroValue4
 t22:=Tryz.underlying35
 a22:=Tryz.isAgg35
 z22:=Tryz.sizeOf35
 v22:=Tryz.zeroValue35
 i3:=by kernel_rfl }
open Go.RowKit Go.Lib Go.Sort in
open Go.RowKit Go.Lib Go.Sort in
theorem Tryz.slices_Compact_int (blk off cap : Nat) (zs : List Int) (w : World) (hH : Holds (Value.int .i64) w blk off zs.toArray) (hsz : zs.length ≤ 9223372036854775807) (hcap : zs.length ≤ cap) :
 Calls Tryz.prog 36 #[.slice (some ⟨blk,off,none⟩) zs.length cap] w fun e w'=>e = .returned (.slice (some ⟨blk,off,none⟩) (Lib.compact zs).length cap) ∧ ∃ q,w' = putRow (Value.int .i64) (Sort.ahead w q) blk off (Lib.compact zs ++ List.replicate (zs.length - (Lib.compact zs).length) 0).toArray:=Any.slices_Compact_int Tryz.laysNm220 blk off cap zs w hH hsz hcap
open Go.RowKit Go.Lib Go.Sort in
theorem Tryz.slices_Compact_int_empty (a : Option Addr) (cap : Nat) (w : World) :
 Calls Tryz.prog 36 #[.slice a 0 cap] w fun e w'=>e = .returned (.slice a 0 cap) ∧ w' = w:=Any.slices_Compact_int_empty Tryz.laysNm220 a cap w
def Tryz.lays194_ren : Go.Shelf.Ren:=⟨fun | 194=>53 | n=>n,fun | 31=>26 | 9=>9 | 3=>3 | 4=>4 | 0=>0 | n=>n,fun | n=>n⟩
theorem Tryz.lays194 : Go.Proofs.Lays.n194 Tryz.prog Tryz.lays194_ren:={
 mixed:=by kernel_rfl
 f194:=Tryz.func53.trans (congrArg some (by kernel_rfl))
 t0:=Tryz.underlying0
 a0:=Tryz.isAgg0
 z0:=Tryz.sizeOf0
 v0:=Tryz.zeroValue0
 t3:=Tryz.underlying3
 a3:=Tryz.isAgg3
 z3:=Tryz.sizeOf3
 v3:=Tryz.zeroValue3
 t4:=Tryz.underlying4
 a4:=Tryz.isAgg4
 z4:=Tryz.sizeOf4
 v4:=Tryz.zeroValue4
 t9:=Tryz.underlying9
 a9:=Tryz.isAgg9
 z9:=Tryz.sizeOf9
 v9:=Tryz.zeroValue9
 t31:=Tryz.underlying26
 a31:=Tryz.isAgg26
 z31:=Tryz.sizeOf26
 v31:=Tryz.zeroValue26 }
open Go.RowKit Go.Lib Go.Sort in
open Go.RowKit Go.Lib Go.Sort in
theorem Tryz.slices_Compact_string (blk off cap : Nat) (zs : List (List UInt8)) (w : World) (hH : Holds encStr w blk off zs.toArray) (hsz : zs.length ≤ 9223372036854775807) (hcap : zs.length ≤ cap) :
 Calls Tryz.prog 53 #[.slice (some ⟨blk,off,none⟩) zs.length cap] w fun e w'=>e = .returned (.slice (some ⟨blk,off,none⟩) (Lib.compact zs).length cap) ∧ ∃ q,w' = putRow encStr (Sort.ahead w q) blk off (Lib.compact zs ++ List.replicate (zs.length - (Lib.compact zs).length) []).toArray:=Any.slices_Compact_string Tryz.lays194 blk off cap zs w hH hsz hcap
open Go.RowKit Go.Lib Go.Sort in
theorem Tryz.slices_Compact_string_empty (a : Option Addr) (cap : Nat) (w : World) :
 Calls Tryz.prog 53 #[.slice a 0 cap] w fun e w'=>e = .returned (.slice a 0 cap) ∧ w' = w:=Any.slices_Compact_string_empty Tryz.lays194 a cap w
open Go.RowKit Go.Sort in
theorem Tryz.slices_Sort_string_none (p : Option Addr) (cap : Nat) (w : World) :
 Calls Tryz.prog 52 #[.slice p 0 cap] w fun e w'=>e = .returned (.tuple #[]) ∧ w' = w:=Any.slices_Sort_string_none Tryz.lays190 p cap w
open Go.RowKit Go.Sort in
theorem Tryz.slices_Sort_int_none (p : Option Addr) (cap : Nat) (w : World) :
 Calls Tryz.prog 57 #[.slice p 0 cap] w fun e w'=>e = .returned (.tuple #[]) ∧ w' = w:=Any.slices_Sort_int_none Tryz.lays189 p cap w
def Tryz.keysL_ren : Go.Shelf.Ren:=⟨fun | 7=>70 | 10=>93 | n=>n,fun | 23=>94 | 26=>3 | 3=>3 | 28=>113 | 0=>0 | 27=>112 | 33=>116 | 4=>4 | n=>n,fun | n=>n⟩
theorem Tryz.keysL : Go.Proofs.SlLaysZI.n7 Tryz.prog Tryz.keysL_ren:={
 mixed:=by kernel_rfl
 f7:=⟨Tryz.f70.name,by decide,Tryz.func70.trans (congrArg some (by kernel_rfl))⟩
 f10:=⟨Tryz.f93.name,by decide,Tryz.func93.trans (congrArg some (by kernel_rfl))⟩
 t0:=Tryz.underlying0
 a0:=Tryz.isAgg0
 z0:=Tryz.sizeOf0
 v0:=Tryz.zeroValue0
 t4:=Tryz.underlying4
 a4:=Tryz.isAgg4
 z4:=Tryz.sizeOf4
 v4:=Tryz.zeroValue4
 t23:=Tryz.underlying94
 a23:=Tryz.isAgg94
 z23:=Tryz.sizeOf94
 v23:=Tryz.zeroValue94
 t26:=Tryz.underlying3
 a26:=Tryz.isAgg3
 z26:=Tryz.sizeOf3
 v26:=Tryz.zeroValue3
 t27:=Tryz.underlying112
 a27:=Tryz.isAgg112
 z27:=Tryz.sizeOf112
 v27:=Tryz.zeroValue112
 t28:=Tryz.underlying113
 a28:=Tryz.isAgg113
 z28:=Tryz.sizeOf113
 v28:=Tryz.zeroValue113
 t33:=Tryz.underlying116
 a33:=Tryz.isAgg116
 z33:=Tryz.sizeOf116
 v33:=Tryz.zeroValue116 }
def Tryz.sortedL_ren : Go.Shelf.Ren:=⟨fun | 6=>34 | 8=>56 | 9=>57 | 11=>75 | 13=>74 | 12=>76 | 23=>103 | 24=>104 | 14=>105 | 15=>106 | 16=>107 | 17=>108 | 18=>109 | 19=>110 | 20=>111 | 21=>112 | 22=>113 | 25=>133 | 26=>128 | 27=>129 | 28=>134 | 29=>135 | 30=>136 | 31=>146 | n=>n,fun | 26=>3 | 28=>113 | 24=>35 | 0=>0 | 3=>3 | 37=>118 | 48=>23 | 50=>201 | 4=>4 | 40=>194 | 39=>193 | 45=>125 | 5=>5 | 9=>9 | 51=>219 | 55=>223 | 57=>232 | 58=>233 | 33=>116 | n=>n,fun | n=>n⟩
theorem Tryz.sortedL : Go.Proofs.SlLaysZI.n6 Tryz.prog Tryz.sortedL_ren:={
 mixed:=by kernel_rfl
 f6:=⟨Tryz.f34.name,by decide,Tryz.func34.trans (congrArg some (by kernel_rfl))⟩
 f8:=⟨Tryz.f56.name,by decide,Tryz.func56.trans (congrArg some (by kernel_rfl))⟩
 f11:=⟨Tryz.f75.name,by decide,Tryz.func75.trans (congrArg some (by kernel_rfl))⟩
 t0:=Tryz.underlying0
 a0:=Tryz.isAgg0
 z0:=Tryz.sizeOf0
 v0:=Tryz.zeroValue0
 t24:=Tryz.underlying35
 a24:=Tryz.isAgg35
 z24:=Tryz.sizeOf35
 v24:=Tryz.zeroValue35
 t26:=Tryz.underlying3
 a26:=Tryz.isAgg3
 z26:=Tryz.sizeOf3
 v26:=Tryz.zeroValue3
 t28:=Tryz.underlying113
 a28:=Tryz.isAgg113
 z28:=Tryz.sizeOf113
 v28:=Tryz.zeroValue113
 i26:=by kernel_rfl }
end Go.Proofs
namespace Go.Proofs.YtihfcjioilmmjaaGreat
open Go Go.RowKit
def Glob (w : World) : Prop:=∃ m,w.cell? ⟨0,0,none⟩ = some (.int .i64 m)
theorem Glob.ext {w w' : World} (h : Glob w) (he : Ext w w') : Glob w':=let ⟨m,h⟩:=h;⟨m,he.cell' h⟩
def stroke : List UInt8:=[47]
def wholeOf (s : ByteArray) : ByteArray:=⟨(Lib.cut s.data.toList stroke).1.toArray⟩
def partOf (s : ByteArray) : ByteArray:=⟨(Lib.cut s.data.toList stroke).2.1.toArray⟩
def isPart (s : ByteArray) : Bool:=(Lib.cut s.data.toList stroke).2.2
def subj (s : ByteArray) : Bool:=nm (wholeOf s) && (!isPart s || nm (partOf s))
theorem cut_any (s : ByteArray) (w : World) (hs : s.size < 4294967281) (hg : Glob w) :
  Calls Tryz.prog 61 #[.string s,.string ⟨#[47]⟩] w fun e w'=>e = .returned (.tuple #[.string (wholeOf s),.string (partOf s),.bool (isPart s)]) ∧ Ext w w':=by
 obtain ⟨m,hm⟩:=hg
 refine (Tryz.strings_Cut s ⟨#[47]⟩ m w hs hm).mono ?_
 rintro e w' ⟨rfl,n,rfl⟩
 exact ⟨rfl,below_drewN (Below.refl _ _) n⟩
theorem size_toArray (l : List UInt8) : (⟨l.toArray⟩ : ByteArray).size = l.length:=by show l.toArray.size = _;simp
theorem cut_sizes (s : ByteArray) : (wholeOf s).size ≤ s.size ∧ (partOf s).size ≤ s.size:=by
 have hs : s.size = s.data.toList.length:=by show s.data.size = _;simp
 have e1 : (wholeOf s).size = (Lib.cut s.data.toList stroke).1.length:=size_toArray _
 have e2 : (partOf s).size = (Lib.cut s.data.toList stroke).2.1.length:=size_toArray _
 rw [e1,e2,hs]
 generalize s.data.toList = l
 unfold Lib.cut
 split <;> simp <;> omega
set_option maxHeartbeats 1000000 in
set_option maxRecDepth 100000 in
theorem isSubject_any (s : ByteArray) (w : World) (hs : s.size < 4294967281) (hg : Glob w) :
  Calls Tryz.prog 44 #[.string s] w fun e w'=>e = .returned (.bool (subj s)) ∧ Ext w w':=by
 have hz:=cut_sizes s
 have hml : (4294967281 : Nat) < maxLen:=by decide
 obtain ⟨c1,h1⟩ : ∃ c,nm (wholeOf s) = c:=⟨_,rfl⟩
 obtain ⟨c2,h2⟩ : ∃ c,isPart s = c:=⟨_,rfl⟩
 obtain ⟨c3,h3⟩ : ∃ c,nm (partOf s) = c:=⟨_,rfl⟩
 have hq : subj s = (c1 && (!c2 || c3)):=by rw [← h1,← h2,← h3];rfl
 rw [hq]
 clear hq
 have HS:=Lib.hid hs
 have HZ:=Lib.hid hz
 have H1:=Lib.hid h1
 have H3:=Lib.hid h3
 clear hs hz h1 h3
 go_enter Tryz.func44,Tryz.ntmps44
 go_wp2_with fail
 refine (cut_any s _ HS.out hg).mono ?_
 rintro e w1 ⟨rfl,hx⟩
 rw [h2]
 clear h2
 go_wp2_with fail
 refine (isName_any (wholeOf s) _ (by have:=HZ.out;have:=HS.out;omega)).mono ?_
 rintro e w2 ⟨rfl,rfl⟩
 rw [H1.out]
 go_wp2_with fail
 ·rename_i hx1 hx2 _ _
  subst hx1 hx2
  refine (isName_any (partOf s) _ (by have:=HZ.out;have:=HS.out;omega)).mono ?_
  rintro e w2 ⟨rfl,rfl⟩
  rw [H3.out]
  go_wp2_with fail
  go_ret
  exact ⟨rfl,hx⟩
 ·rename_i hx1 hx2
  simp only [Bool.not_eq_true] at hx2
  subst hx1 hx2
  go_ret
  exact ⟨rfl,hx⟩
 ·rename_i hx1
  simp only [Bool.not_eq_true] at hx1
  subst hx1
  go_ret
  exact ⟨rfl,hx⟩
theorem owns_form {w : World} {base : Nat} {e : TypeId} {k : Nat} {v : Value} {n : Nat} {xs : List Value} (h : w.ownsRow base e k v n xs) : ∃ a cap,v = .slice a n cap:=by
 obtain ⟨hl,h⟩:=h
 rcases h with ⟨rfl,rfl⟩ | ⟨g,cap,cur,rfl,_⟩
 ·exact ⟨none,0,rfl⟩
 ·exact ⟨_,cap,rfl⟩
theorem owns_mono {w : World} {base base' : Nat} {e : TypeId} {k : Nat} {v : Value} {n : Nat} {xs : List Value} (h : w.ownsRow base e k v n xs) (hb : base' ≤ base) : w.ownsRow base' e k v n xs:=by
 obtain ⟨hl,h⟩:=h
 refine ⟨hl,?_⟩
 rcases h with h | ⟨g,cap,cur,h1,h2,h3⟩
 ·exact .inl h
 ·exact .inr ⟨g,cap,cur,h1,Nat.le_trans hb h2,h3⟩
theorem owns_keep {w w' : World} {base : Nat} {e : TypeId} {k : Nat} {v : Value} {n : Nat} {xs : List Value} (h : w.ownsRow base e k v n xs) (hk : ∀ g cs,base ≤ g → w.heap[g]? = some (.cells cs e (0,0)) → w'.heap[g]? = w.heap[g]?) : w'.ownsRow base e k v n xs:=by
 obtain ⟨hl,h⟩:=h
 refine ⟨hl,?_⟩
 rcases h with h | ⟨g,cap,cur,h1,h2,h3,h4⟩
 ·exact .inl h
 ·exact .inr ⟨g,cap,cur,h1,h2,(hk g cur h2 h3).trans h3,h4⟩
theorem clone_any (v : Value) (l : List ByteArray) (w : World) (h : StrsAt w v l) (hb : l.length * 16 ≤ 140737488355328) :
  Calls Tryz.prog 29 #[v] w fun e w'=>∃ v',e = .returned v' ∧ w'.ownsRow w.heap.size 9 1 v' l.length (l.map Value.string) ∧ Ext w w':=by
 obtain ⟨⟨p,cap,rfl,hcap,hlen,_,hel⟩,hsz⟩:=h
 by_cases hn : l.length = 0
 ·obtain rfl:=List.eq_nil_of_length_eq_zero hn
  cases p with
  | none=>
   refine (Tryz.slices_Clone_string_nil _ cap w).mono ?_
   rintro e w' ⟨rfl,rfl⟩
   exact ⟨_,rfl,⟨rfl,.inl ⟨rfl,rfl⟩⟩,ext_refl _⟩
  | some a=>
   refine (Tryz.slices_Clone_string_zero a cap w).mono ?_
   rintro e w' ⟨v',rfl,h1,_,h2⟩
   exact ⟨v',rfl,h1,h2⟩
 ·have h0 : (l.map Value.string)[0]? = some (Value.string (l[0]'(by omega))):=by simp
  obtain ⟨b,off,rfl,_⟩:=hel 0 _ h0
  have hc : ∀ j,j < l.length → w.cell? ⟨b,off + j,none⟩ = some (.string (l.getD j ByteArray.empty)):=by
   intro j hj
   obtain ⟨b',off',e,hcell⟩:=hel j (.string l[j]) (by simp [hj])
   simp only [Option.some.injEq,Addr.mk.injEq] at e
   obtain ⟨rfl,rfl,_⟩:=e
   rw [hcell];simp [List.getD,hj]
  refine (Tryz.slices_Clone_string b off l.length cap l w (Nat.le_refl _) hb hc).mono ?_
  rintro e w' ⟨v',rfl,h1,_,h2⟩
  rw [List.take_length] at h1
  exact ⟨v',rfl,h1,h2⟩
def factVal (f : Fct) (v : Value) : Value:=.agg (factCells f v).toArray
set_option maxHeartbeats 1000000 in
set_option maxRecDepth 100000 in
theorem own_any (f : Fct) (v : Value) (w : World) (h : StrsAt w v f.values) (hb : f.values.length * 16 ≤ 140737488355328) :
  Calls Tryz.prog 54 #[factVal f v] w fun e w'=>∃ v',e = .returned (factVal f v') ∧ w'.ownsRow w.heap.size 9 1 v' f.values.length (f.values.map Value.string) ∧ Ext w w':=by
 unfold factVal factCells
 go_enter Tryz.func54,Tryz.ntmps54
 go_wp2_with fail
 refine (clone_any v f.values _ (h.ext (by exact bel)) hb).mono ?_
 rintro e w1 ⟨v',rfl,hown,hx⟩
 obtain ⟨p,cap,rfl⟩:=owns_form hown
 replace hown:=owns_mono (base':=w.heap.size + 2) hown (by rw [World.size_alloc,World.size_alloc];exact Nat.le_refl _)
 have hx0 : Below w.heap.size w w1:=Below.trans (by exact bel) (Below.mono hx (by rw [World.size_alloc,World.size_alloc];exact Nat.le_add_right _ 2))
 have HO:=Lib.hid hown
 clear hown
 have hx1 : w1.heap[w.heap.size]? = some (.cells #[.string f.subject,.string f.attr,v,.int .i64 f.low,.int .i64 f.high] 46 (0,0)):=hx.obj (by simp only [heap_drawn_get,heap_drew_get,heap_setCell_get,heap_alloc_get,World.size_alloc,World.size_setCell,size_drawn,putObj_get,putObj_size];(repeat (first | rw [if_pos trivial] | rw [if_pos rfl] | rw [if_neg (by omega)] | rw [if_pos (by omega)])))
 have hx2 : w1.heap[w.heap.size + 1]? = some (.cells #[.string ⟨#[]⟩,.string ⟨#[]⟩,.slice none 0 0,.int .i64 0,.int .i64 0] 46 (0,0)):=hx.obj (by simp only [heap_drawn_get,heap_drew_get,heap_setCell_get,heap_alloc_get,World.size_alloc,World.size_setCell,size_drawn,putObj_get,putObj_size];(repeat (first | rw [if_pos trivial] | rw [if_pos rfl] | rw [if_neg (by omega)] | rw [if_pos (by omega)])))
 have c0 : w1.cell? ⟨w.heap.size,0,none⟩ = some (.string f.subject):=cell_of hx1 0
 have fc0:=frozen_of hx1 0
 have c1 : w1.cell? ⟨w.heap.size,1,none⟩ = some (.string f.attr):=cell_of hx1 1
 have fc1:=frozen_of hx1 1
 have c2 : w1.cell? ⟨w.heap.size,2,none⟩ = some (v):=cell_of hx1 2
 have fc2:=frozen_of hx1 2
 have c3 : w1.cell? ⟨w.heap.size,3,none⟩ = some (.int .i64 f.low):=cell_of hx1 3
 have fc3:=frozen_of hx1 3
 have c4 : w1.cell? ⟨w.heap.size,4,none⟩ = some (.int .i64 f.high):=cell_of hx1 4
 have fc4:=frozen_of hx1 4
 have d0 : w1.cell? ⟨w.heap.size + 1,0,none⟩ = some (.string ⟨#[]⟩):=cell_of hx2 0
 have fd0:=frozen_of hx2 0
 have d1 : w1.cell? ⟨w.heap.size + 1,1,none⟩ = some (.string ⟨#[]⟩):=cell_of hx2 1
 have fd1:=frozen_of hx2 1
 have d2 : w1.cell? ⟨w.heap.size + 1,2,none⟩ = some (.slice none 0 0):=cell_of hx2 2
 have fd2:=frozen_of hx2 2
 have d3 : w1.cell? ⟨w.heap.size + 1,3,none⟩ = some (.int .i64 0):=cell_of hx2 3
 have fd3:=frozen_of hx2 3
 have d4 : w1.cell? ⟨w.heap.size + 1,4,none⟩ = some (.int .i64 0):=cell_of hx2 4
 have fd4:=frozen_of hx2 4
 have HX1:=Lib.hid hx1
 have HX2:=Lib.hid hx2
 clear hx1 hx2 hx
 go_wp2_with fail
 refine bodyPost_ret (v:=.agg #[.string f.subject,.string f.attr,.slice p f.values.length cap,.int .i64 f.low,.int .i64 f.high]) (by simp [results,Tryz.results54,go_sem,c0,c1,c2,c3,c4,d0,d1,d2,d3,d4]) rfl ⟨.slice p f.values.length cap,rfl,?_,?_⟩
 rotate_left
 ·exact bel
 refine owns_mono (base:=w.heap.size + 2) ?_ (by omega)
 refine owns_keep HO.out fun g cs hg _=>?_
 simp only [heap_drawn_get,heap_drew_get,heap_setCell_get,heap_alloc_get,World.size_alloc,World.size_setCell,size_drawn,putObj_get,putObj_size];(repeat (first | rw [if_pos trivial] | rw [if_pos rfl] | rw [if_neg (by omega)] | rw [if_pos (by omega)]))
end Go.Proofs.YtihfcjioilmmjaaGreat
namespace Go.Proofs.YtihfcjioilmmjaaGreat
open Go Go.RowKit
def MapV (w : World) (o : Option Nat) (l : List (Int × Value)) : Prop:=(o = none ∧ l = []) ∨ ∃ b,o = some b ∧ MapIs (Value.int .i64) w b l
theorem MapV.ext {w w' : World} {o : Option Nat} {l : List (Int × Value)} (h : MapV w o l) (he : Ext w w') : MapV w' o l:=by
 rcases h with h | ⟨b,h1,h2⟩
 ·exact .inl h
 ·exact .inr ⟨b,h1,h2.ext he⟩
theorem MapV.lookup {w : World} {o : Option Nat} {l : List (Int × Value)} (h : MapV w o l) (n : Int) :
  (Instr.lookup 94 (.map o) (.int .i64 n) true).run Tryz.prog w = .ok (.tuple #[(look l n).getD (.int .i64 0),.bool (look l n).isSome]) w:=by
 rcases h with ⟨rfl,rfl⟩ | ⟨b,rfl,h2⟩
 ·have ht : Tryz.prog.underlying 94 = some (.map 3 3):=by kernel_rfl
  have hk : Tryz.prog.underlying 3 = some (.int .i64):=by kernel_rfl
  have hz : (zeroValue 3).run Tryz.prog w = .ok (.int .i64 0) w:=by kernel_rfl
  have hck : ∀ b,(Instr.checkKey b 10000 3 (.int .i64 n)).run Tryz.prog w = .ok () w:=fun b=>by unfold Instr.checkKey;simp [run_underlying hk,Result.andThen]
  have hfk : (Instr.findKey 3 (.int .i64 n) []).run Tryz.prog w = .ok none w:=by simp [Instr.findKey,run_underlying hk,Instr.findNow,Result.andThen]
  unfold Instr.lookup
  simp [run_underlying ht,look,hz,Result.andThen,hck,hfk]
 ·exact run_lookup2 (P:=Tryz.prog) (T:=94) (K:=3) (E:=3) (z:=.int .i64 0) (k:=n) (by kernel_rfl) h2 (finds_int (by kernel_rfl) w _ _) (by kernel_rfl)
structure FR where
 subject : ByteArray
 attr : Attr
 col : Nat
 st : St
structure Ver where
 added : List (Int × Value)
 wd : List (Int × Value)
structure Rec where
 cols : List (Attr × Nat)
 vers : List Ver
 facts : List FR
def Ver.holds (v : Ver) (n : Int) : Bool:=(look v.added n).isSome && !(look v.wd n).isSome
def ColK (w : World) (cb : Nat) (a : Attr) : Prop:=
 ∃ vals at_ pb,w.heap[cb]? = some (.cells #[.string a.name,vals,.int .i64 a.low,.int .i64 a.high,.int .i64 at_,.map (some pb)] 104 (0,0)) ∧ (∃ B,w.ownsRow B 9 1 vals a.values.length (a.values.map Value.string)) ∧ (∀ s ∈ a.values,s.size ≤ maxLen) ∧
  MapIs Value.string w pb (a.values.zipIdx.map fun x=>(x.1,.int .i64 (x.2 : Int)))
theorem ColK.colAt {w : World} {cb : Nat} {a : Attr} (h : ColK w cb a) : ColAt w cb a:=by
 obtain ⟨v,t,pb,h1,⟨B,h2⟩,h3,h4⟩:=h
 exact ⟨v,t,pb,h1,⟨SlAt.of_owns h2,h3⟩,h4⟩
def frCells (f : FR) (x : List Value) : List Value:=[.string f.subject] ++ x ++ [encP f.col,.int .u64 f.st.bits,.int .i64 f.st.low,.int .i64 f.st.high]
structure RecOk (R : Rec) : Prop where
 vers : R.vers.length ≤ 200
 facts : R.facts.length ≤ 300
 one : 1 ≤ R.vers.length
 attrs : ∀ c ∈ R.cols,AttrOk c.1
 names : (R.cols.map (·.1.name)).Nodup
 few : R.cols.length ≤ 12
 keys : ∀ v ∈ R.vers,(v.added.map (·.1)).Nodup ∧ (v.wd.map (·.1)).Nodup ∧ ∀ n : Int,n ∈ v.added.map (·.1) → 1 ≤ n ∧ n ≤ (R.facts.length : Int)
 fact : ∀ f ∈ R.facts,(f.attr,f.col) ∈ R.cols ∧ subj f.subject = true ∧ f.subject.size < 4294967281 ∧ f.st.bits < 256 ∧ i64ok f.st.low ∧ i64ok f.st.high
def FourOk (x : List Value) : Prop:=∃ s p n c lo hi,x = [.string s,.slice p n c,.int .i64 lo,.int .i64 hi]
structure RecAt (B : Nat) (w : World) (rb : Nat) (R : Rec) (cm : Nat) (vv fv : Value) (os : List (Option Nat × Option Nat)) (xs : List (List Value)) : Prop where
 base : B ≤ rb
 blk : w.heap[rb]? = some (.cells #[.map (some cm),vv,fv] 100 (0,0))
 cols : MapIs Value.string w cm (R.cols.map fun c=>(c.1.name,encP c.2))
 colAt : ∀ c ∈ R.cols,ColK w c.2 c.1
 vers : w.ownsRow B 96 2 vv R.vers.length (os.flatMap fun o=>[.map o.1,.map o.2])
 verLen : os.length = R.vers.length
 verAt : ∀ (i : Nat) o v,os[i]? = some o → R.vers[i]? = some v → MapV w o.1 v.added ∧ MapV w o.2 v.wd
 facts : w.ownsRow B 122 9 fv R.facts.length ((R.facts.zip xs).flatMap fun x=>frCells x.1 x.2)
 factLen : xs.length = R.facts.length
 four : ∀ x ∈ xs,FourOk x
 ok : RecOk R
set_option maxHeartbeats 1000000 in
set_option maxRecDepth 100000 in
theorem has_any (rb : Nat) (p : Option Addr) (n cap : Nat) (v : Int) (w : World) (h : w.cell? ⟨rb,1,none⟩ = some (.slice p n cap)) :
  Calls Tryz.prog 37 #[encP rb,.int .i64 v] w fun e w'=>e = .returned (.bool (decide (0 ≤ v) && decide (v < n))) ∧ w = w':=by
 obtain ⟨c1,h1⟩ : ∃ c,decide (0 ≤ v) = c:=⟨_,rfl⟩
 obtain ⟨c2,h2⟩ : ∃ c,decide (v < n) = c:=⟨_,rfl⟩
 rw [h1,h2]
 unfold encP
 go_enter Tryz.func37,Tryz.ntmps37
 go_wp2_with fail
 all_goals (rename_i hx1;(try simp only [Bool.not_eq_true] at hx1);subst hx1;go_ret;exact ⟨rfl,by first | rfl | exact bel⟩)
set_option maxHeartbeats 1000000 in
set_option maxRecDepth 100000 in
theorem holds_any (oa od : Option Nat) (v : Ver) (n : Int) (w : World) (ha : MapV w oa v.added) (hd : MapV w od v.wd) :
  Calls Tryz.prog 42 #[.agg #[.map oa,.map od],.int .i64 n] w fun e w'=>e = .returned (.bool (v.holds n)) ∧ Ext w w':=by
 have l1 : ∀ W,Ext w W → (Instr.lookup 94 (.map oa) (.int .i64 n) true).run Tryz.prog W = .ok (.tuple #[(look v.added n).getD (.int .i64 0),.bool (look v.added n).isSome]) W:=fun W hW=>(ha.ext hW).lookup n
 have l2 : ∀ W,Ext w W → (Instr.lookup 94 (.map od) (.int .i64 n) true).run Tryz.prog W = .ok (.tuple #[(look v.wd n).getD (.int .i64 0),.bool (look v.wd n).isSome]) W:=fun W hW=>(hd.ext hW).lookup n
 have hv : v.holds n = ((look v.added n).isSome && !(look v.wd n).isSome):=rfl
 rw [hv]
 clear hv ha hd
 generalize (look v.added n).isSome = c1 at *
 generalize (look v.wd n).isSome = c2 at *
 generalize (look v.added n).getD (.int .i64 0) = v1 at *
 generalize (look v.wd n).getD (.int .i64 0) = v2 at *
 go_enter Tryz.func42,Tryz.ntmps42
 have k1:=l1 (w.alloc (.cells #[.map oa,.map od] 96 (0,0))) (by exact bel)
 have k2:=l2 (w.alloc (.cells #[.map oa,.map od] 96 (0,0))) (by exact bel)
 clear l1 l2
 go_wp2_with fail
 all_goals (rename_i hx1;(try simp only [Bool.not_eq_true] at hx1);subst hx1;go_ret;exact ⟨rfl,by first | rfl | exact bel⟩)
def RecAt.has (R : Rec) (v : Int) : Bool:=decide (0 ≤ v) && decide (v < R.vers.length)
set_option maxHeartbeats 1000000 in
set_option maxRecDepth 100000 in
theorem checkVersion_any (rb : Nat) (p : Option Addr) (n cap : Nat) (v : Int) (w : World) (h : w.cell? ⟨rb,1,none⟩ = some (.slice p n cap)) :
  Calls Tryz.prog 43 #[encP rb,.int .i64 v] w fun e w'=>e = .returned (.int .i64 (if decide (0 ≤ v) && decide (v < n) then 0 else 110)) ∧ w = w':=by
 have H:=Lib.hid h
 obtain ⟨c1,h1⟩ : ∃ c,(decide (0 ≤ v) && decide (v < n)) = c:=⟨_,rfl⟩
 rw [h1]
 have H1:=Lib.hid h1
 clear h1
 unfold encP
 go_enter Tryz.func43,Tryz.ntmps43
 go_wp2_with fail
 refine (has_any rb p n cap v w h).mono ?_
 rintro e w1 ⟨rfl,rfl⟩
 rw [H1.out]
 cases c1 <;> (go_wp2_with fail) <;> (go_ret;exact ⟨rfl,rfl⟩)
def colOf (R : Rec) (k : ByteArray) : Option (Attr × Nat):=R.cols.find? fun c=>decide (c.1.name = k)
theorem look_cols (k : ByteArray) : ∀ l : List (Attr × Nat),look (l.map fun c=>(c.1.name,encP c.2)) k = (l.find? fun c=>decide (c.1.name = k)).map fun c=>encP c.2
 | []=>rfl
 | c :: r=>by
  simp only [List.map_cons,look,List.find?_cons]
  by_cases h : c.1.name = k
  ·simp [h]
  ·simp [h,look_cols k r]
theorem colOf_mem {R : Rec} {k : ByteArray} {c : Attr × Nat} (h : colOf R k = some c) : c ∈ R.cols ∧ c.1.name = k:=by
 unfold colOf at h
 exact ⟨List.mem_of_find?_eq_some h,by simpa using List.find?_some h⟩
theorem lookup_col {B : Nat} {w : World} {rb : Nat} {R : Rec} {cm : Nat} {vv fv : Value} {os : List (Option Nat × Option Nat)} {xs : List (List Value)} (h : RecAt B w rb R cm vv fv os xs) {W : World} (he : Ext w W) (k : ByteArray) :
  (Instr.lookup 93 (.map (some cm)) (.string k) true).run Tryz.prog W = .ok (.tuple #[match colOf R k with | some c=>encP c.2 | none=>.pointer none,.bool (colOf R k).isSome]) W:=by
 have:=run_lookup2 (P:=Tryz.prog) (T:=93) (K:=9) (E:=101) (z:=.pointer none) (k:=k) (by kernel_rfl) (h.cols.ext he) (finds_string (by kernel_rfl) W _ _) (by kernel_rfl)
 rw [look_cols] at this
 rw [this]
 unfold colOf
 cases List.find? (fun c=>decide (c.1.name = k)) R.cols <;> rfl
def checkF (R : Rec) (f : Fct) : Option FR:=
 match colOf R f.attr with
 | none=>none
 | some c=>if subj f.subject then (if (readF c.1 f.values f.low f.high).2 then some ⟨f.subject,c.1,c.2,(readF c.1 f.values f.low f.high).1⟩ else none) else none
def noFR : Value:=.agg #[.string ⟨#[]⟩,.string ⟨#[]⟩,.slice none 0 0,.int .i64 0,.int .i64 0,.pointer none,.int .u64 0,.int .i64 0,.int .i64 0]
set_option maxHeartbeats 1000000 in
set_option maxRecDepth 100000 in
theorem check_no {B : Nat} {w : World} {rb : Nat} {R : Rec} {cm : Nat} {vv fv : Value} {os : List (Option Nat × Option Nat)} {xs : List (List Value)} (h : RecAt B w rb R cm vv fv os xs) (hg : Glob w) (f : Fct) (v : Value)
  (hf : StrsAt w v f.values) (hs : f.subject.size < 4294967281) (hlen : f.values.length * 16 ≤ 140737488355328) (hc : colOf R f.attr = none) :
  Calls Tryz.prog 39 #[encP rb,factVal f v] w fun e w'=>e = .returned (.tuple #[noFR,.int .i64 112]) ∧ Ext w w':=by
 have hlk : ∀ W,Ext w W → (Instr.lookup 93 (.map (some cm)) (.string f.attr) true).run Tryz.prog W = .ok (.tuple #[.pointer none,.bool false]) W:=fun W hW=>by
  rw [lookup_col h hW,hc];rfl
 have hr0 : w.cell? ⟨rb,0,none⟩ = some (.map (some cm)):=cell_of h.blk 0
 have hrb:=heap_lt h.blk
 have hall : ∃ W1,W1 = (w.alloc (.cells #[.string f.subject,.string f.attr,v,.int .i64 f.low,.int .i64 f.high] 46 (0,0))).alloc (.cells #[.string ⟨#[]⟩,.string ⟨#[]⟩,.slice none 0 0,.int .i64 0,.int .i64 0,.pointer none,.int .u64 0,.int .i64 0,.int .i64 0] 122 (0,0)):=⟨_,rfl⟩
 obtain ⟨W1,hW1⟩:=hall
 have hx : Ext w W1:=by rw [hW1];exact bel
 have hx1 : W1.heap[w.heap.size]? = some (.cells #[.string f.subject,.string f.attr,v,.int .i64 f.low,.int .i64 f.high] 46 (0,0)):=by rw [hW1];simp only [heap_drawn_get,heap_drew_get,heap_setCell_get,heap_alloc_get,World.size_alloc,World.size_setCell,size_drawn,putObj_get,putObj_size];(repeat (first | rw [if_pos trivial] | rw [if_pos rfl] | rw [if_neg (by omega)] | rw [if_pos (by omega)]))
 have hx2 : W1.heap[w.heap.size + 1]? = some (.cells #[.string ⟨#[]⟩,.string ⟨#[]⟩,.slice none 0 0,.int .i64 0,.int .i64 0,.pointer none,.int .u64 0,.int .i64 0,.int .i64 0] 122 (0,0)):=by rw [hW1];simp only [heap_drawn_get,heap_drew_get,heap_setCell_get,heap_alloc_get,World.size_alloc,World.size_setCell,size_drawn,putObj_get,putObj_size];(repeat (first | rw [if_pos trivial] | rw [if_pos rfl] | rw [if_neg (by omega)] | rw [if_pos (by omega)]))
 have hr1 : W1.cell? ⟨rb,0,none⟩ = some (.map (some cm)):=hx.cell' hr0
 have HX1:=Lib.hid hx1
 have HX2:=Lib.hid hx2
 clear hx1 hx2 hr0
 unfold factVal factCells encP
 go_enter Tryz.func39,Tryz.ntmps39
 go_wp2_with fail
 rw [← hW1]
 have HW:=Lib.hid hW1
 clear hW1
 refine Rt.wp_region_rt (by kernel_rfl) [0,1,2,3,4,5,6,7,8,9,10,11] [] [] [0,1,3,7,0,16,63,127,255,255,511,2047] (by kernel_rfl) (fun _ W=>Ext W1 W) ?_ ?_
 ·exact below_drawn (ext_refl _) _
 iterate 3 (refine Rt.rs_sil rfl rfl rfl (fun K hK=>?_);go_simp;refine hK _ ?_;clear hK K)
 (refine Rt.rs_rd rfl rfl rfl ?_;apply Exists.intro;refine ⟨fun us' W hp hl hI=>?_,?_⟩;· (have c1:=Ext.cell' hI hr1;go_simp;rfl));simp only [Act.put,zA,zB,zC,zD,zE,zF]
 (refine Rt.rs_sil rfl rfl rfl (fun K hK=>?_);go_simp;refine hK _ ?_;clear hK K)
 (refine Rt.rs_rd rfl rfl rfl ?_;apply Exists.intro;refine ⟨fun us' W hp hl hI=>?_,?_⟩;· (have hx1:=Ext.obj hI HX1.out;have c1 : W.cell? ⟨w.heap.size,1,none⟩ = some (.string f.attr):=cell_of hx1 1;go_simp;rfl));simp only [Act.put,zA,zB,zC,zD,zE,zF]
 (refine Rt.rs_rd rfl rfl rfl ?_;apply Exists.intro;refine ⟨fun us' W hp hl hI=>?_,?_⟩;· (have hk:=hlk W (hx.trans' hI);go_simp;rfl));simp only [Act.put,zA,zB,zC,zD,zE,zF]
 iterate 5 (refine Rt.rs_sil rfl rfl rfl (fun K hK=>?_);go_simp;refine hK _ ?_;clear hK K)
 refine Rt.rs_nil (fun W hI=>?_)
 have hx1:=Ext.obj hI HX1.out
 have hx2:=Ext.obj hI HX2.out
 have c0 : W.cell? ⟨w.heap.size,0,none⟩ = some (.string f.subject):=cell_of hx1 0
 have fc0:=frozen_of hx1 0
 have c1 : W.cell? ⟨w.heap.size,1,none⟩ = some (.string f.attr):=cell_of hx1 1
 have fc1:=frozen_of hx1 1
 have c2 : W.cell? ⟨w.heap.size,2,none⟩ = some (v):=cell_of hx1 2
 have fc2:=frozen_of hx1 2
 have c3 : W.cell? ⟨w.heap.size,3,none⟩ = some (.int .i64 f.low):=cell_of hx1 3
 have fc3:=frozen_of hx1 3
 have c4 : W.cell? ⟨w.heap.size,4,none⟩ = some (.int .i64 f.high):=cell_of hx1 4
 have fc4:=frozen_of hx1 4
 have d0 : W.cell? ⟨w.heap.size + 1,0,none⟩ = some (.string ⟨#[]⟩):=cell_of hx2 0
 have fd0:=frozen_of hx2 0
 have d1 : W.cell? ⟨w.heap.size + 1,1,none⟩ = some (.string ⟨#[]⟩):=cell_of hx2 1
 have fd1:=frozen_of hx2 1
 have d2 : W.cell? ⟨w.heap.size + 1,2,none⟩ = some (.slice none 0 0):=cell_of hx2 2
 have fd2:=frozen_of hx2 2
 have d3 : W.cell? ⟨w.heap.size + 1,3,none⟩ = some (.int .i64 0):=cell_of hx2 3
 have fd3:=frozen_of hx2 3
 have d4 : W.cell? ⟨w.heap.size + 1,4,none⟩ = some (.int .i64 0):=cell_of hx2 4
 have fd4:=frozen_of hx2 4
 have d5 : W.cell? ⟨w.heap.size + 1,5,none⟩ = some (.pointer none):=cell_of hx2 5
 have fd5:=frozen_of hx2 5
 have d6 : W.cell? ⟨w.heap.size + 1,6,none⟩ = some (.int .u64 0):=cell_of hx2 6
 have fd6:=frozen_of hx2 6
 have d7 : W.cell? ⟨w.heap.size + 1,7,none⟩ = some (.int .i64 0):=cell_of hx2 7
 have fd7:=frozen_of hx2 7
 have d8 : W.cell? ⟨w.heap.size + 1,8,none⟩ = some (.int .i64 0):=cell_of hx2 8
 have fd8:=frozen_of hx2 8
 have HXX:=Lib.hid (hx.trans' hI)
 clear hx1 hx2 hI hlk
 go_wp2_with fail
 refine bodyPost_ret (v:=.tuple #[noFR,.int .i64 112]) (by simp [results,Tryz.results39,go_sem,d0,d1,d2,d3,d4,d5,d6,d7,d8,noFR]) rfl ⟨rfl,?_⟩
 have hx3:=HXX.out
 exact bel
def ChkI (w : World) (n m : Nat) (f : Fct) (v : Value) (cb : Nat) (s : St) (us : List Value) (W : World) : Prop:=
 Below n w W ∧ W.heap[n]? = some (.cells #[.string f.subject,.string f.attr,v,.int .i64 f.low,.int .i64 f.high] 46 (0,0)) ∧ W.heap[m]? = some (.cells #[.int .u64 s.bits,.int .i64 s.low,.int .i64 s.high] 120 (0,0)) ∧
 match us with
 | []=>W.heap[n + 1]? = some (.cells #[.string ⟨#[]⟩,.string ⟨#[]⟩,.slice none 0 0,.int .i64 0,.int .i64 0,.pointer none,.int .u64 0,.int .i64 0,.int .i64 0] 122 (0,0))
 | [u]=>(∃ p cap,u = .agg #[.string f.subject,.string f.attr,.slice p f.values.length cap,.int .i64 f.low,.int .i64 f.high]) ∧ W.heap[n + 1]? = some (.cells #[.string ⟨#[]⟩,.string ⟨#[]⟩,.slice none 0 0,.int .i64 0,.int .i64 0,.pointer none,.int .u64 0,.int .i64 0,.int .i64 0] 122 (0,0))
 | u :: _=>∃ p cap,u = .agg #[.string f.subject,.string f.attr,.slice p f.values.length cap,.int .i64 f.low,.int .i64 f.high] ∧ W.heap[n + 1]? = some (.cells #[.string f.subject,.string f.attr,.slice p f.values.length cap,.int .i64 f.low,.int .i64 f.high,.pointer (some ⟨cb,0,none⟩),.int .u64 s.bits,.int .i64 s.low,.int .i64 s.high] 122 (0,0))
set_option maxHeartbeats 4000000 in
set_option maxRecDepth 100000 in
theorem check_col {B : Nat} {w : World} {rb : Nat} {R : Rec} {cm : Nat} {vv fv : Value} {os : List (Option Nat × Option Nat)} {xs : List (List Value)} (h : RecAt B w rb R cm vv fv os xs) (hg : Glob w) (f : Fct) (v : Value)
  (hf : StrsAt w v f.values) (hs : f.subject.size < 4294967281) (hlen : f.values.length * 16 ≤ 140737488355328) (c : Attr × Nat) (hc : colOf R f.attr = some c) :
  Calls Tryz.prog 39 #[encP rb,factVal f v] w fun e w'=>Ext w w' ∧
   ((checkF R f = none ∧ e = .returned (.tuple #[noFR,.int .i64 112])) ∨
    ∃ fr p' c',checkF R f = some fr ∧ e = .returned (.tuple #[.agg (frCells fr [.string f.attr,.slice p' f.values.length c',.int .i64 f.low,.int .i64 f.high]).toArray,.int .i64 0])):=by
 obtain ⟨cmem,cname⟩:=colOf_mem hc
 have hcol:=(h.colAt c cmem).colAt
 have hok:=h.ok.attrs c cmem
 have hlk : ∀ W,Ext w W → (Instr.lookup 93 (.map (some cm)) (.string f.attr) true).run Tryz.prog W = .ok (.tuple #[encP c.2,.bool true]) W:=fun W hW=>by
  rw [lookup_col h hW,hc];rfl
 have hr0 : w.cell? ⟨rb,0,none⟩ = some (.map (some cm)):=cell_of h.blk 0
 have hrb:=heap_lt h.blk
 have hcF : checkF R f = if subj f.subject then (if (readF c.1 f.values f.low f.high).2 then some ⟨f.subject,c.1,c.2,(readF c.1 f.values f.low f.high).1⟩ else none) else none:=by unfold checkF;rw [hc]
 rw [hcF]
 clear hcF
 obtain ⟨sb,hsb⟩ : ∃ sb,subj f.subject = sb:=⟨_,rfl⟩
 rw [hsb]
 generalize hrd : readF c.1 f.values f.low f.high = rd
 have HSB:=Lib.hid hsb
 have HRD:=Lib.hid hrd
 have HCOL:=Lib.hid hcol
 have HOK:=Lib.hid hok
 have HF:=Lib.hid hf
 have HS:=Lib.hid hs
 have HREC:=Lib.hid h
 clear hsb hrd hcol hok hf hs h cmem cname hc
 obtain ⟨a,cb⟩:=c
 have hall : ∃ W1,W1 = (w.alloc (.cells #[.string f.subject,.string f.attr,v,.int .i64 f.low,.int .i64 f.high] 46 (0,0))).alloc (.cells #[.string ⟨#[]⟩,.string ⟨#[]⟩,.slice none 0 0,.int .i64 0,.int .i64 0,.pointer none,.int .u64 0,.int .i64 0,.int .i64 0] 122 (0,0)):=⟨_,rfl⟩
 obtain ⟨W1,hW1⟩:=hall
 have hx : Ext w W1:=by rw [hW1];exact bel
 have hx1 : W1.heap[w.heap.size]? = some (.cells #[.string f.subject,.string f.attr,v,.int .i64 f.low,.int .i64 f.high] 46 (0,0)):=by rw [hW1];simp only [heap_drawn_get,heap_drew_get,heap_setCell_get,heap_alloc_get,World.size_alloc,World.size_setCell,size_drawn,putObj_get,putObj_size];(repeat (first | rw [if_pos trivial] | rw [if_pos rfl] | rw [if_neg (by omega)] | rw [if_pos (by omega)]))
 have hx2 : W1.heap[w.heap.size + 1]? = some (.cells #[.string ⟨#[]⟩,.string ⟨#[]⟩,.slice none 0 0,.int .i64 0,.int .i64 0,.pointer none,.int .u64 0,.int .i64 0,.int .i64 0] 122 (0,0)):=by rw [hW1];simp only [heap_drawn_get,heap_drew_get,heap_setCell_get,heap_alloc_get,World.size_alloc,World.size_setCell,size_drawn,putObj_get,putObj_size];(repeat (first | rw [if_pos trivial] | rw [if_pos rfl] | rw [if_neg (by omega)] | rw [if_pos (by omega)]))
 have hr1 : W1.cell? ⟨rb,0,none⟩ = some (.map (some cm)):=hx.cell' hr0
 have HX1:=Lib.hid hx1
 have HX2:=Lib.hid hx2
 clear hx1 hx2 hr0
 have hsz : w.heap.size + 2 ≤ W1.heap.size:=by rw [hW1,World.size_alloc,World.size_alloc];exact Nat.le_refl _
 unfold factVal factCells encP at *
 go_enter Tryz.func39,Tryz.ntmps39
 go_wp2_with fail
 rw [← hW1]
 have HW:=Lib.hid hW1
 clear hW1
 refine Rt.wp_region_rt (by kernel_rfl) [0,1,2,3,4,5,6,7,8,9,10,11] [] [] [0,1,3,7,0,16,63,127,255,255,511,2047] (by kernel_rfl) (fun _ W=>Ext W1 W) ?_ ?_
 ·exact below_drawn (ext_refl _) _
 iterate 3 (refine Rt.rs_sil rfl rfl rfl (fun K hK=>?_);go_simp;refine hK _ ?_;clear hK K)
 (refine Rt.rs_rd rfl rfl rfl ?_;apply Exists.intro;refine ⟨fun us' W hp hl hI=>?_,?_⟩;· (have c1:=Ext.cell' hI hr1;go_simp;rfl));simp only [Act.put,zA,zB,zC,zD,zE,zF]
 (refine Rt.rs_sil rfl rfl rfl (fun K hK=>?_);go_simp;refine hK _ ?_;clear hK K)
 (refine Rt.rs_rd rfl rfl rfl ?_;apply Exists.intro;refine ⟨fun us' W hp hl hI=>?_,?_⟩;· (have hx1:=Ext.obj hI HX1.out;have c1 : W.cell? ⟨w.heap.size,1,none⟩ = some (.string f.attr):=cell_of hx1 1;go_simp;rfl));simp only [Act.put,zA,zB,zC,zD,zE,zF]
 (refine Rt.rs_rd rfl rfl rfl ?_;apply Exists.intro;refine ⟨fun us' W hp hl hI=>?_,?_⟩;· (have hk:=hlk W (hx.trans' hI);go_simp;rfl));simp only [Act.put,zA,zB,zC,zD,zE,zF]
 iterate 5 (refine Rt.rs_sil rfl rfl rfl (fun K hK=>?_);go_simp;refine hK _ ?_;clear hK K)
 refine Rt.rs_nil (fun W hI=>?_)
 have c0 : W.cell? ⟨w.heap.size,0,none⟩ = some (.string f.subject):=cell_of (Ext.obj hI HX1.out) 0
 have c1 : W.cell? ⟨w.heap.size,1,none⟩ = some (.string f.attr):=cell_of (Ext.obj hI HX1.out) 1
 have c2 : W.cell? ⟨w.heap.size,2,none⟩ = some (v):=cell_of (Ext.obj hI HX1.out) 2
 have c3 : W.cell? ⟨w.heap.size,3,none⟩ = some (.int .i64 f.low):=cell_of (Ext.obj hI HX1.out) 3
 have c4 : W.cell? ⟨w.heap.size,4,none⟩ = some (.int .i64 f.high):=cell_of (Ext.obj hI HX1.out) 4
 have d0 : W.cell? ⟨w.heap.size + 1,0,none⟩ = some (.string ⟨#[]⟩):=cell_of (Ext.obj hI HX2.out) 0
 have fd0:=frozen_of (Ext.obj hI HX2.out) 0
 have d1 : W.cell? ⟨w.heap.size + 1,1,none⟩ = some (.string ⟨#[]⟩):=cell_of (Ext.obj hI HX2.out) 1
 have fd1:=frozen_of (Ext.obj hI HX2.out) 1
 have d2 : W.cell? ⟨w.heap.size + 1,2,none⟩ = some (.slice none 0 0):=cell_of (Ext.obj hI HX2.out) 2
 have fd2:=frozen_of (Ext.obj hI HX2.out) 2
 have d3 : W.cell? ⟨w.heap.size + 1,3,none⟩ = some (.int .i64 0):=cell_of (Ext.obj hI HX2.out) 3
 have fd3:=frozen_of (Ext.obj hI HX2.out) 3
 have d4 : W.cell? ⟨w.heap.size + 1,4,none⟩ = some (.int .i64 0):=cell_of (Ext.obj hI HX2.out) 4
 have fd4:=frozen_of (Ext.obj hI HX2.out) 4
 have d5 : W.cell? ⟨w.heap.size + 1,5,none⟩ = some (.pointer none):=cell_of (Ext.obj hI HX2.out) 5
 have fd5:=frozen_of (Ext.obj hI HX2.out) 5
 have d6 : W.cell? ⟨w.heap.size + 1,6,none⟩ = some (.int .u64 0):=cell_of (Ext.obj hI HX2.out) 6
 have fd6:=frozen_of (Ext.obj hI HX2.out) 6
 have d7 : W.cell? ⟨w.heap.size + 1,7,none⟩ = some (.int .i64 0):=cell_of (Ext.obj hI HX2.out) 7
 have fd7:=frozen_of (Ext.obj hI HX2.out) 7
 have d8 : W.cell? ⟨w.heap.size + 1,8,none⟩ = some (.int .i64 0):=cell_of (Ext.obj hI HX2.out) 8
 have fd8:=frozen_of (Ext.obj hI HX2.out) 8
 have hxW:=hx.trans' hI
 have HXX:=Lib.hid hxW
 have HI:=Lib.hid hI
 clear hI hlk
 go_wp2_with fail
 refine (isSubject_any f.subject W HS.out (hg.ext HXX.out)).mono ?_
 rintro e w2 ⟨rfl,hx2⟩
 rw [HSB.out]
 clear c0 c1 c2 c3 c4 d0 d1 d2 d3 d4 d5 d6 d7 d8 fd0 fd1 fd2 fd3 fd4 fd5 fd6 fd7 fd8
 replace HI:=Lib.hid (HI.out.trans' hx2)
 replace HXX:=Lib.hid (hxW.trans' hx2)
 clear hxW hx2
 have c0 : w2.cell? ⟨w.heap.size,0,none⟩ = some (.string f.subject):=cell_of (Ext.obj HI.out HX1.out) 0
 have c1 : w2.cell? ⟨w.heap.size,1,none⟩ = some (.string f.attr):=cell_of (Ext.obj HI.out HX1.out) 1
 have c2 : w2.cell? ⟨w.heap.size,2,none⟩ = some (v):=cell_of (Ext.obj HI.out HX1.out) 2
 have c3 : w2.cell? ⟨w.heap.size,3,none⟩ = some (.int .i64 f.low):=cell_of (Ext.obj HI.out HX1.out) 3
 have c4 : w2.cell? ⟨w.heap.size,4,none⟩ = some (.int .i64 f.high):=cell_of (Ext.obj HI.out HX1.out) 4
 have d0 : w2.cell? ⟨w.heap.size + 1,0,none⟩ = some (.string ⟨#[]⟩):=cell_of (Ext.obj HI.out HX2.out) 0
 have fd0:=frozen_of (Ext.obj HI.out HX2.out) 0
 have d1 : w2.cell? ⟨w.heap.size + 1,1,none⟩ = some (.string ⟨#[]⟩):=cell_of (Ext.obj HI.out HX2.out) 1
 have fd1:=frozen_of (Ext.obj HI.out HX2.out) 1
 have d2 : w2.cell? ⟨w.heap.size + 1,2,none⟩ = some (.slice none 0 0):=cell_of (Ext.obj HI.out HX2.out) 2
 have fd2:=frozen_of (Ext.obj HI.out HX2.out) 2
 have d3 : w2.cell? ⟨w.heap.size + 1,3,none⟩ = some (.int .i64 0):=cell_of (Ext.obj HI.out HX2.out) 3
 have fd3:=frozen_of (Ext.obj HI.out HX2.out) 3
 have d4 : w2.cell? ⟨w.heap.size + 1,4,none⟩ = some (.int .i64 0):=cell_of (Ext.obj HI.out HX2.out) 4
 have fd4:=frozen_of (Ext.obj HI.out HX2.out) 4
 have d5 : w2.cell? ⟨w.heap.size + 1,5,none⟩ = some (.pointer none):=cell_of (Ext.obj HI.out HX2.out) 5
 have fd5:=frozen_of (Ext.obj HI.out HX2.out) 5
 have d6 : w2.cell? ⟨w.heap.size + 1,6,none⟩ = some (.int .u64 0):=cell_of (Ext.obj HI.out HX2.out) 6
 have fd6:=frozen_of (Ext.obj HI.out HX2.out) 6
 have d7 : w2.cell? ⟨w.heap.size + 1,7,none⟩ = some (.int .i64 0):=cell_of (Ext.obj HI.out HX2.out) 7
 have fd7:=frozen_of (Ext.obj HI.out HX2.out) 7
 have d8 : w2.cell? ⟨w.heap.size + 1,8,none⟩ = some (.int .i64 0):=cell_of (Ext.obj HI.out HX2.out) 8
 have fd8:=frozen_of (Ext.obj HI.out HX2.out) 8
 cases sb with
 | false=>
  go_wp2_with fail
  refine bodyPost_ret (v:=.tuple #[noFR,.int .i64 112]) (by simp [results,Tryz.results39,go_sem,d0,d1,d2,d3,d4,d5,d6,d7,d8,noFR]) rfl ⟨?_,rfl⟩
  have hx3:=HXX.out
  exact bel
 | true=>
  go_wp2_with fail
  refine (read_any cb a _ (HCOL.out.ext HXX.out) HOK.out v f.values (HF.out.ext HXX.out) f.low f.high).mono ?_
  rintro e w3 ⟨rfl,hx3⟩
  rw [HRD.out]
  clear c0 c1 c2 c3 c4 d0 d1 d2 d3 d4 d5 d6 d7 d8 fd0 fd1 fd2 fd3 fd4 fd5 fd6 fd7 fd8
  replace HI:=Lib.hid (HI.out.trans' hx3)
  replace HXX:=Lib.hid (HXX.out.trans' hx3)
  clear hx3
  have c0 : w3.cell? ⟨w.heap.size,0,none⟩ = some (.string f.subject):=cell_of (Ext.obj HI.out HX1.out) 0
  have c1 : w3.cell? ⟨w.heap.size,1,none⟩ = some (.string f.attr):=cell_of (Ext.obj HI.out HX1.out) 1
  have c2 : w3.cell? ⟨w.heap.size,2,none⟩ = some (v):=cell_of (Ext.obj HI.out HX1.out) 2
  have c3 : w3.cell? ⟨w.heap.size,3,none⟩ = some (.int .i64 f.low):=cell_of (Ext.obj HI.out HX1.out) 3
  have c4 : w3.cell? ⟨w.heap.size,4,none⟩ = some (.int .i64 f.high):=cell_of (Ext.obj HI.out HX1.out) 4
  have d0 : w3.cell? ⟨w.heap.size + 1,0,none⟩ = some (.string ⟨#[]⟩):=cell_of (Ext.obj HI.out HX2.out) 0
  have fd0:=frozen_of (Ext.obj HI.out HX2.out) 0
  have d1 : w3.cell? ⟨w.heap.size + 1,1,none⟩ = some (.string ⟨#[]⟩):=cell_of (Ext.obj HI.out HX2.out) 1
  have fd1:=frozen_of (Ext.obj HI.out HX2.out) 1
  have d2 : w3.cell? ⟨w.heap.size + 1,2,none⟩ = some (.slice none 0 0):=cell_of (Ext.obj HI.out HX2.out) 2
  have fd2:=frozen_of (Ext.obj HI.out HX2.out) 2
  have d3 : w3.cell? ⟨w.heap.size + 1,3,none⟩ = some (.int .i64 0):=cell_of (Ext.obj HI.out HX2.out) 3
  have fd3:=frozen_of (Ext.obj HI.out HX2.out) 3
  have d4 : w3.cell? ⟨w.heap.size + 1,4,none⟩ = some (.int .i64 0):=cell_of (Ext.obj HI.out HX2.out) 4
  have fd4:=frozen_of (Ext.obj HI.out HX2.out) 4
  have d5 : w3.cell? ⟨w.heap.size + 1,5,none⟩ = some (.pointer none):=cell_of (Ext.obj HI.out HX2.out) 5
  have fd5:=frozen_of (Ext.obj HI.out HX2.out) 5
  have d6 : w3.cell? ⟨w.heap.size + 1,6,none⟩ = some (.int .u64 0):=cell_of (Ext.obj HI.out HX2.out) 6
  have fd6:=frozen_of (Ext.obj HI.out HX2.out) 6
  have d7 : w3.cell? ⟨w.heap.size + 1,7,none⟩ = some (.int .i64 0):=cell_of (Ext.obj HI.out HX2.out) 7
  have fd7:=frozen_of (Ext.obj HI.out HX2.out) 7
  have d8 : w3.cell? ⟨w.heap.size + 1,8,none⟩ = some (.int .i64 0):=cell_of (Ext.obj HI.out HX2.out) 8
  have fd8:=frozen_of (Ext.obj HI.out HX2.out) 8
  obtain ⟨s,ok⟩:=rd
  unfold stTuple St.val
  have hs3 : w.heap.size + 1 < w3.heap.size:=Nat.lt_of_lt_of_le (Nat.lt_of_succ_le hsz) HI.out.size
  have hs4 : w.heap.size < w3.heap.size:=by omega
  have hall : ∃ W4,W4 = w3.alloc (.cells #[.int .u64 s.bits,.int .i64 s.low,.int .i64 s.high] 120 (0,0)):=⟨_,rfl⟩
  obtain ⟨W4,hW4⟩:=hall
  have hx4 : Ext w3 W4:=by rw [hW4];exact bel
  have ht8 : W4.heap[w3.heap.size]? = some (.cells #[.int .u64 s.bits,.int .i64 s.low,.int .i64 s.high] 120 (0,0)):=by rw [hW4];simp only [heap_drawn_get,heap_drew_get,heap_setCell_get,heap_alloc_get,World.size_alloc,World.size_setCell,size_drawn,putObj_get,putObj_size];(repeat (first | rw [if_pos trivial] | rw [if_pos rfl] | rw [if_neg (by omega)] | rw [if_pos (by omega)]))
  clear d0 d1 d2 d3 d4 d5 d6 d7 d8 fd0 fd1 fd2 fd3 fd4 fd5 fd6 fd7 fd8
  have hb0 : Below w.heap.size w W4:=HXX.out.trans' hx4
  cases ok with
  | false=>
   go_upto_region 6 with fail
   rw [← hW4]
   clear hW4 c0 c1 c2 c3 c4
   have d0 : W4.cell? ⟨w.heap.size + 1,0,none⟩ = some (.string ⟨#[]⟩):=cell_of (Ext.obj (HI.out.trans' hx4) HX2.out) 0
   have fd0:=frozen_of (Ext.obj (HI.out.trans' hx4) HX2.out) 0
   have d1 : W4.cell? ⟨w.heap.size + 1,1,none⟩ = some (.string ⟨#[]⟩):=cell_of (Ext.obj (HI.out.trans' hx4) HX2.out) 1
   have fd1:=frozen_of (Ext.obj (HI.out.trans' hx4) HX2.out) 1
   have d2 : W4.cell? ⟨w.heap.size + 1,2,none⟩ = some (.slice none 0 0):=cell_of (Ext.obj (HI.out.trans' hx4) HX2.out) 2
   have fd2:=frozen_of (Ext.obj (HI.out.trans' hx4) HX2.out) 2
   have d3 : W4.cell? ⟨w.heap.size + 1,3,none⟩ = some (.int .i64 0):=cell_of (Ext.obj (HI.out.trans' hx4) HX2.out) 3
   have fd3:=frozen_of (Ext.obj (HI.out.trans' hx4) HX2.out) 3
   have d4 : W4.cell? ⟨w.heap.size + 1,4,none⟩ = some (.int .i64 0):=cell_of (Ext.obj (HI.out.trans' hx4) HX2.out) 4
   have fd4:=frozen_of (Ext.obj (HI.out.trans' hx4) HX2.out) 4
   have d5 : W4.cell? ⟨w.heap.size + 1,5,none⟩ = some (.pointer none):=cell_of (Ext.obj (HI.out.trans' hx4) HX2.out) 5
   have fd5:=frozen_of (Ext.obj (HI.out.trans' hx4) HX2.out) 5
   have d6 : W4.cell? ⟨w.heap.size + 1,6,none⟩ = some (.int .u64 0):=cell_of (Ext.obj (HI.out.trans' hx4) HX2.out) 6
   have fd6:=frozen_of (Ext.obj (HI.out.trans' hx4) HX2.out) 6
   have d7 : W4.cell? ⟨w.heap.size + 1,7,none⟩ = some (.int .i64 0):=cell_of (Ext.obj (HI.out.trans' hx4) HX2.out) 7
   have fd7:=frozen_of (Ext.obj (HI.out.trans' hx4) HX2.out) 7
   have d8 : W4.cell? ⟨w.heap.size + 1,8,none⟩ = some (.int .i64 0):=cell_of (Ext.obj (HI.out.trans' hx4) HX2.out) 8
   have fd8:=frozen_of (Ext.obj (HI.out.trans' hx4) HX2.out) 8
   go_wp2_with fail
   refine bodyPost_ret (v:=.tuple #[noFR,.int .i64 112]) (by simp [results,Tryz.results39,go_sem,d0,d1,d2,d3,d4,d5,d6,d7,d8,noFR]) rfl ⟨?_,rfl⟩
   exact bel
  | true=>
   go_upto_region 7 with fail
   rw [← hW4]
   clear hW4 c0 c1 c2 c3 c4
   have hx1:=Ext.obj (HI.out.trans' hx4) HX1.out
   have hx2:=Ext.obj (HI.out.trans' hx4) HX2.out
   refine Rt.wp_region_rt (by kernel_rfl) [0,2,3,1,4,5,6] [1,5] [0,1000,1,1,1] [0,1,0,0,15,31,63] (by kernel_rfl) (ChkI w w.heap.size w3.heap.size f v cb s) ?_ ?_
   · exact ⟨below_drawn hb0 _,hx1,ht8,hx2⟩
   (refine Rt.rs_rd rfl rfl rfl ?_;apply Exists.intro;refine ⟨fun us' W hp hl hI=>?_,?_⟩;· (obtain ⟨hb,h1,_⟩:=hI;have c0 : W.cell? ⟨w.heap.size,0,none⟩ = some (.string f.subject):=cell_of h1 0;have c1 : W.cell? ⟨w.heap.size,1,none⟩ = some (.string f.attr):=cell_of h1 1;have c2 : W.cell? ⟨w.heap.size,2,none⟩ = some (v):=cell_of h1 2;have c3 : W.cell? ⟨w.heap.size,3,none⟩ = some (.int .i64 f.low):=cell_of h1 3;have c4 : W.cell? ⟨w.heap.size,4,none⟩ = some (.int .i64 f.high):=cell_of h1 4;clear h1;go_simp;rfl));simp only [Act.put,zA,zB,zC,zD,zE,zF]
   (refine Rt.rs_sil rfl rfl rfl (fun K hK=>?_);go_simp;refine hK _ ?_;clear hK K)
   (refine Rt.rs_rd rfl rfl rfl ?_;apply Exists.intro;refine ⟨fun us' W hp hl hI=>?_,?_⟩;· (obtain ⟨hb,_,h2,_⟩:=hI;have e0 : W.cell? ⟨w3.heap.size,0,none⟩ = some (.int .u64 s.bits):=cell_of h2 0;have e1 : W.cell? ⟨w3.heap.size,1,none⟩ = some (.int .i64 s.low):=cell_of h2 1;have e2 : W.cell? ⟨w3.heap.size,2,none⟩ = some (.int .i64 s.high):=cell_of h2 2;clear h2;go_simp;rfl));simp only [Act.put,zA,zB,zC,zD,zE,zF]
   refine Rt.rs_eff rfl rfl rfl (fun W hI=>?_) (fun v hv=>?_)
   · obtain ⟨hb,h1,h2,h3⟩:=hI
     refine Rt.gives_cal ?_
     apply Exists.intro
     apply Exists.intro
     apply Exists.intro
     refine ⟨by go_simp;exact ⟨⟨rfl,rfl⟩,rfl⟩,?_⟩
     refine (own_any f v W (HF.out.ext hb) hlen).mono ?_
     rintro e w5 ⟨v',rfl,ho,hx5⟩
     obtain ⟨p,cap,rfl⟩:=owns_form ho
     exact ⟨_,rfl,Ext.trans' hb hx5,hx5.obj h1,hx5.obj h2,⟨p,cap,rfl⟩,hx5.obj h3⟩
   obtain ⟨p,cap,rfl⟩ : ∃ p cap,v = .agg #[.string f.subject,.string f.attr,.slice p f.values.length cap,.int .i64 f.low,.int .i64 f.high]:=let ⟨W,hI⟩:=hv;hI.2.2.2.1
   clear hv
   simp only [Act.put,zA,zB,zC,zD,zE,zF]
   (refine Rt.rs_sil rfl rfl rfl (fun K hK=>?_);go_simp;refine hK _ ?_;clear hK K)
   refine Rt.rs_eff rfl rfl rfl (fun W hI=>?_) (fun v hv=>?_)
   · obtain ⟨hb,h1,h2,_,h3⟩:=hI
     have d0 : W.cell? ⟨w.heap.size + 1,0,none⟩ = some (.string ⟨#[]⟩):=cell_of h3 0
     have fd0:=frozen_of h3 0
     have d1 : W.cell? ⟨w.heap.size + 1,1,none⟩ = some (.string ⟨#[]⟩):=cell_of h3 1
     have fd1:=frozen_of h3 1
     have d2 : W.cell? ⟨w.heap.size + 1,2,none⟩ = some (.slice none 0 0):=cell_of h3 2
     have fd2:=frozen_of h3 2
     have d3 : W.cell? ⟨w.heap.size + 1,3,none⟩ = some (.int .i64 0):=cell_of h3 3
     have fd3:=frozen_of h3 3
     have d4 : W.cell? ⟨w.heap.size + 1,4,none⟩ = some (.int .i64 0):=cell_of h3 4
     have fd4:=frozen_of h3 4
     have d5 : W.cell? ⟨w.heap.size + 1,5,none⟩ = some (.pointer none):=cell_of h3 5
     have fd5:=frozen_of h3 5
     have d6 : W.cell? ⟨w.heap.size + 1,6,none⟩ = some (.int .u64 0):=cell_of h3 6
     have fd6:=frozen_of h3 6
     have d7 : W.cell? ⟨w.heap.size + 1,7,none⟩ = some (.int .i64 0):=cell_of h3 7
     have fd7:=frozen_of h3 7
     have d8 : W.cell? ⟨w.heap.size + 1,8,none⟩ = some (.int .i64 0):=cell_of h3 8
     have fd8:=frozen_of h3 8
     have H1:=Lib.hid h1
     have H2:=Lib.hid h2
     have H3:=Lib.hid h3
     clear h1 h2 h3
     refine Rt.gives_skp ?_
     apply Exists.intro
     refine ⟨by go_simp;rfl,?_⟩
     refine ⟨by exact bel,?_,?_,p,cap,rfl,?_⟩
     ·simp only [heap_drawn_get,heap_drew_get,heap_setCell_get,heap_alloc_get,World.size_alloc,World.size_setCell,size_drawn,putObj_get,putObj_size];(repeat (first | rw [if_pos trivial] | rw [if_pos rfl] | rw [if_neg (by omega)] | rw [if_pos (by omega)]))
      exact H1.out
     ·simp only [heap_drawn_get,heap_drew_get,heap_setCell_get,heap_alloc_get,World.size_alloc,World.size_setCell,size_drawn,putObj_get,putObj_size];(repeat (first | rw [if_pos trivial] | rw [if_pos rfl] | rw [if_neg (by omega)] | rw [if_pos (by omega)]))
      exact H2.out
     ·simp only [heap_drawn_get,heap_drew_get,heap_setCell_get,heap_alloc_get,World.size_alloc,World.size_setCell,size_drawn,putObj_get,putObj_size];(repeat (first | rw [if_pos trivial] | rw [if_pos rfl] | rw [if_neg (by omega)] | rw [if_pos (by omega)]))
      rw [H3.out];rfl
   simp only [Act.put,zA,zB,zC,zD,zE,zF]
   (refine Rt.rs_sil rfl rfl rfl (fun K hK=>?_);go_simp;refine hK _ ?_;clear hK K)
   refine Rt.rs_nil (fun W hI=>?_)
   obtain ⟨hb,_,_,p',cap',he,h3⟩:=hI
   simp only [Value.agg.injEq,Array.mk.injEq,List.cons.injEq,Value.slice.injEq] at he
   obtain ⟨_,_,⟨rfl,_,rfl⟩,_⟩:=he
   have d0 : W.cell? ⟨w.heap.size + 1,0,none⟩ = some (.string f.subject):=cell_of h3 0
   have fd0:=frozen_of h3 0
   have d1 : W.cell? ⟨w.heap.size + 1,1,none⟩ = some (.string f.attr):=cell_of h3 1
   have fd1:=frozen_of h3 1
   have d2 : W.cell? ⟨w.heap.size + 1,2,none⟩ = some (.slice p f.values.length cap):=cell_of h3 2
   have fd2:=frozen_of h3 2
   have d3 : W.cell? ⟨w.heap.size + 1,3,none⟩ = some (.int .i64 f.low):=cell_of h3 3
   have fd3:=frozen_of h3 3
   have d4 : W.cell? ⟨w.heap.size + 1,4,none⟩ = some (.int .i64 f.high):=cell_of h3 4
   have fd4:=frozen_of h3 4
   have d5 : W.cell? ⟨w.heap.size + 1,5,none⟩ = some (.pointer (some ⟨cb,0,none⟩)):=cell_of h3 5
   have fd5:=frozen_of h3 5
   have d6 : W.cell? ⟨w.heap.size + 1,6,none⟩ = some (.int .u64 s.bits):=cell_of h3 6
   have fd6:=frozen_of h3 6
   have d7 : W.cell? ⟨w.heap.size + 1,7,none⟩ = some (.int .i64 s.low):=cell_of h3 7
   have fd7:=frozen_of h3 7
   have d8 : W.cell? ⟨w.heap.size + 1,8,none⟩ = some (.int .i64 s.high):=cell_of h3 8
   have fd8:=frozen_of h3 8
   clear h3
   go_wp2_with fail
   exact bodyPost_ret (v:=.tuple #[.agg #[.string f.subject,.string f.attr,.slice p f.values.length cap,.int .i64 f.low,.int .i64 f.high,.pointer (some ⟨cb,0,none⟩),.int .u64 s.bits,.int .i64 s.low,.int .i64 s.high],.int .i64 0]) (by simp [results,Tryz.results39,go_sem,d0,d1,d2,d3,d4,d5,d6,d7,d8]) rfl ⟨hb,p,cap,rfl⟩
theorem check_any {B : Nat} {w : World} {rb : Nat} {R : Rec} {cm : Nat} {vv fv : Value} {os : List (Option Nat × Option Nat)} {xs : List (List Value)} (h : RecAt B w rb R cm vv fv os xs) (hg : Glob w) (f : Fct) (v : Value)
  (hf : StrsAt w v f.values) (hs : f.subject.size < 4294967281) (hlen : f.values.length * 16 ≤ 140737488355328) :
  Calls Tryz.prog 39 #[encP rb,factVal f v] w fun e w'=>Ext w w' ∧
   ((checkF R f = none ∧ e = .returned (.tuple #[noFR,.int .i64 112])) ∨
    ∃ fr p' c',checkF R f = some fr ∧ e = .returned (.tuple #[.agg (frCells fr [.string f.attr,.slice p' f.values.length c',.int .i64 f.low,.int .i64 f.high]).toArray,.int .i64 0])):=by
 cases hc : colOf R f.attr with
 | none=>
  refine (check_no h hg f v hf hs hlen hc).mono ?_
  rintro e w' ⟨rfl,hx⟩
  exact ⟨hx,.inl ⟨by unfold checkF;rw [hc],rfl⟩⟩
 | some c=>exact check_col h hg f v hf hs hlen c hc
end Go.Proofs.YtihfcjioilmmjaaGreat
namespace Go.Proofs.YtihfcjioilmmjaaGreat
open Go Go.RowKit
open Go.Maps Go.Sort Go.Shelf Go.Proofs
theorem entsFrom_key {κ : Type} [DecidableEq κ] (enc : κ → Value) : ∀ (n : Nat) (l : List (κ × Value)),(entsFrom enc n l).map (·.key) = l.map fun x=>enc x.1
 | _,[]=>rfl
 | n,x :: r=>by simp [entsFrom,entsFrom_key enc (n + 1) r]
theorem entsFrom_born {κ : Type} [DecidableEq κ] (enc : κ → Value) : ∀ (n : Nat) (l : List (κ × Value)),(entsFrom enc n l).map (·.born) = List.range' n l.length
 | _,[]=>rfl
 | n,x :: r=>by simp [entsFrom,entsFrom_born enc (n + 1) r,List.range'_succ]
def noElem : Value → Option (DataW Unit × List MemPlace):=fun _=>some (.nil,[])
theorem fit_of (l : List (Int × Value)) (hn : (l.map (·.1)).Nodup) (hi : ∀ x ∈ l,i64ok x.1) (hs : l.length ≤ maxLen) : WideElems.Fit Tryz.prog 3 noElem (entsFrom (Value.int .i64) 0 l).toArray l.length:=by
 refine ⟨by rw [List.size_toArray,entsFrom_length];exact hs,⟨?_,?_,?_⟩,?_⟩
 ·intro x hx
  have : x.born ∈ (entsFrom (Value.int .i64) 0 l).map (·.born):=List.mem_map.2 ⟨x,hx,rfl⟩
  rw [entsFrom_born,List.mem_range'_1] at this
  omega
 ·show ((entsFrom (Value.int .i64) 0 l).map (·.born)).Nodup
  rw [entsFrom_born];exact List.nodup_range'
 ·show ((entsFrom (Value.int .i64) 0 l).map (·.key)).Nodup
  rw [entsFrom_key]
  have : (l.map fun x=>Value.int .i64 x.1) = (l.map (·.1)).map (Value.int .i64):=by rw [List.map_map];rfl
  rw [this]
  exact List.pairwise_map.2 (List.Pairwise.imp (fun h e=>h (by simpa using e)) hn)
 ·intro x hx
  have hk : x.key ∈ (entsFrom (Value.int .i64) 0 l).map (·.key):=List.mem_map.2 ⟨x,hx,rfl⟩
  rw [entsFrom_key] at hk
  obtain ⟨y,hy,he⟩:=List.mem_map.1 hk
  have hw : (Lit.int .i64 y.1).wf = true:=by
   obtain ⟨h1,h2⟩:=hi y hy
   simp [Lit.wf,IntKind.min,IntKind.max,IntKind.bits,IntKind.signed] <;> omega
  exact ⟨(.int .i64 y.1,.nil),by
   have:=WideElems.rd_mk (P:=Tryz.prog) (k:=3) (R:=noElem) (val:=x.val) (born:=x.born) (Maps.keyOf_int_mk (P:=Tryz.prog) (k:=3) Tryz.underlying3 hw) rfl
   rw [show (⟨.int .i64 y.1,x.val,x.born⟩ : MapEntry) = x by rw [he]] at this
   exact this⟩
theorem rg_fst (x : MapEntry) (n : Int) (hx : x.key = .int .i64 n) (hn : i64ok n) : (WideElems.rg Tryz.prog 3 noElem x).1 = .int .i64 n:=by
 have hw : (Lit.int .i64 n).wf = true:=by
  obtain ⟨h1,h2⟩:=hn
  simp [Lit.wf,IntKind.min,IntKind.max,IntKind.bits,IntKind.signed] <;> omega
 have:=WideElems.rd_mk (P:=Tryz.prog) (k:=3) (R:=noElem) (val:=x.val) (born:=x.born) (Maps.keyOf_int_mk (P:=Tryz.prog) (k:=3) Tryz.underlying3 hw) rfl
 rw [show (⟨.int .i64 n,x.val,x.born⟩ : MapEntry) = x by rw [← hx]] at this
 rw [WideElems.rg_of this]
theorem ownsMap_of {w : World} {b : Nat} {l : List (Int × Value)} (h : MapIs (Value.int .i64) w b l) (hn : (l.map (·.1)).Nodup) (hi : ∀ x ∈ l,i64ok x.1) (hs : l.length ≤ maxLen) :
  ∃ D0 : DataW Unit,w.ownsMap Tryz.prog 3 noElem b l.length D0 ∧ (intKeys D0).Perm (l.map (·.1)) ∧ Maps.size D0 = l.length:=by
 refine ⟨_,⟨_,_,h,fit_of l hn hi hs,by rw [List.size_toArray,entsFrom_length];exact Nat.le_refl _,rfl⟩,?_,?_⟩
 ·show (List.map _ _).Perm _
  refine ((WideShapes.sorted_perm _).map _).trans ?_
  have : ∀ (n : Nat) (l : List (Int × Value)),(∀ x ∈ l,i64ok x.1) → ((entsFrom (Value.int .i64) n l).map (WideElems.rg Tryz.prog 3 noElem)).map (fun p=>Go.intOf p.1) = l.map (·.1):=by
   intro n l
   induction l generalizing n with
   | nil=>intro _;rfl
   | cons x r ih=>
    intro hi
    simp only [entsFrom,List.map_cons]
    rw [rg_fst _ x.1 rfl (hi x List.mem_cons_self),ih (n + 1) fun y hy=>hi y (List.mem_cons_of_mem _ hy)]
    rfl
  exact List.Perm.of_eq (this 0 l hi)
 ·show List.length _ = _
  rw [length_sorted]
  simp [entsFrom_length]
theorem sortsIn (m : Nat) : AnyZI.SortsIn Tryz.prog Tryz.sortedL_ren Fence.wide m:=
 ⟨fun blk off cap ss W hH hblk hsz=>callsIn_wide.2 (Tryz.slices_Sort_int blk off cap ss W hH hblk hsz),
  fun p cap W=>callsIn_wide.2 (Tryz.slices_Sort_int_none p cap W)⟩
theorem keys_any (o : Option Nat) (w : World) : Calls Tryz.prog 70 #[.map o] w fun e w'=>e = .returned (.func (.func 93) #[] #[.pointer (some ⟨w.heap.size,0,none⟩)]) ∧ w' = w.alloc (.cells #[.map o] 94):=
 callsIn_wide.1 (AnyZI.keys_in Tryz.keysL Fence.wide 5 trivial rfl o w)
theorem sorted_any (bm : Nat) (o : Option Nat) (l : List (Int × Value)) (w : World) (hbm : bm < w.heap.size) (hm : w.cell? ⟨bm,0,none⟩ = some (.map o)) (hl : MapV w o l) (hn : (l.map (·.1)).Nodup) (hi : ∀ x ∈ l,i64ok x.1) (hs : l.length ≤ 1000000) :
  Calls Tryz.prog 34 #[.func (.func 93) #[] #[.pointer (some ⟨bm,0,none⟩)]] w fun e w'=>∃ v,e = .returned v ∧ w'.ownsRow w.heap.size 3 1 v l.length (((l.map (·.1)).mergeSort (fun x y=>decide (x ≤ y))).map (Value.int .i64)) ∧ Ext w w':=by
 have hml : (1000000 : Nat) ≤ maxLen:=by decide
 rcases hl with ⟨rfl,rfl⟩ | ⟨b,rfl,hb⟩
 ·have hseq : SeqGives Fence.wide 2 Tryz.prog 93 #[.pointer (some ⟨bm,0,none⟩)] encZ (fun ss : List Int=>ss = []) 0 w:=
   AnyZI.keys_gives_nil (ρ:=Tryz.keysL_ren) { Tryz.keysL with } Fence.wide _ trivial rfl bm _ hbm hm
  have cS:=AnyZI.sorted_in Tryz.sortedL Fence.wide 5 trivial trivial trivial trivial rfl (by omega) (sortsIn _) (enters_of Tryz.func57 (by kernel_rfl) rfl) 93 #[.pointer (some ⟨bm,0,none⟩)] trivial (enters_of Tryz.func93 (by kernel_rfl) rfl) _ 0 (Nat.zero_le _) (by omega) _ hseq
  refine (callsIn_wide.1 cS).mono ?_
  rintro e w' ⟨v,ss,rfl,rfl,hrow,_,hx⟩
  exact ⟨v,rfl,hrow,hx⟩
 ·obtain ⟨D0,hown,hp,hsz⟩:=ownsMap_of hb hn hi (by omega)
  have hseq : SeqGives Fence.wide 2 Tryz.prog 93 #[.pointer (some ⟨bm,0,none⟩)] encZ (fun ss=>ss.Perm (intKeys D0)) (Maps.size D0) w:=
   AnyZI.keys_gives (ρ:=Tryz.keysL_ren) { Tryz.keysL with } Fence.wide _ trivial rfl (by omega) bm b l.length D0 _ hbm hm hown
  have cS:=AnyZI.sorted_in Tryz.sortedL Fence.wide 5 trivial trivial trivial trivial rfl (by omega) (sortsIn _) (enters_of Tryz.func57 (by kernel_rfl) rfl) 93 #[.pointer (some ⟨bm,0,none⟩)] trivial (enters_of Tryz.func93 (by kernel_rfl) rfl) _ _ (by omega) (by omega) _ hseq
  refine (callsIn_wide.1 cS).mono ?_
  rintro e w' ⟨v,ss,rfl,hS,hrow,_,hx⟩
  have hpp : ss.Perm (l.map (·.1)):=hS.trans hp
  have he : ss.mergeSort (fun x y=>decide (x ≤ y)) = (l.map (·.1)).mergeSort (fun x y=>decide (x ≤ y)):=mergeSort_of_perm_i hpp
  have hlen : ss.length = l.length:=by rw [hpp.length_eq,List.length_map]
  rw [he,hlen] at hrow
  exact ⟨v,rfl,hrow,hx⟩
end Go.Proofs.YtihfcjioilmmjaaGreat
