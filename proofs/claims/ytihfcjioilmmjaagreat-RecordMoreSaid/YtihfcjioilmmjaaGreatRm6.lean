/- Lemmas: Known. -/
import Derived.Test.YtihfcjioilmmjaaGreatRm1
import Derived.Test.YtihfcjioilmmjaaGreatRm5
set_option linter.all false
namespace Go.Proofs.YtihfcjioilmmjaaGreat
open Go Go.RowKit
open Go.Lib Go.Sort Go.Maps Go.Shelf Go.Proofs
theorem ViewAt.colK {B : Nat} {w W : World} {vb : Nat} {hf : List (Int × FR)} {sv : Value} {mp mk mf md : Nat} {lp : List (ByteArray × Value)} {lk lf ld : List ((ByteArray × Nat) × Value)} (h : ViewAt B w vb hf sv mp mk mf md lp lk lf ld) (hs : ∀ y ∈ hf,IsCol W y.2.col) : ∀ x ∈ lk,IsCol W x.1.2:=fun x hx=>by
 have h1 : (look lk x.1).isSome = true:=look_isSome_iff.2 (List.mem_map.2 ⟨x,hx,rfl⟩)
 rw [h.knownL] at h1
 unfold knowV at h1
 cases hk : knowK hf x.1 with
 | none=>rw [hk] at h1;cases h1
 | some z=>obtain ⟨y,hy,e,_⟩:=knowK_some _ _ _ hk;rw [← e];exact hs y hy
theorem ViewAt.colF {B : Nat} {w W : World} {vb : Nat} {hf : List (Int × FR)} {sv : Value} {mp mk mf md : Nat} {lp : List (ByteArray × Value)} {lk lf ld : List ((ByteArray × Nat) × Value)} (h : ViewAt B w vb hf sv mp mk mf md lp lk lf ld) (hs : ∀ y ∈ hf,IsCol W y.2.col) : ∀ x ∈ lf,IsCol W x.1.2:=fun x hx=>by
 have h1 : (look lf x.1).isSome = true:=look_isSome_iff.2 (List.mem_map.2 ⟨x,hx,rfl⟩)
 obtain ⟨v,hv⟩:=Option.isSome_iff_exists.1 h1
 obtain ⟨y,hy,e⟩:=factsK_mem (h.factsS x.1 v hv).2
 rw [← e];exact hs y hy
theorem ViewAt.colD {B : Nat} {w W : World} {vb : Nat} {hf : List (Int × FR)} {sv : Value} {mp mk mf md : Nat} {lp : List (ByteArray × Value)} {lk lf ld : List ((ByteArray × Nat) × Value)} (h : ViewAt B w vb hf sv mp mk mf md lp lk lf ld) (hs : ∀ y ∈ hf,IsCol W y.2.col) : ∀ x ∈ ld,IsCol W x.1.2:=fun x hx=>by
 have h1 : (look ld x.1).isSome = true:=look_isSome_iff.2 (List.mem_map.2 ⟨x,hx,rfl⟩)
 rw [h.doubtsL] at h1
 unfold doubtK at h1
 cases hk : knowK hf x.1 with
 | none=>rw [hk] at h1;simp at h1
 | some z=>obtain ⟨y,hy,e,_⟩:=knowK_some _ _ _ hk;rw [← e];exact hs y hy
def ofV (hf : List (Int × FR)) (k : ByteArray × Nat) (a : Attr) : St:=(knowV hf k).getD (allSt a)
set_option maxHeartbeats 4000000 in
set_option maxRecDepth 100000 in
theorem of_any {B : Nat} {w : World} {rb : Nat} {R : Rec} {cm : Nat} {vv fv : Value} {os : List (Option Nat × Option Nat)} {xs : List (List Value)} (h : RecAt B w rb R cm vv fv os xs) {B2 : Nat} {vb : Nat} {hf : List (Int × FR)} {sv : Value} {mp mk mf md : Nat} {lp : List (ByteArray × Value)} {lk lf ld : List ((ByteArray × Nat) × Value)}
  (hV : ViewAt B2 w vb hf sv mp mk mf md lp lk lf ld) (hfc : ∀ y ∈ hf,(y.2.attr,y.2.col) ∈ R.cols) (s : ByteArray) {a : Attr} {c : Nat} (hc : (a,c) ∈ R.cols) :
  Calls Tryz.prog 46 #[.pointer (some ⟨vb,0,none⟩),.agg #[.string s,.pointer (some ⟨c,0,none⟩)]] w fun e w'=>e = .returned (ofV hf (s,c) a).val ∧ Ext w w':=by
 obtain ⟨st0,hst0⟩ : ∃ st0,((knowV hf (s,c)).getD ⟨0,0,0⟩) = st0:=⟨_,rfl⟩
 obtain ⟨b0,hb0⟩ : ∃ b0,(knowV hf (s,c)).isSome = b0:=⟨_,rfl⟩
 have hs1 : b0 = true → ofV hf (s,c) a = st0:=by unfold ofV;rw [← hb0,← hst0];cases knowV hf (s,c) <;> simp
 have hs2 : b0 = false → ofV hf (s,c) a = allSt a:=by unfold ofV;rw [← hb0];cases knowV hf (s,c) <;> simp
 obtain ⟨W1,hW1⟩ : ∃ W1,W1 = (w.alloc (.cells #[.string s,.pointer (some ⟨c,0,none⟩)] 131 (0,0))).alloc (.cells #[.int .u64 0,.int .i64 0,.int .i64 0] 120 (0,0)):=⟨_,rfl⟩
 have hx1 : Ext w W1:=by rw [hW1];exact bel
 have hb3 : W1.heap[w.heap.size]? = some (.cells #[.string s,.pointer (some ⟨c,0,none⟩)] 131 (0,0)):=by rw [hW1];simp only [heap_drawn_get,heap_drew_get,heap_setCell_get,heap_alloc_get,World.size_alloc,World.size_setCell,size_drawn,putObj_get,putObj_size];(repeat (first | rw [if_pos trivial] | rw [if_pos rfl] | rw [if_neg (by omega)] | rw [if_pos (by omega)]))
 have hb4 : W1.heap[w.heap.size + 1]? = some (.cells #[.int .u64 0,.int .i64 0,.int .i64 0] 120 (0,0)):=by rw [hW1];simp only [heap_drawn_get,heap_drew_get,heap_setCell_get,heap_alloc_get,World.size_alloc,World.size_setCell,size_drawn,putObj_get,putObj_size];(repeat (first | rw [if_pos trivial] | rw [if_pos rfl] | rw [if_neg (by omega)] | rw [if_pos (by omega)]))
 have hlk : ∀ W,Ext W1 W → (Instr.lookup 134 (.map (some mk)) (.agg #[.string s,.pointer (some ⟨c,0,none⟩)]) true).run Tryz.prog W = .ok (.tuple #[.agg #[.int .u64 st0.bits,.int .i64 st0.low,.int .i64 st0.high],.bool b0]) W:=fun W hE=>by
  have hwW:=hx1.trans' hE
  have hV':=hV.ext hwW
  have hq:=run_lookup2 (P:=Tryz.prog) (T:=134) (K:=131) (E:=120) (z:=.agg #[.int .u64 0,.int .i64 0,.int .i64 0]) (k:=(s,c)) (by kernel_rfl) hV'.known (finds_key W lk (s,c) ((h.ext hwW).isCol hc) (hV'.colK fun y hy=>(h.ext hwW).isCol (hfc y hy))) (by kernel_rfl)
  rw [hV'.knownL] at hq
  rw [← hst0,← hb0]
  cases hkv : knowV hf (s,c) <;> (rw [hkv] at hq;exact hq)
 have hcol : ∀ W,Ext W1 W → ColAt W c a:=fun W hE=>((h.ext (hx1.trans' hE)).colAt _ hc).colAt
 have hok:=h.ok.attrs _ hc
 have HX1:=Lib.hid hx1
 have HB3:=Lib.hid hb3
 have HB4:=Lib.hid hb4
 have HVW:=Lib.hid (hx1.obj hV.view)
 have HLK:=Lib.hid hlk
 have HCOL:=Lib.hid hcol
 have HOK:=Lib.hid hok
 have HS1:=Lib.hid hs1
 have HS2:=Lib.hid hs2
 have hs0 : w.heap.size + 1 < W1.heap.size:=heap_lt hb4
 clear hx1 hb3 hb4 hlk hcol hok hs1 hs2 h hV hst0 hb0 hfc hc
 go_enter Tryz.func46,Tryz.ntmps46
 go_upto_region 1 with fail
 rw [← hW1]
 clear hW1
 refine Rt.wp_region_rt (by kernel_rfl) [0,1,2,3,4,5,6,7,8,9,10,11] [9,10] [1,1,1,1,1,1,1,1] [0,1,3,7,0,31,63,127,127,0,767,2047] (by kernel_rfl) (AllI W1 st0) ?_ ?_
 ·exact (below_drawn (ext_refl _) _ : Ext _ _)
 iterate 3 (refine Rt.rs_sil rfl rfl rfl (fun K hK=>?_);go_simp;refine hK _ ?_;clear hK K)
 (refine Rt.rs_rd rfl rfl rfl ?_;apply Exists.intro;refine ⟨fun us' W hp hl hI=>?_,?_⟩;· (have hE:=hI.pre hl;have g1 : W.cell? ⟨vb,2,none⟩ = some (.map (some mk)):=cell_of (hE.obj HVW.out) 2;go_simp;rfl));simp only [Act.put,zA,zB,zC,zD,zE,zF]
 (refine Rt.rs_rd rfl rfl rfl ?_;apply Exists.intro;refine ⟨fun us' W hp hl hI=>?_,?_⟩;· (have hE:=hI.pre hl;have g1 : W.cell? ⟨w.heap.size,0,none⟩ = some (.string s):=cell_of (hE.obj HB3.out) 0;have g2 : W.cell? ⟨w.heap.size,1,none⟩ = some (.pointer (some ⟨c,0,none⟩)):=cell_of (hE.obj HB3.out) 1;go_simp;rfl));simp only [Act.put,zA,zB,zC,zD,zE,zF]
 (refine Rt.rs_rd rfl rfl rfl ?_;apply Exists.intro;refine ⟨fun us' W hp hl hI=>?_,?_⟩;· (have hq:=HLK.out W (hI.pre hl);go_simp;rfl));simp only [Act.put,zA,zB,zC,zD,zE,zF]
 iterate 3 (refine Rt.rs_sil rfl rfl rfl (fun K hK=>?_);go_simp;refine hK _ ?_;clear hK K)
 refine Rt.rs_eff rfl rfl rfl (fun W hI=>?_) (fun v hv=>?_)
 ·have hE:=hI.pre (Nat.zero_le _)
  refine Rt.gives_val ?_
  apply Exists.intro
  apply Exists.intro
  refine ⟨by go_simp;exact ⟨rfl,rfl⟩,?_⟩
  exact ⟨W,hE,rfl,rfl⟩
 obtain ⟨bb,rfl⟩ : ∃ bb,v = .pointer (some ⟨bb,0,none⟩):=let ⟨W,hI⟩:=hv;let ⟨_,_,h,_⟩:=hI;⟨_,h⟩
 clear hv
 simp only [Act.put,zA,zB,zC,zD,zE,zF]
 refine Rt.rs_eff rfl rfl rfl (fun W hI=>?_) (fun v hv=>?_)
 ·obtain ⟨W0,hE,e,hW⟩:=hI
  simp only [Value.pointer.injEq,Option.some.injEq,Addr.mk.injEq,and_true] at e
  subst e
  have hb : W.heap[W0.heap.size]? = some (.cells #[.int .u64 0,.int .i64 0,.int .i64 0] 120 (0,0)):=by rw [hW];simp only [heap_drawn_get,heap_drew_get,heap_setCell_get,heap_alloc_get,World.size_alloc,World.size_setCell,size_drawn,putObj_get,putObj_size];(repeat (first | rw [if_pos trivial] | rw [if_pos rfl] | rw [if_neg (by omega)] | rw [if_pos (by omega)]))
  have c0:=cell_of hb 0
  have c1:=cell_of hb 1
  have c2:=cell_of hb 2
  have f0:=frozen_of hb 0
  have f1:=frozen_of hb 1
  have f2:=frozen_of hb 2
  have hxW : Ext W1 W:=hE.trans' (by rw [hW];exact bel)
  have hsz:=hE.size
  clear hW
  refine Rt.gives_skp ?_
  apply Exists.intro
  refine ⟨by go_simp;rfl,?_⟩
  refine ⟨W0.heap.size,rfl,hE.size,?_,?_⟩
  ·exact bel
  ·simp only [heap_drawn_get,heap_drew_get,heap_setCell_get,heap_alloc_get,World.size_alloc,World.size_setCell,size_drawn,putObj_get,putObj_size];(repeat (first | rw [if_pos trivial] | rw [if_pos rfl] | rw [if_neg (by omega)] | rw [if_pos (by omega)]))
   rw [hb];rfl
 clear hv
 simp only [Act.put,zA,zB,zC,zD,zE,zF]
 (refine Rt.rs_sil rfl rfl rfl (fun K hK=>?_);go_simp;refine hK _ ?_;clear hK K)
 refine Rt.rs_nil (fun w8 hI=>?_)
 obtain ⟨bb',e,hbb,hx8,hb13⟩:=hI
 simp only [Value.pointer.injEq,Option.some.injEq,Addr.mk.injEq,and_true] at e
 subst e
 have hb4:=hx8.obj HB4.out
 have e0:=cell_of hb4 0
 have e1:=cell_of hb4 1
 have e2:=cell_of hb4 2
 have f0:=frozen_of hb4 0
 have f1:=frozen_of hb4 1
 have f2:=frozen_of hb4 2
 have HX8:=Lib.hid hx8
 have HXW:=Lib.hid (HX1.out.trans' hx8)
 have HB48:=Lib.hid hb4
 cases b0 with
 | true=>
  have c0:=cell_of hb13 0
  have c1:=cell_of hb13 1
  have c2:=cell_of hb13 2
  clear hx8 hb13 hb4 hbb
  go_wp2_with fail
  have hx:=HXW.out
  have hbe : Below w.heap.size w (((w8.setCell ⟨w.heap.size + 1,0,none⟩ (.int .u64 st0.bits)).setCell ⟨w.heap.size + 1,1,none⟩ (.int .i64 st0.low)).setCell ⟨w.heap.size + 1,2,none⟩ (.int .i64 st0.high)):=by exact bel
  obtain ⟨W9,hW9⟩ : ∃ W9,W9 = ((w8.setCell ⟨w.heap.size + 1,0,none⟩ (.int .u64 st0.bits)).setCell ⟨w.heap.size + 1,1,none⟩ (.int .i64 st0.low)).setCell ⟨w.heap.size + 1,2,none⟩ (.int .i64 st0.high):=⟨_,rfl⟩
  rw [← hW9] at hbe ⊢
  have hb9 : W9.heap[w.heap.size + 1]? = some (.cells #[.int .u64 st0.bits,.int .i64 st0.low,.int .i64 st0.high] 120 (0,0)):=by
   have hb:=HB48.out
   rw [hW9];simp only [heap_drawn_get,heap_drew_get,heap_setCell_get,heap_alloc_get,World.size_alloc,World.size_setCell,size_drawn,putObj_get,putObj_size];(repeat (first | rw [if_pos trivial] | rw [if_pos rfl] | rw [if_neg (by omega)] | rw [if_pos (by omega)]))
   rw [hb];rfl
  have r0:=cell_of hb9 0
  have r1:=cell_of hb9 1
  have r2:=cell_of hb9 2
  simp only [List.getElem?_toArray,List.getElem?_cons_zero,List.getElem?_cons_succ] at r0 r1 r2
  refine bodyPost_ret (v:=.agg #[.int .u64 st0.bits,.int .i64 st0.low,.int .i64 st0.high]) (by simp [results,Tryz.results46,go_sem,r0,r1,r2]) rfl ⟨?_,hbe⟩
  rw [HS1.out (by simp)];rfl
 | false=>
  clear hx8 hb13 hb4 hbb
  have hb3:=HX8.out.obj HB3.out
  have g1 : w8.cell? ⟨w.heap.size,1,none⟩ = some (.pointer (some ⟨c,0,none⟩)):=cell_of hb3 1
  clear hb3
  go_wp2_with fail
  refine (all_any c a w8 (HCOL.out w8 HX8.out) HOK.out).mono ?_
  rintro e w9 ⟨rfl,hx9⟩
  have hb4:=hx9.obj HB48.out
  have e0:=cell_of hb4 0
  have e1:=cell_of hb4 1
  have e2:=cell_of hb4 2
  have f0:=frozen_of hb4 0
  have f1:=frozen_of hb4 1
  have f2:=frozen_of hb4 2
  obtain ⟨sa,hsa⟩ : ∃ sa,allSt a = sa:=⟨_,rfl⟩
  rw [hsa]
  have HSA:=Lib.hid hsa
  have HB49:=Lib.hid hb4
  have hx:=HXW.out.trans' hx9
  unfold St.val
  clear hsa hb4
  go_wp2_with fail
  have hbe : Below w.heap.size w (((w9.setCell ⟨w.heap.size + 1,0,none⟩ (.int .u64 sa.bits)).setCell ⟨w.heap.size + 1,1,none⟩ (.int .i64 sa.low)).setCell ⟨w.heap.size + 1,2,none⟩ (.int .i64 sa.high)):=by exact bel
  obtain ⟨W9,hW9⟩ : ∃ W9,W9 = ((w9.setCell ⟨w.heap.size + 1,0,none⟩ (.int .u64 sa.bits)).setCell ⟨w.heap.size + 1,1,none⟩ (.int .i64 sa.low)).setCell ⟨w.heap.size + 1,2,none⟩ (.int .i64 sa.high):=⟨_,rfl⟩
  rw [← hW9] at hbe ⊢
  have hb9 : W9.heap[w.heap.size + 1]? = some (.cells #[.int .u64 sa.bits,.int .i64 sa.low,.int .i64 sa.high] 120 (0,0)):=by
   have hb:=HB49.out
   rw [hW9];simp only [heap_drawn_get,heap_drew_get,heap_setCell_get,heap_alloc_get,World.size_alloc,World.size_setCell,size_drawn,putObj_get,putObj_size];(repeat (first | rw [if_pos trivial] | rw [if_pos rfl] | rw [if_neg (by omega)] | rw [if_pos (by omega)]))
   rw [hb];rfl
  have r0:=cell_of hb9 0
  have r1:=cell_of hb9 1
  have r2:=cell_of hb9 2
  simp only [List.getElem?_toArray,List.getElem?_cons_zero,List.getElem?_cons_succ] at r0 r1 r2
  refine bodyPost_ret (v:=.agg #[.int .u64 sa.bits,.int .i64 sa.low,.int .i64 sa.high]) (by simp [results,Tryz.results46,go_sem,r0,r1,r2]) rfl ⟨?_,hbe⟩
  rw [HS2.out (by simp),HSA.out];rfl
end Go.Proofs.YtihfcjioilmmjaaGreat
namespace Go.Proofs.YtihfcjioilmmjaaGreat
open Go Go.RowKit
open Go.Lib Go.Sort Go.Maps Go.Shelf Go.Proofs
def valsB (bits : Nat) (l : List (ByteArray × Nat)) : List ByteArray:=(l.filter fun x=>bits.testBit x.2).map (·.1)
theorem valsB_snoc (bits : Nat) (l : List (ByteArray × Nat)) (x : ByteArray × Nat) : valsB bits (l ++ [x]) = if bits.testBit x.2 then valsB bits l ++ [x.1] else valsB bits l:=by
 unfold valsB
 rw [List.filter_append,List.map_append]
 by_cases h : bits.testBit x.2 = true <;> simp [h]
theorem bit_test (b j : Nat) (hb : b < 256) : (bits BinOp.and IntKind.u64 ((b : Int) / 2 ^ j) 1 == 1) = b.testBit j:=by
 have h1 : ((b : Int) / 2 ^ j) = ((b / 2 ^ j : Nat) : Int):=by
  rw [Int.natCast_ediv];simp
 have hle : b / 2 ^ j ≤ b:=Nat.div_le_self _ _
 have h2:=u64_and_nat (b / 2 ^ j) 1 (by omega) (by omega)
 rw [h1]
 have h3 : bits BinOp.and IntKind.u64 ((b / 2 ^ j : Nat) : Int) 1 = ((b / 2 ^ j &&& 1 : Nat) : Int):=h2
 rw [h3,Nat.testBit,Nat.shiftRight_eq_div_pow,Nat.and_comm 1]
 have h4 : b / 2 ^ j &&& 1 = b / 2 ^ j % 2:=Nat.and_one_is_mod _
 rw [h4]
 have h5 : b / 2 ^ j % 2 = 0 ∨ b / 2 ^ j % 2 = 1:=by omega
 rcases h5 with h5 | h5 <;> rw [h5] <;> rfl
structure KnI (N N3 : Nat) (w : World) (b8 b15 b16 : Nat) (s : St) (fvs : Value) (ns : List Int) (d : Bool) (bits : Nat) (l : List (ByteArray × Nat)) (xv : Value) (wr : World) : Prop where
 below : Below N w wr
 size : N3 ≤ wr.heap.size
 le : N ≤ N3
 le16 : N ≤ b16
 x : wr.heap[b16]? = some (.cells #[xv,.int .i64 s.low,.int .i64 s.high,fvs,.bool d] 52 (0,0))
 c15 : wr.heap[b15]? = some (.cells #[.int .u64 s.bits,.int .i64 s.low,.int .i64 s.high] 120 (0,0))
 c8 : wr.heap[b8]? = some (.cells #[.slice none 0 0,.int .i64 0,.int .i64 0,.slice none 0 0,.bool false] 52 (0,0))
 ne : b8 ≠ b16
 row : wr.ownsRow N3 9 1 xv (valsB bits l).length ((valsB bits l).map Value.string)
 fs : wr.ownsRow N 3 1 fvs ns.length (ns.map (Value.int .i64))
theorem KnI.ext {N N3 : Nat} {w : World} {b8 b15 b16 : Nat} {s : St} {fvs : Value} {ns : List Int} {d : Bool} {bits : Nat} {l : List (ByteArray × Nat)} {xv : Value} {W W' : World} (h : KnI N N3 w b8 b15 b16 s fvs ns d bits l xv W) (hx : Ext W W') : KnI N N3 w b8 b15 b16 s fvs ns d bits l xv W':=
 {below:=Below.trans h.below (Below.mono hx (Nat.le_trans h.le h.size)),size:=Nat.le_trans h.size hx.size,le:=h.le,le16:=h.le16,x:=hx.obj h.x,c15:=hx.obj h.c15,c8:=hx.obj h.c8,ne:=h.ne,row:=owns_keep h.row fun g _ _ hg=>hx.block g (heap_lt hg),fs:=owns_keep h.fs fun g _ _ hg=>hx.block g (heap_lt hg) }
theorem KnI.step {N N3 : Nat} {w : World} {b8 b15 b16 : Nat} {s : St} {fvs : Value} {ns : List Int} {d : Bool} {bits : Nat} {l : List (ByteArray × Nat)} {xv : Value} {W : World} (h : KnI N N3 w b8 b15 b16 s fvs ns d bits l xv W) {y : ByteArray × Nat} (hy : bits.testBit y.2 = true) {W1 : World} {xv' : Value} (hg : W.grownBy W1 xv.ownBlock)
  (hr : W1.ownsRow N3 9 1 xv' ((valsB bits l).length + 1) ((valsB bits l).map Value.string ++ [.string y.1])) : KnI N N3 w b8 b15 b16 s fvs ns d bits (l ++ [y]) xv' (W1.setCell ⟨b16,0,none⟩ xv') ∧ W1.heap[b16]? = some (.cells #[xv,.int .i64 s.low,.int .i64 s.high,fvs,.bool d] 52 (0,0)):=by
 have f1:=frm_grown h.row hg
 have hb:=f1.cells h.x (by decide)
 have f2 : Frm 52 W1 (W1.setCell ⟨b16,0,none⟩ xv'):=frm_set hb xv'
 have hN : N ≤ W.heap.size:=Nat.le_trans h.le h.size
 refine ⟨{ below:=Below.setCell (h.below.grown hg hN fun k hk=>Nat.le_trans h.le (owns_block h.row hk).1) h.le16 xv',size:=by rw [World.size_setCell];exact Nat.le_trans h.size hg.size,le:=h.le,le16:=h.le16,x:=?_,c15:=f2.cells (f1.cells h.c15 (by decide)) (by decide),c8:=?_,ne:=h.ne,row:=?_,fs:=f2.owns (f1.owns h.fs (by decide)) (by decide) },hb⟩
 ·rw [heap_setCell_get,if_pos rfl,hb];rfl
 ·rw [heap_setCell_get,if_neg h.ne];exact f1.cells h.c8 (by decide)
 ·rw [valsB_snoc,if_pos hy,List.length_append,List.map_append]
  exact f2.owns hr (by decide)
def KnR (wq : World) (x0 x1 x2 x3 x4 : Value) (us : List Value) (W : World) : Prop:=
 match us with
 | []=>Ext wq W
 | [a]=>∃ W0,Ext wq W0 ∧ a = .pointer (some ⟨W0.heap.size,0,none⟩) ∧ W = W0.alloc (.cells #[.slice none 0 0,.int .i64 0,.int .i64 0,.slice none 0 0,.bool false] 52 (0,0))
 | a :: _=>∃ bb,a = .pointer (some ⟨bb,0,none⟩) ∧ wq.heap.size ≤ bb ∧ Ext wq W ∧ W.heap[bb]? = some (.cells #[x0,x1,x2,x3,x4] 52 (0,0))
theorem KnR.pre {wq : World} {x0 x1 x2 x3 x4 : Value} {us : List Value} {W : World} (h : KnR wq x0 x1 x2 x3 x4 us W) (hl : us.length ≤ 1) : Ext wq W:=by
 match us,h,hl with
 | [],h,_=>exact h
 | [_],⟨W0,h,_,e⟩,_=>rw [e];exact h.trans' (by exact bel)
set_option maxHeartbeats 4000000 in
set_option maxRecDepth 100000 in
theorem known_any {B : Nat} {w : World} {rb : Nat} {R : Rec} {cm : Nat} {vv fv : Value} {os : List (Option Nat × Option Nat)} {xs : List (List Value)} (h : RecAt B w rb R cm vv fv os xs) (hg : Glob w) {iv : Nat} {ver : Ver} (hv : R.vers[iv]? = some ver) (s k : ByteArray) (hs : s.size < 4294967281) (hsub : subj s = true) {a : Attr} {c : Nat} (hc : colOf R k = some (a,c)) :
  Calls Tryz.prog 13 #[encP rb,.int .i64 (iv : Int),.string s,.string k] w fun e w'=>∃ xv fvs,e = .returned (.tuple #[.agg #[xv,.int .i64 (ofV (heldF R ver) (s,c) a).low,.int .i64 (ofV (heldF R ver) (s,c) a).high,fvs,.bool (doubtK (heldF R ver) (s,c))],.int .i64 0]) ∧
   w'.ownsRow w.heap.size 9 1 xv (valsB (ofV (heldF R ver) (s,c) a).bits a.values.zipIdx).length ((valsB (ofV (heldF R ver) (s,c) a).bits a.values.zipIdx).map Value.string) ∧ w'.ownsRow w.heap.size 3 1 fvs (factsK (heldF R ver) (s,c)).length ((factsK (heldF R ver) (s,c)).map (Value.int .i64)) ∧ Ext w w':=by
 obtain ⟨vp,vc,rfl⟩:=owns_form h.vers
 have hr1 : w.cell? ⟨rb,1,none⟩ = some (.slice vp R.vers.length vc):=cell_of h.blk 1
 have hck:=fun W (hW : Ext w W)=>checkVersion_any rb vp R.vers.length vc (iv : Int) W (hW.cell' hr1)
 have hi : iv < R.vers.length:=(List.getElem?_eq_some_iff.1 hv).1
 have hif : (if decide (0 ≤ (iv : Int)) && decide ((iv : Int) < (R.vers.length : Int)) then (0 : Int) else 110) = 0:=by simp [hi]
 simp only [hif] at hck
 have hcm:=(colOf_mem hc).1
 have hlk:=fun W (hW : Ext w W)=>lookup_col h hW k
 simp only [hc,Option.isSome_some] at hlk
 have HCK:=Lib.hid hck
 have HREC:=Lib.hid h
 have HCM:=Lib.hid hcm
 have HV:=Lib.hid hv
 have HVM:=Lib.hid (List.mem_of_getElem? hv)
 have HLK:=Lib.hid hlk
 have HR0:=Lib.hid (show w.cell? ⟨rb,0,none⟩ = some (.map (some cm)) from cell_of h.blk 0)
 obtain ⟨W1,hW1⟩ : ∃ W1,W1 = w.alloc (.cells #[.slice none 0 0,.int .i64 0,.int .i64 0,.slice none 0 0,.bool false] 52 (0,0)):=⟨_,rfl⟩
 have hx1 : Ext w W1:=by rw [hW1];exact bel
 have hb8 : W1.heap[w.heap.size]? = some (.cells #[.slice none 0 0,.int .i64 0,.int .i64 0,.slice none 0 0,.bool false] 52 (0,0)):=by rw [hW1];simp only [heap_drawn_get,heap_drew_get,heap_setCell_get,heap_alloc_get,World.size_alloc,World.size_setCell,size_drawn,putObj_get,putObj_size];(repeat (first | rw [if_pos trivial] | rw [if_pos rfl] | rw [if_neg (by omega)] | rw [if_pos (by omega)]))
 have HX1:=Lib.hid hx1
 have HB8:=Lib.hid hb8
 clear hck hif h hr1 hx1 hb8 hcm hc hv hlk
 unfold encP at *
 go_enter Tryz.func13,Tryz.ntmps13
 go_upto_region 1 with fail
 rw [← hW1]
 clear hW1
 go_wp2_with fail
 refine (HCK.out W1 HX1.out).mono ?_
 rintro e w1 ⟨rfl,rfl⟩
 go_wp2_with fail
 refine (isSubject_any s W1 hs (hg.ext HX1.out)).mono ?_
 rintro e w2 ⟨rfl,hx2⟩
 rw [hsub]
 have HX2:=Lib.hid (HX1.out.trans' hx2)
 have HB8_2:=Lib.hid (hx2.obj HB8.out)
 have hr0:=HX2.out.cell' HR0.out
 have hl2:=HLK.out w2 HX2.out
 unfold encP at hl2
 clear hx2
 go_wp2_with fail
 refine (look_any (HREC.out.ext HX2.out) (hg.ext HX2.out) HV.out).mono ?_
 rintro e w3 ⟨vb,sv,mp,mk,mf,md,lp,lk,lf,ld,rfl,hView,hx3⟩
 have HVIEW:=Lib.hid hView
 have HX3:=Lib.hid (HX2.out.trans' hx3)
 have HB8_3:=Lib.hid (hx3.obj HB8_2.out)
 clear hView hx3 hr0 hl2
 go_upto_region 10 with fail
 obtain ⟨W4,hW4⟩ : ∃ W4,W4 = w3.alloc (.cells #[.string s,.pointer (some ⟨c,0,none⟩)] 131 (0,0)):=⟨_,rfl⟩
 rw [← hW4]
 have hx4 : Ext w3 W4:=by rw [hW4];exact bel
 have hb14 : W4.heap[w3.heap.size]? = some (.cells #[.string s,.pointer (some ⟨c,0,none⟩)] 131 (0,0)):=by rw [hW4];simp only [heap_drawn_get,heap_drew_get,heap_setCell_get,heap_alloc_get,World.size_alloc,World.size_setCell,size_drawn,putObj_get,putObj_size];(repeat (first | rw [if_pos trivial] | rw [if_pos rfl] | rw [if_neg (by omega)] | rw [if_pos (by omega)]))
 have g0 : W4.cell? ⟨w3.heap.size,0,none⟩ = some (.string s):=cell_of hb14 0
 have g1 : W4.cell? ⟨w3.heap.size,1,none⟩ = some (.pointer (some ⟨c,0,none⟩)):=cell_of hb14 1
 have hfc : ∀ y ∈ heldF R ver,(y.2.attr,y.2.col) ∈ R.cols:=fun y hy=>(HREC.out.ok.fact _ (heldF_mem HREC.out.ok HVM.out hy)).1
 have HFC:=Lib.hid hfc
 have HX4:=Lib.hid hx4
 have HXW4:=Lib.hid (HX3.out.trans' hx4)
 have HB14:=Lib.hid hb14
 clear hW4 hx4 hb14 hfc
 go_wp2_with fail
 refine (of_any (HREC.out.ext HXW4.out) (HVIEW.out.ext HX4.out) HFC.out s HCM.out).mono ?_
 rintro e w5 ⟨rfl,hx5⟩
 obtain ⟨st,hst⟩ : ∃ st,ofV (heldF R ver) (s,c) a = st:=⟨_,rfl⟩
 rw [hst]
 have hst8 : st.bits < 256:=by
  rw [← hst]
  unfold ofV knowV
  cases hkk : knowK (heldF R ver) (s,c) with
  | none=>exact allSt_bits (HREC.out.ok.attrs _ HCM.out)
  | some x=>
   show (if x.2.1 = true then allSt x.2.2 else x.1).bits < 256
   split
   ·obtain ⟨y,hy,_,e⟩:=knowK_some _ _ _ hkk
    rw [e]
    exact allSt_bits (HREC.out.ok.attrs _ (HFC.out y hy))
   ·exact knowK_bits (fun y hy=>(HREC.out.ok.fact _ (heldF_mem HREC.out.ok HVM.out hy)).2.2.2.1) hkk
 have HST:=Lib.hid hst
 have HXW5:=Lib.hid (HXW4.out.trans' hx5)
 have HX45:=Lib.hid (HX4.out.trans' hx5)
 have HB14_5:=Lib.hid (hx5.obj HB14.out)
 unfold St.val
 clear hx5 g0 g1 hst
 go_upto_region 11 with fail
 obtain ⟨W6,hW6⟩ : ∃ W6,W6 = w5.alloc (.cells #[.int .u64 st.bits,.int .i64 st.low,.int .i64 st.high] 120 (0,0)):=⟨_,rfl⟩
 rw [← hW6]
 have hx6 : Ext w5 W6:=by rw [hW6];exact bel
 have hb15 : W6.heap[w5.heap.size]? = some (.cells #[.int .u64 st.bits,.int .i64 st.low,.int .i64 st.high] 120 (0,0)):=by rw [hW6];simp only [heap_drawn_get,heap_drew_get,heap_setCell_get,heap_alloc_get,World.size_alloc,World.size_setCell,size_drawn,putObj_get,putObj_size];(repeat (first | rw [if_pos trivial] | rw [if_pos rfl] | rw [if_neg (by omega)] | rw [if_pos (by omega)]))
 have HB15:=Lib.hid hb15
 have HX36:=Lib.hid (HX45.out.trans' hx6)
 have HXW6:=Lib.hid (HXW5.out.trans' hx6)
 have HB14_6:=Lib.hid (hx6.obj HB14_5.out)
 have HVIEW6:=Lib.hid (HVIEW.out.ext HX36.out)
 have HVW6:=Lib.hid (HX36.out.obj HVIEW.out.view)
 have HB8_6:=Lib.hid (HX36.out.obj HB8_3.out)
 obtain ⟨fvs,hfvs⟩ : ∃ fvs,(look lf (s,c)).getD (.slice none 0 0) = fvs:=⟨_,rfl⟩
 obtain ⟨d,hd⟩ : ∃ d,doubtK (heldF R ver) (s,c) = d:=⟨_,rfl⟩
 have hl1 : ∀ W,Ext W6 W → (Instr.lookup 135 (.map (some mf)) (.agg #[.string s,.pointer (some ⟨c,0,none⟩)]) false).run Tryz.prog W = .ok fvs W:=fun W hE=>by
  have hV:=HVIEW6.out.ext hE
  have hwW:=HXW6.out.trans' hE
  have hq:=run_lookup1 (P:=Tryz.prog) (T:=135) (K:=131) (E:=35) (z:=.slice none 0 0) (k:=(s,c)) (by kernel_rfl) hV.facts (finds_key W lf (s,c) ((HREC.out.ext hwW).isCol HCM.out) (hV.colF fun y hy=>(HREC.out.ext hwW).isCol (HFC.out y hy))) (by kernel_rfl)
  rw [hfvs] at hq
  exact hq
 have hl2 : ∀ W,Ext W6 W → (Instr.lookup 136 (.map (some md)) (.agg #[.string s,.pointer (some ⟨c,0,none⟩)]) false).run Tryz.prog W = .ok (.bool d) W:=fun W hE=>by
  have hV:=HVIEW6.out.ext hE
  have hwW:=HXW6.out.trans' hE
  have hq:=run_lookup1 (P:=Tryz.prog) (T:=136) (K:=131) (E:=4) (z:=.bool false) (k:=(s,c)) (by kernel_rfl) hV.doubts (finds_key W ld (s,c) ((HREC.out.ext hwW).isCol HCM.out) (hV.colD fun y hy=>(HREC.out.ext hwW).isCol (HFC.out y hy))) (by kernel_rfl)
  rw [hV.doubtsL,hd] at hq
  cases d <;> exact hq
 have hfrow : W6.ownsRow w2.heap.size 3 1 fvs (factsK (heldF R ver) (s,c)).length ((factsK (heldF R ver) (s,c)).map (Value.int .i64)):=by
  rw [← hfvs]
  cases hlf : look lf (s,c) with
  | none=>rw [HVIEW6.out.factsN _ hlf];exact World.ownsRow_nil _ _ _ _
  | some v=>exact (HVIEW6.out.factsS _ v hlf).1
 obtain ⟨fvp,fvc,rfl⟩:=owns_form hfrow
 have HL1:=Lib.hid hl1
 have HL2:=Lib.hid hl2
 have HFROW:=Lib.hid hfrow
 have HD:=Lib.hid hd
 have hs5 : w5.heap.size < W6.heap.size:=heap_lt hb15
 have hs8 : w.heap.size < W6.heap.size:=heap_lt HB8_6.out
 clear hW6 hx6 hb15 hl1 hl2 hfrow hfvs hd
 refine Rt.wp_region_rt (by kernel_rfl) [0,1,2,3,4,5,6,7,8,9,10,11,12,13,14,15,16,17,18] [17,18] [1,1,1,1,1,1,1,1,1,1,1,1,1,1,1,1,1] [0,1,0,4,0,16,48,112,0,496,0,1024,3072,7168,0,31744,65535,0,262143] (by kernel_rfl) (KnR W6 (.slice none 0 0) (.int .i64 st.low) (.int .i64 st.high) (.slice fvp (factsK (heldF R ver) (s,c)).length fvc) (.bool d)) ?_ ?_
 ·exact (below_drawn (ext_refl _) _ : Ext _ _)
 (refine Rt.rs_sil rfl rfl rfl (fun K hK=>?_);go_simp;refine hK _ ?_;clear hK K)
 (refine Rt.rs_rd rfl rfl rfl ?_;apply Exists.intro;refine ⟨fun us' W hp hl hI=>?_,?_⟩;· (have hE:=hI.pre hl;have g1 : W.cell? ⟨w5.heap.size,1,none⟩ = some (.int .i64 st.low):=cell_of (hE.obj HB15.out) 1;go_simp;rfl));simp only [Act.put,zA,zB,zC,zD,zE,zF]
 (refine Rt.rs_sil rfl rfl rfl (fun K hK=>?_);go_simp;refine hK _ ?_;clear hK K)
 (refine Rt.rs_rd rfl rfl rfl ?_;apply Exists.intro;refine ⟨fun us' W hp hl hI=>?_,?_⟩;· (have hE:=hI.pre hl;have g1 : W.cell? ⟨w5.heap.size,2,none⟩ = some (.int .i64 st.high):=cell_of (hE.obj HB15.out) 2;go_simp;rfl));simp only [Act.put,zA,zB,zC,zD,zE,zF]
 iterate 3 (refine Rt.rs_sil rfl rfl rfl (fun K hK=>?_);go_simp;refine hK _ ?_;clear hK K)
 (refine Rt.rs_rd rfl rfl rfl ?_;apply Exists.intro;refine ⟨fun us' W hp hl hI=>?_,?_⟩;· (have hE:=hI.pre hl;have g1 : W.cell? ⟨vb,3,none⟩ = some (.map (some mf)):=cell_of (hE.obj HVW6.out) 3;go_simp;rfl));simp only [Act.put,zA,zB,zC,zD,zE,zF]
 (refine Rt.rs_rd rfl rfl rfl ?_;apply Exists.intro;refine ⟨fun us' W hp hl hI=>?_,?_⟩;· (have hE:=hI.pre hl;have g1 : W.cell? ⟨w3.heap.size,0,none⟩ = some (.string s):=cell_of (hE.obj HB14_6.out) 0;have g2 : W.cell? ⟨w3.heap.size,1,none⟩ = some (.pointer (some ⟨c,0,none⟩)):=cell_of (hE.obj HB14_6.out) 1;go_simp;rfl));simp only [Act.put,zA,zB,zC,zD,zE,zF]
 (refine Rt.rs_rd rfl rfl rfl ?_;apply Exists.intro;refine ⟨fun us' W hp hl hI=>?_,?_⟩;· (have hq:=HL1.out W (hI.pre hl);go_simp;rfl));simp only [Act.put,zA,zB,zC,zD,zE,zF]
 iterate 3 (refine Rt.rs_sil rfl rfl rfl (fun K hK=>?_);go_simp;refine hK _ ?_;clear hK K)
 (refine Rt.rs_rd rfl rfl rfl ?_;apply Exists.intro;refine ⟨fun us' W hp hl hI=>?_,?_⟩;· (have hE:=hI.pre hl;have g1 : W.cell? ⟨vb,4,none⟩ = some (.map (some md)):=cell_of (hE.obj HVW6.out) 4;go_simp;rfl));simp only [Act.put,zA,zB,zC,zD,zE,zF]
 (refine Rt.rs_rd rfl rfl rfl ?_;apply Exists.intro;refine ⟨fun us' W hp hl hI=>?_,?_⟩;· (have hE:=hI.pre hl;have g1 : W.cell? ⟨w3.heap.size,0,none⟩ = some (.string s):=cell_of (hE.obj HB14_6.out) 0;have g2 : W.cell? ⟨w3.heap.size,1,none⟩ = some (.pointer (some ⟨c,0,none⟩)):=cell_of (hE.obj HB14_6.out) 1;go_simp;rfl));simp only [Act.put,zA,zB,zC,zD,zE,zF]
 (refine Rt.rs_rd rfl rfl rfl ?_;apply Exists.intro;refine ⟨fun us' W hp hl hI=>?_,?_⟩;· (have hq:=HL2.out W (hI.pre hl);go_simp;rfl));simp only [Act.put,zA,zB,zC,zD,zE,zF]
 (refine Rt.rs_sil rfl rfl rfl (fun K hK=>?_);go_simp;refine hK _ ?_;clear hK K)
 refine Rt.rs_eff rfl rfl rfl (fun W hI=>?_) (fun v hv=>?_)
 ·have hE:=hI.pre (Nat.zero_le _)
  refine Rt.gives_val ?_
  apply Exists.intro
  apply Exists.intro
  refine ⟨by go_simp;exact ⟨rfl,rfl⟩,?_⟩
  exact ⟨W,hE,rfl,rfl⟩
 obtain ⟨bb,rfl⟩ : ∃ bb,v = .pointer (some ⟨bb,0,none⟩):=let ⟨W,hI⟩:=hv;let ⟨_,_,h,_⟩:=hI;⟨_,h⟩
 clear hv
 simp only [Act.put,zA,zB,zC,zD,zE,zF]
 refine Rt.rs_eff rfl rfl rfl (fun W hI=>?_) (fun v hv=>?_)
 ·obtain ⟨W0,hE,e,hW⟩:=hI
  simp only [Value.pointer.injEq,Option.some.injEq,Addr.mk.injEq,and_true] at e
  subst e
  have hb : W.heap[W0.heap.size]? = some (.cells #[.slice none 0 0,.int .i64 0,.int .i64 0,.slice none 0 0,.bool false] 52 (0,0)):=by rw [hW];simp only [heap_drawn_get,heap_drew_get,heap_setCell_get,heap_alloc_get,World.size_alloc,World.size_setCell,size_drawn,putObj_get,putObj_size];(repeat (first | rw [if_pos trivial] | rw [if_pos rfl] | rw [if_neg (by omega)] | rw [if_pos (by omega)]))
  have c0:=cell_of hb 0
  have c1:=cell_of hb 1
  have c2:=cell_of hb 2
  have c3:=cell_of hb 3
  have c4:=cell_of hb 4
  have f0:=frozen_of hb 0
  have f1:=frozen_of hb 1
  have f2:=frozen_of hb 2
  have f3:=frozen_of hb 3
  have f4:=frozen_of hb 4
  have hxW : Ext W6 W:=hE.trans' (by rw [hW];exact bel)
  have hsz:=hE.size
  clear hW
  refine Rt.gives_skp ?_
  apply Exists.intro
  refine ⟨by go_simp;rfl,?_⟩
  refine ⟨W0.heap.size,rfl,hE.size,?_,?_⟩
  ·exact bel
  ·simp only [heap_drawn_get,heap_drew_get,heap_setCell_get,heap_alloc_get,World.size_alloc,World.size_setCell,size_drawn,putObj_get,putObj_size];(repeat (first | rw [if_pos trivial] | rw [if_pos rfl] | rw [if_neg (by omega)] | rw [if_pos (by omega)]))
   rw [hb];rfl
 clear hv
 simp only [Act.put,zA,zB,zC,zD,zE,zF]
 refine Rt.rs_nil (fun w8 hI=>?_)
 obtain ⟨bb',e,hbb,hx8,hb16⟩:=hI
 simp only [Value.pointer.injEq,Option.some.injEq,Addr.mk.injEq,and_true] at e
 subst e
 have hK0 : KnI w.heap.size w8.heap.size w w.heap.size w5.heap.size bb st (.slice fvp (factsK (heldF R ver) (s,c)).length fvc) (factsK (heldF R ver) (s,c)) d st.bits (a.values.zipIdx.take 0) (.slice none 0 0) w8:=
  {below:=HXW6.out.trans' hx8,size:=Nat.le_refl _,le:=by have:=(HXW6.out.trans' hx8).size;exact this,le16:=by omega,x:=hb16,c15:=hx8.obj HB15.out,c8:=hx8.obj HB8_6.out,ne:=by omega,row:=World.ownsRow_nil _ _ _ _
   fs:=owns_mono (owns_keep HFROW.out fun g _ _ hgg=>hx8.block g (heap_lt hgg)) HX2.out.size }
 obtain ⟨vals,at_,pb,hcb,hcv,_,_⟩:=HREC.out.colAt _ HCM.out
 obtain ⟨BV,hcv⟩:=hcv
 obtain ⟨vap,vac,rfl⟩:=owns_form hcv
 have hcol1 : w8.cell? ⟨c,1,none⟩ = some (.slice vap a.values.length vac):=(HXW6.out.trans' hx8).cell' (cell_of hcb 1)
 have hsmall:=(HREC.out.ok.attrs _ HCM.out).small
 have hclt : c < w.heap.size:=by
  obtain ⟨_,_,_,h1,_⟩:=HREC.out.colAt _ HCM.out
  exact heap_lt h1
 have HK0:=Lib.hid hK0
 have HCV:=Lib.hid hcv
 have HCB:=Lib.hid hcb
 clear hx8 hb16 hbb hK0 hcv hcb
 go_upto_region 12 with fail
 go_wp2_with fail
 go_loopw [74] (fun i wr=>∃ (j : Nat) (xv : Value),j ≤ a.values.length ∧ i = .int .i64 j ∧ KnI w.heap.size w8.heap.size w w.heap.size w5.heap.size bb st (.slice fvp (factsK (heldF R ver) (s,c)).length fvc) (factsK (heldF R ver) (s,c)) d st.bits (a.values.zipIdx.take j) xv wr) (fun i _=>a.values.length - (intOf i).toNat)
 case atStart=>exact ⟨0,_,Nat.zero_le _,rfl,HK0.out⟩
 case round=>
  obtain ⟨j,xv,hj,rfl,hK⟩:=hrel
  by_cases hlt : j < a.values.length
  ·obtain ⟨t,ht⟩ : ∃ t,a.values[j]? = some t:=⟨_,List.getElem?_eq_getElem hlt⟩
   obtain ⟨tb,rfl,hct⟩ : ∃ tb,vap = some ⟨tb,0,none⟩ ∧ wr.cell? ⟨tb,j,none⟩ = some (.string t):=by
    rcases HCV.out.2 with ⟨_,h0⟩ | ⟨g,cap,cur,he,_,hgg,_,_,_,ht'⟩
    ·omega
    ·simp only [Value.slice.injEq] at he
     refine ⟨g,he.1,Ext.cell' hK.below ?_⟩
     rw [cell_of hgg]
     have h2 : (a.values.map Value.string)[j]? = some (.string t):=by rw [List.getElem?_map,ht];rfl
     rw [← ht',List.getElem?_take] at h2
     split at h2
     ·simpa using h2
     ·cases h2
   have htk : a.values.zipIdx.take (j + 1) = a.values.zipIdx.take j ++ [(t,j)]:=by
    rw [List.take_add_one,List.getElem?_zipIdx,ht];simp
   have hvl : (valsB st.bits (a.values.zipIdx.take j)).length ≤ 8:=by
    unfold valsB
    rw [List.length_map]
    refine Nat.le_trans (List.length_filter_le _ _) ?_
    rw [List.length_take,List.length_zipIdx]
    omega
   obtain ⟨xp,xc,rfl⟩:=owns_form hK.row
   have m0 : wr.cell? ⟨w5.heap.size,0,none⟩ = some (.int .u64 st.bits):=cell_of hK.c15 0
   have x0 : wr.cell? ⟨bb,0,none⟩ = some (.slice xp (valsB st.bits (a.values.zipIdx.take j)).length xc):=cell_of hK.x 0
   have HK:=Lib.hid hK
   have HTK:=Lib.hid htk
   clear hK htk ht
   have hbit:=bit_test st.bits j hst8
   obtain ⟨bt,hbt⟩ : ∃ bt,st.bits.testBit j = bt:=⟨_,rfl⟩
   rw [hbt] at hbit
   cases bt with
   | false=>
    have HK2:=Lib.hid (show KnI w.heap.size w8.heap.size w w.heap.size w5.heap.size bb st (.slice fvp (factsK (heldF R ver) (s,c)).length fvc) (factsK (heldF R ver) (s,c)) d st.bits (a.values.zipIdx.take (j + 1)) (.slice xp (valsB st.bits (a.values.zipIdx.take j)).length xc) wr by
     have hrow:=HK.out.row
     refine { HK.out with row:=?_ }
     rw [HTK.out,valsB_snoc]
     rw [if_neg (by rw [hbt];simp)]
     exact hrow)
    clear hbt
    go_wp2_with fail
    exact ⟨⟨j + 1,_,by omega,rfl,HK2.out⟩,by simp [intOf];omega⟩
   | true=>
    obtain ⟨W9,hW9⟩ : ∃ W9,W9 = wr.alloc (.cells #[.string t] 9 (0,0)):=⟨_,rfl⟩
    have hx9 : Ext wr W9:=by rw [hW9];exact bel
    have hb9 : W9.heap[wr.heap.size]? = some (.cells #[.string t] 9 (0,0)):=by rw [hW9];simp only [heap_drawn_get,heap_drew_get,heap_setCell_get,heap_alloc_get,World.size_alloc,World.size_setCell,size_drawn,putObj_get,putObj_size];(repeat (first | rw [if_pos trivial] | rw [if_pos rfl] | rw [if_neg (by omega)] | rw [if_pos (by omega)]))
    have hK9:=HK.out.ext hx9
    obtain ⟨v',w10,happ,hrow,hgrow,_⟩:=append_strs (row:=[.string t]) hK9.row wr.heap.size 1 rfl (fun j u hj=>by rw [Nat.zero_add,cell_of hb9 j,List.getElem?_toArray];exact hj) (fun u hu=>by simp at hu;subst hu;rfl) (by omega) hK9.size 1
    obtain ⟨hK10,hbx⟩:=hK9.step (y:=(t,j)) hbt hgrow hrow
    rw [hW9] at happ
    obtain ⟨np,nc,rfl⟩:=owns_form hrow
    have c0:=cell_of hbx 0
    have f0:=frozen_of hbx 0
    have HAPP:=Lib.hid happ
    have HK10:=Lib.hid hK10
    clear hW9 hx9 hb9 hK9 happ hrow hgrow hK10 hbx hbt
    go_wp2_with (at_builtin;refine wpList_append_run rfl _ _ 26 rfl rfl rfl HAPP.out ?_)
    exact ⟨⟨j + 1,_,by omega,rfl,by rw [HTK.out];exact HK10.out⟩,by simp [intOf];omega⟩
  ·obtain rfl : j = a.values.length:=by omega
   have hall : a.values.zipIdx.take a.values.length = a.values.zipIdx:=by rw [← List.length_zipIdx (l:=a.values) (i:=0)];exact List.take_length
   rw [hall] at hK
   obtain ⟨xp,xc,rfl⟩:=owns_form hK.row
   have x0:=cell_of hK.x 0
   have x1:=cell_of hK.x 1
   have x2:=cell_of hK.x 2
   have x3:=cell_of hK.x 3
   have x4:=cell_of hK.x 4
   have y0:=cell_of hK.c8 0
   have y1:=cell_of hK.c8 1
   have y2:=cell_of hK.c8 2
   have y3:=cell_of hK.c8 3
   have y4:=cell_of hK.c8 4
   have f0:=frozen_of hK.c8 0
   have f1:=frozen_of hK.c8 1
   have f2:=frozen_of hK.c8 2
   have f3:=frozen_of hK.c8 3
   have f4:=frozen_of hK.c8 4
   have HK:=Lib.hid hK
   clear hK hall hlt hj
   go_wp2_with fail
   obtain ⟨W9,hW9⟩ : ∃ W9,W9 = (((((wr.setCell ⟨w.heap.size,0,none⟩ (.slice xp (valsB st.bits a.values.zipIdx).length xc)).setCell ⟨w.heap.size,1,none⟩ (.int .i64 st.low)).setCell ⟨w.heap.size,2,none⟩ (.int .i64 st.high)).setCell ⟨w.heap.size,3,none⟩ (.slice fvp (factsK (heldF R ver) (s,c)).length fvc)).setCell ⟨w.heap.size,4,none⟩ (.bool d)):=⟨_,rfl⟩
   rw [← hW9]
   have hbe : Below w.heap.size w W9:=by
    have hx:=HK.out.below
    rw [hW9];exact bel
   have hb9 : W9.heap[w.heap.size]? = some (.cells #[.slice xp (valsB st.bits a.values.zipIdx).length xc,.int .i64 st.low,.int .i64 st.high,.slice fvp (factsK (heldF R ver) (s,c)).length fvc,.bool d] 52 (0,0)):=by
    have hb:=HK.out.c8
    rw [hW9];simp only [heap_drawn_get,heap_drew_get,heap_setCell_get,heap_alloc_get,World.size_alloc,World.size_setCell,size_drawn,putObj_get,putObj_size];(repeat (first | rw [if_pos trivial] | rw [if_pos rfl] | rw [if_neg (by omega)] | rw [if_pos (by omega)]))
    rw [hb];rfl
   have hkeep : ∀ (g : Nat) (cs : Array Value) (T : TypeId) (fr : Nat × Nat),T ≠ 52 → wr.heap[g]? = some (.cells cs T fr) → W9.heap[g]? = wr.heap[g]?:=fun g cs T fr hT hgg=>by
    have hne : g ≠ w.heap.size:=by
     rintro rfl
     rw [HK.out.c8] at hgg
     injection hgg with e1
     injection e1 with e2 e3 e4
     exact hT e3.symm
    rw [hW9]
    simp only [heap_setCell_get,if_neg hne]
   have hrow1 : W9.ownsRow w8.heap.size 9 1 (.slice xp (valsB st.bits a.values.zipIdx).length xc) (valsB st.bits a.values.zipIdx).length ((valsB st.bits a.values.zipIdx).map Value.string):=owns_keep HK.out.row fun g cs _ hgg=>hkeep g cs 9 _ (by decide) hgg
   have hrow2 : W9.ownsRow w.heap.size 3 1 (.slice fvp (factsK (heldF R ver) (s,c)).length fvc) (factsK (heldF R ver) (s,c)).length ((factsK (heldF R ver) (s,c)).map (Value.int .i64)):=owns_keep HK.out.fs fun g cs _ hgg=>hkeep g cs 3 _ (by decide) hgg
   have r0:=cell_of hb9 0
   have r1:=cell_of hb9 1
   have r2:=cell_of hb9 2
   have r3:=cell_of hb9 3
   have r4:=cell_of hb9 4
   simp only [List.getElem?_toArray,List.getElem?_cons_zero,List.getElem?_cons_succ] at r0 r1 r2 r3 r4
   refine bodyPost_ret (v:=.tuple #[.agg #[.slice xp (valsB st.bits a.values.zipIdx).length xc,.int .i64 st.low,.int .i64 st.high,.slice fvp (factsK (heldF R ver) (s,c)).length fvc,.bool d],.int .i64 0]) (by simp [results,Tryz.results13,go_sem,r0,r1,r2,r3,r4]) rfl ?_
   rw [HST.out,HD.out]
   exact ⟨_,_,rfl,owns_mono hrow1 HK.out.le,hrow2,hbe⟩
end Go.Proofs.YtihfcjioilmmjaaGreat
namespace Go.Proofs.YtihfcjioilmmjaaGreat
open Go Go.RowKit
open Go.Lib Go.Sort Go.Maps Go.Shelf Go.Proofs
structure WorldAt (W : World) (wb : Nat) (lw : List (Nat × Value)) (ρ : Nat → Int) : Prop where
 map : MapIs encP W wb lw
 cols : ∀ x ∈ lw,IsCol W x.1
 val : ∀ c,(look lw c).getD (.int .i64 0) = .int .i64 (ρ c)
theorem WorldAt.ext {W W' : World} {wb : Nat} {lw : List (Nat × Value)} {ρ : Nat → Int} (h : WorldAt W wb lw ρ) (hx : Ext W W') : WorldAt W' wb lw ρ:=⟨h.map.ext hx,fun x hm=>let ⟨cs,hc⟩:=h.cols x hm;⟨cs,hx.obj hc⟩,h.val⟩
def Good (R : Rec) (ρ : Nat → Int) : Prop:=∀ x ∈ R.cols,x.1.values ≠ [] → 0 ≤ ρ x.2 ∧ ρ x.2 < 8
def ColsAt (R : Rec) (w : World) : Prop:=∀ x ∈ R.cols,IsCol w x.2
theorem ColsAt.ext {R : Rec} {w W : World} (h : ColsAt R w) (hx : Ext w W) : ColsAt R W:=fun x hm=>let ⟨cs,hc⟩:=h x hm;⟨cs,hx.obj hc⟩
def Btw (lo hi : Nat) (w W : World) : Prop:=hi ≤ W.heap.size ∧ ∀ k,lo ≤ k → k < hi → W.heap[k]? = w.heap[k]?
theorem btw_ext {lo hi : Nat} {w W : World} (h : hi ≤ w.heap.size) (hx : Ext w W) : Btw lo hi w W:=⟨Nat.le_trans h hx.size,fun k _ hk=>hx.block k (by omega)⟩
theorem Btw.trans {lo hi : Nat} {a b c : World} (h : Btw lo hi a b) (g : Btw lo hi b c) : Btw lo hi a c:=⟨g.1,fun k h1 h2=>(g.2 k h1 h2).trans (h.2 k h1 h2)⟩
theorem Btw.mono {lo hi lo' hi' : Nat} {a b : World} (h : Btw lo hi a b) (h1 : lo ≤ lo') (h2 : hi' ≤ hi) : Btw lo' hi' a b:=⟨Nat.le_trans h2 h.1,fun k k1 k2=>h.2 k (by omega) (by omega)⟩
def TestOk (R : Rec) (lo hi : Nat) (w : World) (v : Value) (φ : (Nat → Int) → Bool) : Prop:=
 ∃ g lb,v = .func (.func g) #[] lb ∧ (∀ args w,(callFunc g args).run Tryz.prog w = .ok (.enter g args) w) ∧
  ∀ W wb lw ρ,Btw lo hi w W → ColsAt R W → WorldAt W wb lw ρ → Good R ρ → Calls Tryz.prog g (#[.map (some wb)] ++ lb) W fun e w'=>e = .returned (.bool (φ ρ)) ∧ Ext W w'
theorem TestOk.move {R : Rec} {lo hi : Nat} {w W : World} {v : Value} {φ : (Nat → Int) → Bool} (h : TestOk R lo hi w v φ) (hx : Btw lo hi w W) : TestOk R lo hi W v φ:=by
 obtain ⟨g,lb,h1,h2,h3⟩:=h
 exact ⟨g,lb,h1,h2,fun W' wb lw ρ hW=>h3 W' wb lw ρ (hx.trans hW)⟩
theorem WorldAt.lookup {W : World} {wb : Nat} {lw : List (Nat × Value)} {ρ : Nat → Int} (h : WorldAt W wb lw ρ) {c : Nat} (hc : IsCol W c) : (Instr.lookup 182 (.map (some wb)) (.pointer (some ⟨c,0,none⟩)) false).run Tryz.prog W = .ok (.int .i64 (ρ c)) W:=by
 have hq:=run_lookup1 (P:=Tryz.prog) (T:=182) (K:=101) (E:=3) (z:=.int .i64 0) (k:=c) (by kernel_rfl) h.map (finds_ptr W lw c hc h.cols) (by kernel_rfl)
 rw [h.val] at hq
 exact hq
set_option maxHeartbeats 1000000 in
set_option maxRecDepth 100000 in
theorem ask1_any (b9 b7 c : Nat) (s : St) (w : World) (h9 : w.heap[b9]? = some (.cells #[.int .u64 s.bits,.int .i64 s.low,.int .i64 s.high] 120 (0,0))) (h7 : w.cell? ⟨b7,0,none⟩ = some (.pointer (some ⟨c,0,none⟩))) (hc : IsCol w c) {wb : Nat} {lw : List (Nat × Value)} {ρ : Nat → Int} (hw : WorldAt w wb lw ρ) :
  Calls Tryz.prog 78 #[.map (some wb),.pointer (some ⟨b9,0,none⟩),.pointer (some ⟨b7,0,none⟩)] w fun e w'=>e = .returned (.bool (decide (s.low ≤ ρ c) && decide (ρ c ≤ s.high))) ∧ Ext w w':=by
 have hlk:=hw.lookup hc
 have c1 : w.cell? ⟨b9,1,none⟩ = some (.int .i64 s.low):=cell_of h9 1
 have c2 : w.cell? ⟨b9,2,none⟩ = some (.int .i64 s.high):=cell_of h9 2
 obtain ⟨r,hr⟩ : ∃ r,ρ c = r:=⟨_,rfl⟩
 rw [hr] at hlk ⊢
 obtain ⟨k1,e1⟩ : ∃ k1,decide (s.low ≤ r) = k1:=⟨_,rfl⟩
 obtain ⟨k2,e2⟩ : ∃ k2,decide (r ≤ s.high) = k2:=⟨_,rfl⟩
 rw [e1,e2]
 clear hw hr h9
 go_enter Tryz.func78,Tryz.ntmps78
 go_wp2_with fail
 all_goals (try (go_ret;refine ⟨?_,ext_refl _⟩;subst e1 e2;simp_all;(try (intros;omega))))
set_option maxHeartbeats 1000000 in
set_option maxRecDepth 100000 in
theorem ask2_any (b9 b7 c : Nat) (s : St) (hs : s.bits < 256) (w : World) (h9 : w.heap[b9]? = some (.cells #[.int .u64 s.bits,.int .i64 s.low,.int .i64 s.high] 120 (0,0))) (h7 : w.cell? ⟨b7,0,none⟩ = some (.pointer (some ⟨c,0,none⟩))) (hc : IsCol w c) {wb : Nat} {lw : List (Nat × Value)} {ρ : Nat → Int} (hw : WorldAt w wb lw ρ) (h0 : 0 ≤ ρ c) (h8 : ρ c < 8) :
  Calls Tryz.prog 79 #[.map (some wb),.pointer (some ⟨b9,0,none⟩),.pointer (some ⟨b7,0,none⟩)] w fun e w'=>e = .returned (.bool (s.bits.testBit (ρ c).toNat)) ∧ Ext w w':=by
 have hlk:=hw.lookup hc
 have c1 : w.cell? ⟨b9,0,none⟩ = some (.int .u64 s.bits):=cell_of h9 0
 obtain ⟨r,hr⟩ : ∃ r : Nat,ρ c = (r : Int):=⟨(ρ c).toNat,by omega⟩
 rw [hr] at hlk h8 ⊢
 have hbit:=bit_test s.bits r hs
 rw [show ((r : Int)).toNat = r from rfl]
 obtain ⟨bt,hbt⟩ : ∃ bt,s.bits.testBit r = bt:=⟨_,rfl⟩
 rw [hbt] at hbit ⊢
 have hr8 : r < 8:=by omega
 clear hw hr h9 h0 hbt
 go_enter Tryz.func79,Tryz.ntmps79
 go_wp2_with fail
 all_goals (go_ret;exact ⟨rfl,ext_refl _⟩)
def idxL : List Bool → Nat → Int
 | [],_=>-1
 | b :: r,i=>if b then (i : Int) else idxL r (i + 1)
theorem idxL_any : ∀ (l : List Bool) (i : Nat),decide (0 ≤ idxL l i) = l.any id
 | [],_=>by simp [idxL]
 | b :: r,i=>by
  cases b with
  | true=>simp [idxL]
  | false=>simpa [idxL] using idxL_any r (i + 1)
def PredT (W0 : World) (g : Nat) (lb : Array Value) (tvs : List Value) (bs : List Bool) : Prop:=
 (∀ args w,(callFunc g args).run Tryz.prog w = .ok (.enter g args) w) ∧ tvs.length = bs.length ∧ ∀ (i : Nat) v b W,tvs[i]? = some v → bs[i]? = some b → Ext W0 W → Calls Tryz.prog g (#[v] ++ lb) W fun e w'=>e = .returned (.bool b) ∧ Ext W w'
set_option maxHeartbeats 1000000 in
set_option maxRecDepth 100000 in
theorem indexT_any (w : World) (v : Value) (tvs : List Value) (bs : List Bool) (g : Nat) (lb : Array Value) (hv : SlAt w v 1 tvs.length tvs) (hp : PredT w g lb tvs bs) :
  Calls Tryz.prog 115 #[v,.func (.func g) #[] lb] w fun e w'=>e = .returned (.int .i64 (idxL bs 0)) ∧ Ext w w':=by
 obtain ⟨a,cap,rfl,hcap,hml,hbad,hel⟩:=hv
 clear hbad
 have HEL:=Lib.hid hel
 have eg:=hp.1
 have hlb : bs.length = tvs.length:=hp.2.1.symm
 have HP:=Lib.hid hp.2.2
 clear hel hp
 unfold maxLen at hml
 go_enter Tryz.func115,Tryz.ntmps115
 go_wp2_with fail
 go_loopw [4,5,8] (fun _ _ i wr=>∃ k : Nat,k ≤ tvs.length ∧ i = .int .i64 k ∧ Hid (idxL bs 0 = idxL (bs.drop k) k) ∧ Ext w wr) (fun _ _ i _=>tvs.length - (intOf i).toNat)
 case atStart=>exact ⟨0,Nat.zero_le _,rfl,rfl,ext_refl _⟩
 case round=>
  obtain ⟨k,hk,rfl,hr,hx⟩:=hrel
  by_cases hlt : k < tvs.length
  ·obtain ⟨x,hz⟩ : ∃ x,tvs[k]? = some x:=⟨_,List.getElem?_eq_getElem hlt⟩
   obtain ⟨bx,hbx⟩ : ∃ bx,bs[k]? = some bx:=⟨_,List.getElem?_eq_getElem (by omega)⟩
   obtain ⟨b,off,rfl,hc⟩:=HEL.out k x hz
   have c0:=Ext.cell' hx hc
   have hd : bs.drop k = bx :: bs.drop (k + 1):=by
    rw [List.drop_eq_getElem_cons (by omega)]
    congr 1
    rw [List.getElem?_eq_getElem (by omega)] at hbx
    exact Option.some.inj hbx
   have HD:=Lib.hid hd
   have HZ:=Lib.hid hz
   have HBX:=Lib.hid hbx
   have HLB:=Lib.hid hlb
   clear hd hc hz hbx
   go_wp2_with fail
   refine (HP.out k x bx wr HZ.out HBX.out hx).mono ?_
   rintro e w2 ⟨rfl,hx2⟩
   cases bx with
   | true=>
    go_wp2_with fail
    go_ret
    refine ⟨?_,Ext.trans' hx hx2⟩
    rw [hr.out,HD.out]
    rfl
   | false=>
    go_wp2_with fail
    refine ⟨⟨k + 1,by omega,rfl,?_,Ext.trans' hx hx2⟩,by simp [intOf];omega⟩
    refine hr.out.trans ?_
    rw [HD.out]
    rfl
  ·obtain rfl : k = tvs.length:=by omega
   go_wp2_with fail
   go_ret
   refine ⟨?_,hx⟩
   rw [hr.out,List.drop_eq_nil_of_le (by omega)];rfl
set_option maxHeartbeats 1000000 in
set_option maxRecDepth 100000 in
theorem containsT_any (w : World) (v : Value) (tvs : List Value) (bs : List Bool) (g : Nat) (lb : Array Value) (hv : SlAt w v 1 tvs.length tvs) (hp : PredT w g lb tvs bs) :
  Calls Tryz.prog 85 #[v,.func (.func g) #[] lb] w fun e w'=>e = .returned (.bool (bs.any id)) ∧ Ext w w':=by
 have hI:=indexT_any w v tvs bs g lb hv hp
 have hb:=idxL_any bs 0
 obtain ⟨a,cap,rfl,hbad⟩:=hv
 clear hbad
 have HB:=Lib.hid hb
 have HI:=Lib.hid hI
 clear hb hI hp
 go_enter Tryz.func85,Tryz.ntmps85
 go_wp2_with fail
 refine HI.out.mono ?_
 rintro e w' ⟨rfl,hx⟩
 go_wp2_with fail
 go_ret
 (first | exact ⟨rfl,hx⟩ | exact ⟨by rw [← HB.out];rfl,hx⟩)
set_option maxHeartbeats 1000000 in
set_option maxRecDepth 100000 in
theorem holds1_any {R : Rec} {lo hi : Nat} {w : World} {v : Value} {φ : (Nat → Int) → Bool} (ht : TestOk R lo hi w v φ) (hhi : hi ≤ w.heap.size) (hco : ColsAt R w) {wb : Nat} {lw : List (Nat × Value)} {ρ : Nat → Int} (hw : WorldAt w wb lw ρ) (hg : Good R ρ) (bb : Nat) (hb : w.cell? ⟨bb,0,none⟩ = some (.map (some wb))) :
  Calls Tryz.prog 81 #[v,.pointer (some ⟨bb,0,none⟩)] w fun e w'=>e = .returned (.bool (φ ρ)) ∧ Ext w w':=by
 obtain ⟨g,lb,rfl,eg,h3⟩:=ht
 have H3:=Lib.hid (h3 w wb lw ρ (btw_ext hhi (ext_refl _)) hco hw hg)
 clear h3 hw hg hco
 go_enter Tryz.func81,Tryz.ntmps81
 go_wp2_with fail
 refine H3.out.mono ?_
 rintro e w2 ⟨rfl,hx2⟩
 go_wp2_with fail
 go_ret
 exact ⟨rfl,hx2⟩
set_option maxHeartbeats 1000000 in
set_option maxRecDepth 100000 in
theorem fails1_any {R : Rec} {lo hi : Nat} {w : World} {v : Value} {φ : (Nat → Int) → Bool} (ht : TestOk R lo hi w v φ) (hhi : hi ≤ w.heap.size) (hco : ColsAt R w) {wb : Nat} {lw : List (Nat × Value)} {ρ : Nat → Int} (hw : WorldAt w wb lw ρ) (hg : Good R ρ) (bb : Nat) (hb : w.cell? ⟨bb,0,none⟩ = some (.map (some wb))) :
  Calls Tryz.prog 83 #[v,.pointer (some ⟨bb,0,none⟩)] w fun e w'=>e = .returned (.bool (!φ ρ)) ∧ Ext w w':=by
 obtain ⟨g,lb,rfl,eg,h3⟩:=ht
 have H3:=Lib.hid (h3 w wb lw ρ (btw_ext hhi (ext_refl _)) hco hw hg)
 clear h3 hw hg hco
 go_enter Tryz.func83,Tryz.ntmps83
 go_wp2_with fail
 refine H3.out.mono ?_
 rintro e w2 ⟨rfl,hx2⟩
 go_wp2_with fail
 go_ret
 exact ⟨rfl,hx2⟩
set_option maxHeartbeats 1000000 in
set_option maxRecDepth 100000 in
theorem ask3_any (wb : Nat) (w : World) : Calls Tryz.prog 80 #[.map (some wb)] w fun e w'=>e = .returned (.func (.func 81) #[] #[.pointer (some ⟨w.heap.size,0,none⟩)]) ∧ w'.cell? ⟨w.heap.size,0,none⟩ = some (.map (some wb)) ∧ Ext w w':=by
 go_enter Tryz.func80,Tryz.ntmps80
 go_wp2_with fail
 go_ret
 have hb : (w.alloc (.cells #[.map (some wb)] 182 (0,0))).heap[w.heap.size]? = some (.cells #[.map (some wb)] 182 (0,0)):=by simp only [heap_drawn_get,heap_drew_get,heap_setCell_get,heap_alloc_get,World.size_alloc,World.size_setCell,size_drawn,putObj_get,putObj_size];(repeat (first | rw [if_pos trivial] | rw [if_pos rfl] | rw [if_neg (by omega)] | rw [if_pos (by omega)]))
 exact ⟨rfl,cell_of hb 0,by exact bel⟩
set_option maxHeartbeats 1000000 in
set_option maxRecDepth 100000 in
theorem ask4_any (wb : Nat) (w : World) : Calls Tryz.prog 82 #[.map (some wb)] w fun e w'=>e = .returned (.func (.func 83) #[] #[.pointer (some ⟨w.heap.size,0,none⟩)]) ∧ w'.cell? ⟨w.heap.size,0,none⟩ = some (.map (some wb)) ∧ Ext w w':=by
 go_enter Tryz.func82,Tryz.ntmps82
 go_wp2_with fail
 go_ret
 have hb : (w.alloc (.cells #[.map (some wb)] 182 (0,0))).heap[w.heap.size]? = some (.cells #[.map (some wb)] 182 (0,0)):=by simp only [heap_drawn_get,heap_drew_get,heap_setCell_get,heap_alloc_get,World.size_alloc,World.size_setCell,size_drawn,putObj_get,putObj_size];(repeat (first | rw [if_pos trivial] | rw [if_pos rfl] | rw [if_neg (by omega)] | rw [if_pos (by omega)]))
 exact ⟨rfl,cell_of hb 0,by exact bel⟩
def TestsAt (R : Rec) (w : World) (v : Value) (tvs : List Value) (φs : List ((Nat → Int) → Bool)) : Prop:=
 SlAt w v 1 tvs.length tvs ∧ tvs.length = φs.length ∧ ColsAt R w ∧ ∀ (i : Nat) t φ,tvs[i]? = some t → φs[i]? = some φ → ∃ lo hi,hi ≤ w.heap.size ∧ TestOk R lo hi w t φ
theorem TestsAt.ext {R : Rec} {w W : World} {v : Value} {tvs : List Value} {φs : List ((Nat → Int) → Bool)} (h : TestsAt R w v tvs φs) (hx : Ext w W) : TestsAt R W v tvs φs:=⟨h.1.ext hx,h.2.1,h.2.2.1.ext hx,fun i t φ ht hφ=>let ⟨lo,hi,h1,h2⟩:=h.2.2.2 i t φ ht hφ;⟨lo,hi,Nat.le_trans h1 hx.size,h2.move (btw_ext h1 hx)⟩⟩
theorem pred81 {R : Rec} {w : World} {v : Value} {tvs : List Value} {φs : List ((Nat → Int) → Bool)} (h : TestsAt R w v tvs φs) {wb : Nat} {lw : List (Nat × Value)} {ρ : Nat → Int} (hw : WorldAt w wb lw ρ) (hg : Good R ρ) {bb : Nat} (hb : w.cell? ⟨bb,0,none⟩ = some (.map (some wb))) : PredT w 81 #[.pointer (some ⟨bb,0,none⟩)] tvs (φs.map fun φ=>φ ρ):=by
 refine ⟨enters_of Tryz.func81 (by kernel_rfl) rfl,by rw [List.length_map];exact h.2.1,fun i t b W ht hb' hW=>?_⟩
 rw [List.getElem?_map] at hb'
 obtain ⟨φ,hφ,rfl⟩:=Option.map_eq_some_iff.1 hb'
 have h':=h.ext hW
 obtain ⟨lo,hi,k1,k2⟩:=h'.2.2.2 i t φ ht hφ
 exact holds1_any k2 k1 h'.2.2.1 (hw.ext hW) hg bb (hW.cell' hb)
theorem pred83 {R : Rec} {w : World} {v : Value} {tvs : List Value} {φs : List ((Nat → Int) → Bool)} (h : TestsAt R w v tvs φs) {wb : Nat} {lw : List (Nat × Value)} {ρ : Nat → Int} (hw : WorldAt w wb lw ρ) (hg : Good R ρ) {bb : Nat} (hb : w.cell? ⟨bb,0,none⟩ = some (.map (some wb))) : PredT w 83 #[.pointer (some ⟨bb,0,none⟩)] tvs (φs.map fun φ=>!φ ρ):=by
 refine ⟨enters_of Tryz.func83 (by kernel_rfl) rfl,by rw [List.length_map];exact h.2.1,fun i t b W ht hb' hW=>?_⟩
 rw [List.getElem?_map] at hb'
 obtain ⟨φ,hφ,rfl⟩:=Option.map_eq_some_iff.1 hb'
 have h':=h.ext hW
 obtain ⟨lo,hi,k1,k2⟩:=h'.2.2.2 i t φ ht hφ
 exact fails1_any k2 k1 h'.2.2.1 (hw.ext hW) hg bb (hW.cell' hb)
def TsI (w : World) (g wb : Nat) (b : Bool) (us : List Value) (W : World) : Prop:=
 match us with
 | []=>Ext w W
 | [u]=>∃ bb,u = .func (.func g) #[] #[.pointer (some ⟨bb,0,none⟩)] ∧ W.cell? ⟨bb,0,none⟩ = some (.map (some wb)) ∧ Ext w W
 | _ :: v :: _=>v = .bool b ∧ Ext w W
theorem TsI.pre {w : World} {g wb : Nat} {b : Bool} {us : List Value} {W : World} (h : TsI w g wb b us W) : Ext w W:=by
 match us,h with
 | [],h=>exact h
 | [_],⟨_,_,_,h⟩=>exact h
 | _ :: _ :: _,⟨_,h⟩=>exact h
set_option maxHeartbeats 1000000 in
set_option maxRecDepth 100000 in
theorem ask5_any {R : Rec} {w : World} {sv : Value} {tvs : List Value} {φs : List ((Nat → Int) → Bool)} (h : TestsAt R w sv tvs φs) (b10 b18 : Nat) (h10 : w.cell? ⟨b10,0,none⟩ = some sv) (h18 : w.cell? ⟨b18,0,none⟩ = some (.func (.func 82) #[] #[])) {wb : Nat} {lw : List (Nat × Value)} {ρ : Nat → Int} (hw : WorldAt w wb lw ρ) (hg : Good R ρ) :
  Calls Tryz.prog 84 #[.map (some wb),.pointer (some ⟨b10,0,none⟩),.pointer (some ⟨b18,0,none⟩)] w fun e w'=>e = .returned (.bool (φs.all fun φ=>φ ρ)) ∧ Ext w w':=by
 have hall : (!((φs.map fun φ=>!φ ρ).any id)) = φs.all fun φ=>φ ρ:=by
  rw [List.any_map,List.all_eq_not_any_not];rfl
 obtain ⟨bq,hbq⟩ : ∃ bq,((φs.map fun φ=>!φ ρ).any id) = bq:=⟨_,rfl⟩
 rw [hbq] at hall
 have H10:=Lib.hid h10
 have H18:=Lib.hid h18
 have HALL:=Lib.hid hall
 have HBQ:=Lib.hid hbq
 have H:=Lib.hid h
 have HW:=Lib.hid hw
 have e82:=enters_of Tryz.func82 (by kernel_rfl) rfl
 clear h10 h18 hall hbq h hw
 go_enter Tryz.func84,Tryz.ntmps84
 go_wp2_with fail
 refine Rt.wp_region_rt (by kernel_rfl) [0,1,2,3,4,5,6] [3,4] [1,0,0] [0,0,0,6,15,31,63] (by kernel_rfl) (TsI w 83 wb bq) ?_ ?_
 ·exact (below_drawn (ext_refl _) _ : Ext _ _)
 (refine Rt.rs_rd rfl rfl rfl ?_;apply Exists.intro;refine ⟨fun us' W hp hl hI=>?_,?_⟩;· (have g1:=Ext.cell' hI.pre H10.out;go_simp;rfl));simp only [Act.put,zA,zB,zC,zD,zE,zF]
 (refine Rt.rs_rd rfl rfl rfl ?_;apply Exists.intro;refine ⟨fun us' W hp hl hI=>?_,?_⟩;· (have g1:=Ext.cell' hI.pre H18.out;go_simp;rfl));simp only [Act.put,zA,zB,zC,zD,zE,zF]
 (refine Rt.rs_sil rfl rfl rfl (fun K hK=>?_);go_simp;refine hK _ ?_;clear hK K)
 refine Rt.rs_eff rfl rfl rfl (fun W hI=>?_) (fun v hv=>?_)
 ·have hE:=hI.pre
  refine Rt.gives_cal ?_
  apply Exists.intro
  apply Exists.intro
  apply Exists.intro
  refine ⟨by go_simp;exact ⟨⟨rfl,rfl⟩,rfl⟩,?_⟩
  refine (ask4_any wb W).mono ?_
  rintro e w5 ⟨rfl,hc,hx5⟩
  exact ⟨_,rfl,_,rfl,hc,hE.trans' hx5⟩
 obtain ⟨bb,rfl⟩ : ∃ bb,v = .func (.func 83) #[] #[.pointer (some ⟨bb,0,none⟩)]:=let ⟨W,hI⟩:=hv;let ⟨bb,h,_⟩:=hI;⟨bb,h⟩
 clear hv
 simp only [Act.put,zA,zB,zC,zD,zE,zF]
 refine Rt.rs_eff rfl rfl rfl (fun W hI=>?_) (fun v hv=>?_)
 ·obtain ⟨bb',e,hc,hE⟩:=hI
  simp only [Value.func.injEq,Array.mk.injEq,List.cons.injEq,Value.pointer.injEq,Option.some.injEq,Addr.mk.injEq,and_true,true_and] at e
  subst e
  refine Rt.gives_cal ?_
  apply Exists.intro
  apply Exists.intro
  apply Exists.intro
  refine ⟨by go_simp;exact ⟨⟨rfl,rfl⟩,rfl⟩,?_⟩
  have hts:=H.out.ext hE
  refine (containsT_any W sv tvs _ 83 _ hts.1 (pred83 hts (HW.out.ext hE) hg hc)).mono ?_
  rintro e w5 ⟨rfl,hx5⟩
  exact ⟨_,rfl,by rw [HBQ.out],hE.trans' hx5⟩
 obtain rfl : v = .bool bq:=let ⟨W,hI⟩:=hv;hI.1
 clear hv
 simp only [Act.put,zA,zB,zC,zD,zE,zF]
 iterate 2 (refine Rt.rs_sil rfl rfl rfl (fun K hK=>?_);go_simp;refine hK _ ?_;clear hK K)
 refine Rt.rs_nil (fun W hI=>?_)
 have HX:=Lib.hid hI.pre
 clear hI
 go_wp2_with fail
 go_ret
 exact ⟨by rw [← HALL.out];rfl,HX.out⟩
set_option maxHeartbeats 1000000 in
set_option maxRecDepth 100000 in
theorem ask7_any {R : Rec} {w : World} {sv : Value} {tvs : List Value} {φs : List ((Nat → Int) → Bool)} (h : TestsAt R w sv tvs φs) (b10 b17 : Nat) (h10 : w.cell? ⟨b10,0,none⟩ = some sv) (h18 : w.cell? ⟨b17,0,none⟩ = some (.func (.func 80) #[] #[])) {wb : Nat} {lw : List (Nat × Value)} {ρ : Nat → Int} (hw : WorldAt w wb lw ρ) (hg : Good R ρ) :
  Calls Tryz.prog 87 #[.map (some wb),.pointer (some ⟨b10,0,none⟩),.pointer (some ⟨b17,0,none⟩)] w fun e w'=>e = .returned (.bool (φs.any fun φ=>φ ρ)) ∧ Ext w w':=by
 have hall : ((φs.map fun φ=>φ ρ).any id) = φs.any fun φ=>φ ρ:=by
  rw [List.any_map];rfl
 obtain ⟨bq,hbq⟩ : ∃ bq,((φs.map fun φ=>φ ρ).any id) = bq:=⟨_,rfl⟩
 rw [hbq] at hall
 have H10:=Lib.hid h10
 have H18:=Lib.hid h18
 have HALL:=Lib.hid hall
 have HBQ:=Lib.hid hbq
 have H:=Lib.hid h
 have HW:=Lib.hid hw
 have e82:=enters_of Tryz.func80 (by kernel_rfl) rfl
 clear h10 h18 hall hbq h hw
 go_enter Tryz.func87,Tryz.ntmps87
 go_wp2_with fail
 refine Rt.wp_region_rt (by kernel_rfl) [0,1,2,3,4,5] [3,4] [1,0,0] [0,0,0,6,15,31] (by kernel_rfl) (TsI w 81 wb bq) ?_ ?_
 ·exact (below_drawn (ext_refl _) _ : Ext _ _)
 (refine Rt.rs_rd rfl rfl rfl ?_;apply Exists.intro;refine ⟨fun us' W hp hl hI=>?_,?_⟩;· (have g1:=Ext.cell' hI.pre H10.out;go_simp;rfl));simp only [Act.put,zA,zB,zC,zD,zE,zF]
 (refine Rt.rs_rd rfl rfl rfl ?_;apply Exists.intro;refine ⟨fun us' W hp hl hI=>?_,?_⟩;· (have g1:=Ext.cell' hI.pre H18.out;go_simp;rfl));simp only [Act.put,zA,zB,zC,zD,zE,zF]
 (refine Rt.rs_sil rfl rfl rfl (fun K hK=>?_);go_simp;refine hK _ ?_;clear hK K)
 refine Rt.rs_eff rfl rfl rfl (fun W hI=>?_) (fun v hv=>?_)
 ·have hE:=hI.pre
  refine Rt.gives_cal ?_
  apply Exists.intro
  apply Exists.intro
  apply Exists.intro
  refine ⟨by go_simp;exact ⟨⟨rfl,rfl⟩,rfl⟩,?_⟩
  refine (ask3_any wb W).mono ?_
  rintro e w5 ⟨rfl,hc,hx5⟩
  exact ⟨_,rfl,_,rfl,hc,hE.trans' hx5⟩
 obtain ⟨bb,rfl⟩ : ∃ bb,v = .func (.func 81) #[] #[.pointer (some ⟨bb,0,none⟩)]:=let ⟨W,hI⟩:=hv;let ⟨bb,h,_⟩:=hI;⟨bb,h⟩
 clear hv
 simp only [Act.put,zA,zB,zC,zD,zE,zF]
 refine Rt.rs_eff rfl rfl rfl (fun W hI=>?_) (fun v hv=>?_)
 ·obtain ⟨bb',e,hc,hE⟩:=hI
  simp only [Value.func.injEq,Array.mk.injEq,List.cons.injEq,Value.pointer.injEq,Option.some.injEq,Addr.mk.injEq,and_true,true_and] at e
  subst e
  refine Rt.gives_cal ?_
  apply Exists.intro
  apply Exists.intro
  apply Exists.intro
  refine ⟨by go_simp;exact ⟨⟨rfl,rfl⟩,rfl⟩,?_⟩
  have hts:=H.out.ext hE
  refine (containsT_any W sv tvs _ 81 _ hts.1 (pred81 hts (HW.out.ext hE) hg hc)).mono ?_
  rintro e w5 ⟨rfl,hx5⟩
  exact ⟨_,rfl,by rw [HBQ.out],hE.trans' hx5⟩
 obtain rfl : v = .bool bq:=let ⟨W,hI⟩:=hv;hI.1
 clear hv
 simp only [Act.put,zA,zB,zC,zD,zE,zF]
 (refine Rt.rs_sil rfl rfl rfl (fun K hK=>?_);go_simp;refine hK _ ?_;clear hK K)
 refine Rt.rs_nil (fun W hI=>?_)
 have HX:=Lib.hid hI.pre
 clear hI
 go_wp2_with fail
 go_ret
 exact ⟨by rw [← HALL.out];rfl,HX.out⟩
set_option maxHeartbeats 1000000 in
set_option maxRecDepth 100000 in
theorem ask6_any {R : Rec} {w : World} {sv : Value} {tvs : List Value} {φs : List ((Nat → Int) → Bool)} (h : TestsAt R w sv tvs φs) (b10 : Nat) (h10 : w.cell? ⟨b10,0,none⟩ = some sv) {φ : (Nat → Int) → Bool} (h0 : φs = [φ]) {wb : Nat} {lw : List (Nat × Value)} {ρ : Nat → Int} (hw : WorldAt w wb lw ρ) (hg : Good R ρ) :
  Calls Tryz.prog 86 #[.map (some wb),.pointer (some ⟨b10,0,none⟩)] w fun e w'=>e = .returned (.bool (!φ ρ)) ∧ Ext w w':=by
 obtain ⟨⟨a,cap,rfl,hcap,hml,hbad,hel⟩,hlen,hco,hall⟩:=h
 subst h0
 have hl1 : tvs.length = 1:=hlen
 obtain ⟨t,ht⟩ : ∃ t,tvs[0]? = some t:=⟨_,List.getElem?_eq_getElem (by omega)⟩
 obtain ⟨lo,hi,hhi,g,lb,rfl,eg,h3⟩:=hall 0 t φ ht rfl
 obtain ⟨tb,off,rfl,hc⟩:=hel 0 _ ht
 rw [Nat.add_zero] at hc
 have H3:=Lib.hid (h3 w wb lw ρ (btw_ext hhi (ext_refl _)) hco hw hg)
 rw [hl1] at h10 hcap
 clear h3 hw hg hbad hel hall hco ht hlen hl1 hml
 go_enter Tryz.func86,Tryz.ntmps86
 go_wp2_with fail
 refine H3.out.mono ?_
 rintro e w2 ⟨rfl,hx2⟩
 go_wp2_with fail
 go_ret
 exact ⟨rfl,hx2⟩
end Go.Proofs.YtihfcjioilmmjaaGreat
namespace Go.Proofs.YtihfcjioilmmjaaGreat
open Go Go.RowKit
open Go.Lib Go.Sort Go.Maps Go.Shelf Go.Proofs
structure Qn where
 size : Nat
 marks : Nat → Option (List Int)
 φ : (Nat → Int) → Bool
structure Acc where
 size : Nat
 marks : Nat → Option (List Int)
 φs : List ((Nat → Int) → Bool)
def mergeM (μ ν : Nat → Option (List Int)) (c : Nat) : Option (List Int):=match ν c with
 | none=>μ c
 | some l=>some ((μ c).getD [] ++ l)
def inQ (a : Attr) (c : Nat) (s : St) (lo hi : Int) : Qn:=
 ⟨1,fun c'=>if c' = c then some (if a.values = [] then [lo,hi + 1] else []) else none,fun ρ=>if a.values = [] then decide (s.low ≤ ρ c) && decide (ρ c ≤ s.high) else s.bits.testBit (ρ c).toNat⟩
def nodeBad (attr : ByteArray) (values : List ByteArray) (lo hi : Int) (op : Int) (n : Nat) : Bool:=
 decide (attr ≠ ⟨#[]⟩) || (decide (0 < values.length) || (decide (lo ≠ 0) || (decide (hi ≠ 0) || (decide (n < 1) || (decide (op = 2) && decide (n ≠ 1))))))
def closeQ (op : Int) (acc : Acc) : Option Qn:=
 if op = 2 then some ⟨acc.size,acc.marks,fun ρ=>match acc.φs with | φ :: _=>!φ ρ | []=>false⟩
 else if op = 3 then some ⟨acc.size,acc.marks,fun ρ=>acc.φs.all fun φ=>φ ρ⟩
 else if op = 4 then some ⟨acc.size,acc.marks,fun ρ=>acc.φs.any fun φ=>φ ρ⟩
 else none
mutual
def askF (R : Rec) : Exp → Option Qn
 | .mk op attr values lo hi kids=>
  if op = 1 then
   match colOf R attr with
   | none=>none
   | some c=>if kids.length = 0 then (if (readF c.1 values lo hi).2 then some (inQ c.1 c.2 (readF c.1 values lo hi).1 lo hi) else none) else none
  else if nodeBad attr values lo hi op kids.length then none
  else match askL R kids ⟨1,fun _=>none,[]⟩ with
   | none=>none
   | some acc=>closeQ op acc
def askL (R : Rec) : List Exp → Acc → Option Acc
 | [],acc=>some acc
 | k :: r,acc=>match askF R k with
  | none=>none
  | some q=>if acc.size ≤ 30 then askL R r ⟨acc.size + q.size,mergeM acc.marks q.marks,acc.φs ++ [q.φ]⟩ else none
end
mutual
def Exp.nodes : Exp → Nat
 | .mk _ _ _ _ _ kids=>1 + nodesL kids
def nodesL : List Exp → Nat
 | []=>0
 | k :: r=>k.nodes + nodesL r
end
structure MarksAt (B : Nat) (R : Rec) (w : World) (mb : Nat) (lm : List (Nat × Value)) (μ : Nat → Option (List Int)) : Prop where
 map : MapIs encP w mb lm
 nodup : (lm.map (·.1)).Nodup
 none_ : ∀ c,look lm c = none → μ c = none
 some_ : ∀ c v,look lm c = some v → ∃ l,μ c = some l ∧ w.ownsRow B 3 1 v l.length (l.map (Value.int .i64))
 dis : ∀ c c' v v',look lm c = some v → look lm c' = some v' → c ≠ c' → v.ownBlock ≠ v'.ownBlock ∨ v.ownBlock = none
 cols : ∀ x ∈ lm,∃ a,(a,x.1) ∈ R.cols
theorem MarksAt.ext {B : Nat} {R : Rec} {w W : World} {mb : Nat} {lm : List (Nat × Value)} {μ : Nat → Option (List Int)} (h : MarksAt B R w mb lm μ) (hx : Ext w W) : MarksAt B R W mb lm μ:=
 {map:=h.map.ext hx,nodup:=h.nodup,none_:=h.none_,some_:=fun c v hc=>let ⟨l,h1,h2⟩:=h.some_ c v hc;⟨l,h1,owns_keep h2 fun g _ _ hg=>hx.block g (heap_lt hg)⟩,dis:=h.dis,cols:=h.cols }
structure QAt (B hi : Nat) (R : Rec) (w : World) (qb : Nat) (q : Qn) (tv : Value) (mb : Nat) (lm : List (Nat × Value)) : Prop where
 blk : w.heap[qb]? = some (.cells #[tv,.int .i64 (q.size : Int),.map (some mb)] 168 (0,0))
 test : TestOk R B hi w tv q.φ
 hiW : hi ≤ w.heap.size
 bk : B ≤ qb ∧ qb < hi ∧ B ≤ mb ∧ mb < hi
 marks : MarksAt B R w mb lm q.marks
theorem QAt.ext {B hi : Nat} {R : Rec} {w W : World} {qb : Nat} {q : Qn} {tv : Value} {mb : Nat} {lm : List (Nat × Value)} (h : QAt B hi R w qb q tv mb lm) (hx : Ext w W) : QAt B hi R W qb q tv mb lm:=⟨hx.obj h.blk,h.test.move (btw_ext h.hiW hx),Nat.le_trans h.hiW hx.size,h.bk,h.marks.ext hx⟩
theorem append_marks {W : World} {base b2 : Nat} {v u : Value} {k m : Nat} {xs row : List Value} (hown : W.ownsRow base 3 1 v k xs) (hu : W.ownsRow b2 3 1 u m row) (h1 : ∀ u ∈ row,u.oneCell' = true) (hk : k + m ≤ 1000000) (hb : base ≤ W.heap.size) :
  ∃ v' w',(Builtin.append_ #[35,35] 35 #[v,u]).run Tryz.prog W = .ok v' w' ∧ w'.ownsRow base 3 1 v' (k + m) (xs ++ row) ∧ W.grownBy w' v.ownBlock ∧ (v'.ownBlock = v.ownBlock ∨ v'.ownBlock = some W.heap.size):=by
 rcases hu.2 with ⟨rfl,rfl⟩ | ⟨g,cap,cur,rfl,hgb,hgg,r1,r2,r3,r4⟩
 ·have h0 : row = []:=List.eq_nil_of_length_eq_zero (by simpa using hu.1)
  subst h0
  obtain ⟨i0,hi,hz0,hz1,hz2⟩:=info_parts vinfo3
  exact ⟨v,W,run_append_owned_none (P:=Tryz.prog) (w:=W) base 35 35 3 i0 1 (by kernel_rfl) hi v k xs hown,by simpa using hown,⟨rfl,rfl,rfl,Nat.le_refl _,fun _ _ _=>rfl⟩,.inl rfl⟩
 ·refine append_ints hown g m (by simpa using hu.1) (fun j u hj=>?_) h1 hk hb cap
  rw [Nat.zero_add,cell_of hgg]
  rw [← r4,List.getElem?_take] at hj
  split at hj
  ·simpa using hj
  ·cases hj
theorem one_ints (l : List Int) : ∀ u ∈ l.map (Value.int .i64),u.oneCell' = true:=fun u hu=>by
 obtain ⟨n,_,rfl⟩:=List.mem_map.1 hu;rfl
theorem lookNat_set {lm : List (Nat × Value)} {k c : Nat} {v : Value} : look (mput lm k v) c = if c = k then some v else look lm c:=by
 by_cases h : c = k
 ·subst h;rw [look_mput_same,if_pos rfl]
 ·rw [look_mput_other _ _ _ _ h,if_neg h]
theorem MarksAt.put {B : Nat} {R : Rec} {w : World} {mb : Nat} {lm : List (Nat × Value)} {μ : Nat → Option (List Int)} (h : MarksAt B R w mb lm μ) (c : Nat) {a : Attr} (hc : (a,c) ∈ R.cols) (v : Value) (l : List Int) (hv : w.ownsRow B 3 1 v l.length (l.map (Value.int .i64)))
  (hd : ∀ c' v',look lm c' = some v' → c' ≠ c → v.ownBlock ≠ v'.ownBlock ∨ v.ownBlock = none) (hd' : ∀ c' v',look lm c' = some v' → c' ≠ c → v'.ownBlock ≠ v.ownBlock ∨ v'.ownBlock = none) :
  MarksAt B R (wput encP w mb (mput lm c v)) mb (mput lm c v) (fun c'=>if c' = c then some l else μ c'):=by
 have hm:=h.map
 have hlt:=heap_lt hm
 unfold MapIs at hm
 refine { map:=wput_same hlt,nodup:=nodup_mput h.nodup c v,none_:=fun k hk=>?_,some_:=fun k u hk=>?_,dis:=fun k k' u u' hk hk' hne=>?_,cols:=fun x hx=>?_ }
 ·rw [lookNat_set] at hk
  split at hk
  ·cases hk
  ·rename_i hkc;rw [if_neg hkc];exact h.none_ k hk
 ·rw [lookNat_set] at hk
  split at hk
  ·rename_i hkc
   obtain rfl:=Option.some.inj hk
   exact ⟨l,by rw [if_pos hkc],put_owns hm hv⟩
  ·rename_i hkc
   obtain ⟨l',h1,h2⟩:=h.some_ k u hk
   exact ⟨l',by rw [if_neg hkc];exact h1,put_owns hm h2⟩
 ·rw [lookNat_set] at hk hk'
  split at hk
  ·rename_i hkc
   obtain rfl:=Option.some.inj hk
   split at hk'
   ·rename_i hkc';exact absurd (hkc.trans hkc'.symm) hne
   ·rename_i hkc';exact hd k' u' hk' hkc'
  ·rename_i hkc
   split at hk'
   ·obtain rfl:=Option.some.inj hk'
    exact hd' k u hk hkc
   ·exact h.dis k k' u u' hk hk' hne
 ·rcases mput_mem lm c v x hx with rfl | ⟨hx,_⟩
  ·exact ⟨a,hc⟩
  ·exact h.cols x hx
theorem MarksAt.grow {B : Nat} {R : Rec} {w : World} {mb : Nat} {lm : List (Nat × Value)} {μ : Nat → Option (List Int)} (h : MarksAt B R w mb lm μ) (c : Nat) {a : Attr} (hc : (a,c) ∈ R.cols) (l : List Int) {W : World} {v' : Value}
  (hg : w.grownBy W ((look lm c).getD (.slice none 0 0)).ownBlock) (hr : W.ownsRow B 3 1 v' (((μ c).getD []).length + l.length) (((μ c).getD []).map (Value.int .i64) ++ l.map (Value.int .i64)))
  (hat : v'.ownBlock = ((look lm c).getD (.slice none 0 0)).ownBlock ∨ v'.ownBlock = some w.heap.size) :
  MarksAt B R (wput encP W mb (mput lm c v')) mb (mput lm c v') (fun c'=>if c' = c then some ((μ c).getD [] ++ l) else μ c') ∧ MapIs encP W mb lm:=by
 obtain ⟨old,hold⟩ : ∃ old,(look lm c).getD (.slice none 0 0) = old:=⟨_,rfl⟩
 rw [hold] at hg hat
 have hrow0 : ∃ n xs,w.ownsRow B 3 1 old n xs:=by
  rw [← hold]
  cases hl : look lm c with
  | none=>exact ⟨0,[],World.ownsRow_nil _ _ _ _⟩
  | some v=>obtain ⟨l',_,h2⟩:=h.some_ c v hl;exact ⟨_,_,h2⟩
 obtain ⟨n0,xs0,hrow0⟩:=hrow0
 have hne : ∀ c' u,look lm c' = some u → c' ≠ c → u.ownBlock ≠ old.ownBlock ∨ u.ownBlock = none:=fun c' u hu hcc=>by
  rw [← hold]
  cases hl : look lm c with
  | none=>
   by_cases hn : u.ownBlock = none
   ·exact .inr hn
   ·exact .inl hn
  | some v=>exact h.dis c' c u v hu hl hcc
 have hm2 : MapIs encP W mb lm:=(frm_grown hrow0 hg).map h.map
 have hlook : ∀ c' u,look lm c' = some u → c' ≠ c → ∃ l',μ c' = some l' ∧ W.ownsRow B 3 1 u l'.length (l'.map (Value.int .i64)):=fun c' u hu hcc=>by
  obtain ⟨l',h1,h2⟩:=h.some_ c' u hu
  exact ⟨l',h1,h2.kept hg (hne c' u hu hcc).symm⟩
 have hlt:=heap_lt hm2
 have hm2':=hm2
 unfold MapIs at hm2'
 have hnew : ∀ c' u,look lm c' = some u → c' ≠ c → u.ownBlock ≠ v'.ownBlock ∨ u.ownBlock = none:=fun c' u hu hcc=>by
  rcases hat with e | e
  ·rw [e];exact hne c' u hu hcc
  ·rw [e]
   left
   intro e2
   obtain ⟨_,_,h2⟩:=h.some_ c' u hu
   have:=(h2.lt _ e2).2
   omega
 refine ⟨{ map:=wput_same hlt,nodup:=nodup_mput h.nodup c v',none_:=fun k hk=>?_,some_:=fun k u hk=>?_,dis:=fun k k' u u' hk hk' hne'=>?_,cols:=fun x hx=>?_ },hm2⟩
 ·rw [lookNat_set] at hk
  split at hk
  ·cases hk
  ·rename_i hkc;rw [if_neg hkc];exact h.none_ k hk
 ·rw [lookNat_set] at hk
  split at hk
  ·rename_i hkc
   obtain rfl:=Option.some.inj hk
   refine ⟨_,by rw [if_pos hkc],put_owns hm2' ?_⟩
   rw [List.length_append,List.map_append];exact hr
  ·rename_i hkc
   obtain ⟨l',h1,h2⟩:=hlook k u hk hkc
   exact ⟨l',by rw [if_neg hkc];exact h1,put_owns hm2' h2⟩
 ·rw [lookNat_set] at hk hk'
  split at hk
  ·rename_i hkc
   obtain rfl:=Option.some.inj hk
   split at hk'
   ·rename_i hkc';exact absurd (hkc.trans hkc'.symm) hne'
   ·rename_i hkc'
    by_cases hn : v'.ownBlock = none
    ·exact .inr hn
    ·rcases hnew k' u' hk' hkc' with e | e
     ·exact .inl (Ne.symm e)
     ·left;rw [e];exact hn
  ·rename_i hkc
   split at hk'
   ·obtain rfl:=Option.some.inj hk'
    exact hnew k u hk hkc
   ·exact h.dis k k' u u' hk hk' hne'
 ·rcases mput_mem lm c v' x hx with rfl | ⟨hx,_⟩
  ·exact ⟨a,hc⟩
  ·exact h.cols x hx
theorem marks_nil {B : Nat} {R : Rec} {w : World} {mb : Nat} (h : MapIs encP w mb []) : MarksAt B R w mb [] (fun _=>none):=
 {map:=h,nodup:=List.nodup_nil,none_:=fun _ _=>rfl,some_:=fun c v hc=>(by cases hc),dis:=fun c c' v v' hc=>(by cases hc),cols:=fun x hx=>(by cases hx) }
theorem readF_high {a : Attr} {values : List ByteArray} {lo hi : Int} (hv : a.values = []) (h : (readF a values lo hi).2 = true) : a.low ≤ lo ∧ lo ≤ hi ∧ hi ≤ a.high:=by
 unfold readF at h
 rw [if_pos hv] at h
 simp only [Bool.and_eq_true,decide_eq_true_eq] at h
 exact ⟨h.2.1,h.2.2.1,h.2.2.2⟩
def Cells (W W' : World) : Prop:=∀ (b : Nat) (cs : Array Value) (T : TypeId) (fr : Nat × Nat),W.heap[b]? = some (.cells cs T fr) → W'.heap[b]? = some (.cells cs T fr)
theorem cells_ext {W W' : World} (h : Ext W W') : Cells W W':=fun _ _ _ _ hb=>h.obj hb
theorem cells_put {W : World} {b : Nat} {es : Array MapEntry} {c : Nat} {o : Obj} (hb : W.heap[b]? = some (.map es c)) : Cells W (W.putObj b o):=fun _ _ _ _ hg=>put_cells hb hg
theorem Cells.trans {a b c : World} (h : Cells a b) (g : Cells b c) : Cells a c:=fun k cs T fr hk=>g k cs T fr (h k cs T fr hk)
theorem marks_one {B : Nat} {R : Rec} {w : World} {mb c : Nat} {v : Value} (h : MapIs encP w mb [(c,v)]) {a : Attr} (hc : (a,c) ∈ R.cols) (l : List Int) (hv : w.ownsRow B 3 1 v l.length (l.map (Value.int .i64))) : MarksAt B R w mb [(c,v)] (fun c'=>if c' = c then some l else none):=by
 refine { map:=h,nodup:=by simp,none_:=fun k hk=>?_,some_:=fun k u hk=>?_,dis:=fun k k' u u' hk hk' hne=>?_,cols:=fun x hx=>?_ }
 ·simp only [look] at hk
  split at hk
  ·cases hk
  ·rename_i hkc;exact if_neg (fun e=>hkc e.symm)
 ·simp only [look] at hk
  split at hk
  ·rename_i hkc
   obtain rfl:=Option.some.inj hk
   exact ⟨l,if_pos hkc.symm,hv⟩
  ·cases hk
 ·simp only [look] at hk hk'
  split at hk
  ·rename_i hkc
   split at hk'
   ·rename_i hkc';exact absurd (hkc.symm.trans hkc') hne
   ·cases hk'
  ·cases hk
 ·rw [List.mem_singleton.1 hx];exact ⟨a,hc⟩
theorem test_count {R : Rec} {lo hi : Nat} {w : World} {b9 b7 c : Nat} {s : St} (h9 : w.heap[b9]? = some (.cells #[.int .u64 s.bits,.int .i64 s.low,.int .i64 s.high] 120 (0,0))) (h7 : w.heap[b7]? = some (.cells #[.pointer (some ⟨c,0,none⟩)] 101 (0,0))) (k9 : lo ≤ b9 ∧ b9 < hi) (k7 : lo ≤ b7 ∧ b7 < hi) {a : Attr} (hcm : (a,c) ∈ R.cols) :
  TestOk R lo hi w (.func (.func 78) #[] #[.pointer (some ⟨b9,0,none⟩),.pointer (some ⟨b7,0,none⟩)]) (fun ρ=>decide (s.low ≤ ρ c) && decide (ρ c ≤ s.high)):=by
 refine ⟨78,_,rfl,enters_of Tryz.func78 (by kernel_rfl) rfl,fun W wb lw ρ hW hco hw hg=>?_⟩
 exact ask1_any b9 b7 c s W ((hW.2 b9 k9.1 k9.2).trans h9) (cell_of ((hW.2 b7 k7.1 k7.2).trans h7) 0) (hco (a,c) hcm) hw
theorem test_choice {R : Rec} {lo hi : Nat} {w : World} {b9 b7 c : Nat} {s : St} (hs : s.bits < 256) (h9 : w.heap[b9]? = some (.cells #[.int .u64 s.bits,.int .i64 s.low,.int .i64 s.high] 120 (0,0))) (h7 : w.heap[b7]? = some (.cells #[.pointer (some ⟨c,0,none⟩)] 101 (0,0))) (k9 : lo ≤ b9 ∧ b9 < hi) (k7 : lo ≤ b7 ∧ b7 < hi) {a : Attr} (hcm : (a,c) ∈ R.cols) (hv : a.values ≠ []) :
  TestOk R lo hi w (.func (.func 79) #[] #[.pointer (some ⟨b9,0,none⟩),.pointer (some ⟨b7,0,none⟩)]) (fun ρ=>s.bits.testBit (ρ c).toNat):=by
 refine ⟨79,_,rfl,enters_of Tryz.func79 (by kernel_rfl) rfl,fun W wb lw ρ hW hco hw hg=>?_⟩
 obtain ⟨g0,g8⟩:=hg (a,c) hcm hv
 exact ask2_any b9 b7 c s hs W ((hW.2 b9 k9.1 k9.2).trans h9) (cell_of ((hW.2 b7 k7.1 k7.2).trans h7) 0) (hco (a,c) hcm) hw g0 g8
theorem row_two {B : Nat} {w : World} {ab : Nat} {x y : Int} (h : w.heap[ab]? = some (.cells #[.int .i64 x,.int .i64 y] 3 (0,0))) (hb : B ≤ ab) : w.ownsRow B 3 1 (.slice (some ⟨ab,0,none⟩) 2 2) ([x,y] : List Int).length (([x,y] : List Int).map (Value.int .i64)):=
 ⟨rfl,.inr ⟨ab,2,_,rfl,hb,h,Nat.le_refl _,by decide,rfl,rfl⟩⟩
end Go.Proofs.YtihfcjioilmmjaaGreat
namespace Go.Proofs.YtihfcjioilmmjaaGreat
open Go Go.RowKit
open Go.Lib Go.Sort Go.Maps Go.Shelf Go.Proofs
def PtrI (wq : World) (pv : Value) (us : List Value) (W : World) : Prop:=
 match us with
 | []=>Ext wq W
 | [a]=>∃ W0,Ext wq W0 ∧ a = .pointer (some ⟨W0.heap.size,0,none⟩) ∧ W = W0.alloc (.cells #[.pointer none] 101 (0,0))
 | a :: _=>∃ bb,a = .pointer (some ⟨bb,0,none⟩) ∧ wq.heap.size ≤ bb ∧ Ext wq W ∧ W.heap[bb]? = some (.cells #[pv] 101 (0,0))
theorem PtrI.pre {wq : World} {pv : Value} {us : List Value} {W : World} (h : PtrI wq pv us W) (hl : us.length ≤ 1) : Ext wq W:=by
 match us,h,hl with
 | [],h,_=>exact h
 | [_],⟨W0,h,_,e⟩,_=>rw [e];exact h.trans' (by exact bel)
def BuI (wq : World) (T : TypeId) (row : List Value) (m : Nat) (P : Value → World → Prop) (us : List Value) (W : World) : Prop:=
 match us with
 | []=>Ext wq W
 | [u]=>∃ ab,u = .slice (some ⟨ab,0,none⟩) m m ∧ wq.heap.size ≤ ab ∧ W.heap[ab]? = some (.cells row.toArray T (0,0)) ∧ Ext wq W
 | u :: _=>P u W
theorem BuI.pre {wq : World} {T : TypeId} {row : List Value} {m : Nat} {P : Value → World → Prop} {us : List Value} {W : World} (h : BuI wq T row m P us W) (hl : us.length ≤ 1) : Ext wq W:=by
 match us,h,hl with
 | [],h,_=>exact h
 | [_],⟨_,_,_,_,h⟩,_=>exact h
def AskPost (R : Rec) (x : Exp) (w : World) (e : Ending) (w' : World) : Prop:=
 Ext w w' ∧ ((askF R x = none ∧ ∃ v,e = .returned (.tuple #[v,.bool false])) ∨ ∃ q qb tv mb lm,askF R x = some q ∧ e = .returned (.tuple #[.pointer (some ⟨qb,0,none⟩),.bool true]) ∧ QAt w.heap.size w'.heap.size R w' qb q tv mb lm)
set_option maxHeartbeats 4000000 in
set_option maxRecDepth 100000 in
theorem ask_in {B : Nat} {w : World} {rb : Nat} {R : Rec} {cm : Nat} {vv fv : Value} {os : List (Option Nat × Option Nat)} {xs : List (List Value)} (h : RecAt B w rb R cm vv fv os xs) (attr : ByteArray) (sv : Value) (values : List ByteArray) (hsv : StrsAt w sv values) (lo hi : Int) (kv : Value) (kids : List Exp) {css : List (List Value)} (hk : SlAt w kv 6 kids.length css.flatten) (hll : i64ok lo) (hhl : i64ok hi) :
  Calls Tryz.prog 64 #[encP rb,.agg #[.int .u8 1,.string attr,sv,.int .i64 lo,.int .i64 hi,kv]] w fun e w'=>AskPost R (.mk 1 attr values lo hi kids) w e w':=by
 obtain ⟨sp,scap,hsve,z1,hsml,z2,z3⟩:=hsv.1
 obtain ⟨kp,kcap,hkve,z4,hkml,z5,z6⟩:=hk
 clear z1 z2 z3 z4 z5 z6
 have hkl : kids.length ≤ maxLen:=hkml
 unfold maxLen at hkl hsml
 have HSV:=Lib.hid hsv
 subst hsve
 subst hkve
 have hr0 : w.cell? ⟨rb,0,none⟩ = some (.map (some cm)):=cell_of h.blk 0
 have hlk:=fun W (hW : Ext w W)=>lookup_col h hW attr
 have HR0:=Lib.hid hr0
 have HREC:=Lib.hid h
 obtain ⟨W1,hW1⟩ : ∃ W1,W1 = ((w.alloc (.cells #[.int .u8 1,.string attr,.slice sp values.length scap,.int .i64 lo,.int .i64 hi,.slice kp kids.length kcap] 29 (0,0))).alloc (.map #[] 0)).alloc (.cells #[.nilFunc,.int .i64 1,.map (some (w.heap.size + 1))] 168 (0,0)):=⟨_,rfl⟩
 have hx1 : Ext w W1:=by rw [hW1];exact bel
 have hb3 : W1.heap[w.heap.size]? = some (.cells #[.int .u8 1,.string attr,.slice sp values.length scap,.int .i64 lo,.int .i64 hi,.slice kp kids.length kcap] 29 (0,0)):=by rw [hW1];simp only [heap_drawn_get,heap_drew_get,heap_setCell_get,heap_alloc_get,World.size_alloc,World.size_setCell,size_drawn,putObj_get,putObj_size];(repeat (first | rw [if_pos trivial] | rw [if_pos rfl] | rw [if_neg (by omega)] | rw [if_pos (by omega)]))
 have hmm1 : MapIs encP W1 (w.heap.size + 1) []:=by rw [hW1];unfold MapIs;simp only [heap_drawn_get,heap_drew_get,heap_setCell_get,heap_alloc_get,World.size_alloc,World.size_setCell,size_drawn,putObj_get,putObj_size];(repeat (first | rw [if_pos trivial] | rw [if_pos rfl] | rw [if_neg (by omega)] | rw [if_pos (by omega)]));rfl
 have hb6 : W1.heap[w.heap.size + 2]? = some (.cells #[.nilFunc,.int .i64 1,.map (some (w.heap.size + 1))] 168 (0,0)):=by rw [hW1];simp only [heap_drawn_get,heap_drew_get,heap_setCell_get,heap_alloc_get,World.size_alloc,World.size_setCell,size_drawn,putObj_get,putObj_size];(repeat (first | rw [if_pos trivial] | rw [if_pos rfl] | rw [if_neg (by omega)] | rw [if_pos (by omega)]))
 have HX1:=Lib.hid hx1
 have HB3:=Lib.hid hb3
 have HM1:=Lib.hid hmm1
 have HB6:=Lib.hid hb6
 have c0:=cell_of hb3 0
 have hmm : ∀ t w,(Instr.makeMap t none).run Tryz.prog w = .ok (.map (some w.heap.size)) (w.alloc (.map #[] 0)):=fun _ _=>rfl
 clear hr0 h hx1 hb3 hmm1 hb6 hsv hkml
 unfold encP at *
 go_enter Tryz.func64,Tryz.ntmps64
 go_upto_region 2 with fail
 rw [← hW1,show w.heap.size + 1 + 1 = w.heap.size + 2 from rfl]
 clear hW1
 go_upto_region 3 with fail
 cases hc : colOf R attr with
 | none=>
  simp only [hc,Option.isSome_none] at hlk
  have HLK:=Lib.hid hlk
  have hask : askF R (.mk 1 attr values lo hi kids) = none:=by rw [askF,if_pos rfl,hc]
  have HASK:=Lib.hid hask
  clear hlk hc hask c0
  refine Rt.wp_region_rt (by kernel_rfl) [0,1,2,3,4,5,6,7,8,9,10,11,12] [10,11] [1,1,1,1,1,1,1,1,1] [0,1,3,7,0,16,63,127,255,255,0,1535,4095] (by kernel_rfl) (PtrI W1 (.pointer none)) ?_ ?_
  ·exact (below_drawn (ext_refl _) _ : Ext _ _)
  iterate 3 (refine Rt.rs_sil rfl rfl rfl (fun K hK=>?_);go_simp;refine hK _ ?_;clear hK K)
  (refine Rt.rs_rd rfl rfl rfl ?_;apply Exists.intro;refine ⟨fun us' W hp hl hI=>?_,?_⟩;· (have hE:=hI.pre hl;have g1:=(HX1.out.trans' hE).cell' HR0.out;go_simp;rfl));simp only [Act.put,zA,zB,zC,zD,zE,zF]
  (refine Rt.rs_sil rfl rfl rfl (fun K hK=>?_);go_simp;refine hK _ ?_;clear hK K)
  (refine Rt.rs_rd rfl rfl rfl ?_;apply Exists.intro;refine ⟨fun us' W hp hl hI=>?_,?_⟩;· (have hE:=hI.pre hl;have g1 : W.cell? ⟨w.heap.size,1,none⟩ = some (.string attr):=cell_of (hE.obj HB3.out) 1;go_simp;rfl));simp only [Act.put,zA,zB,zC,zD,zE,zF]
  (refine Rt.rs_rd rfl rfl rfl ?_;apply Exists.intro;refine ⟨fun us' W hp hl hI=>?_,?_⟩;· (have hE:=hI.pre hl;have hq:=HLK.out W (HX1.out.trans' hE);go_simp;rfl));simp only [Act.put,zA,zB,zC,zD,zE,zF]
  iterate 3 (refine Rt.rs_sil rfl rfl rfl (fun K hK=>?_);go_simp;refine hK _ ?_;clear hK K)
  refine Rt.rs_eff rfl rfl rfl (fun W hI=>?_) (fun v hv=>?_)
  ·have hE:=hI.pre (Nat.zero_le _)
   refine Rt.gives_val ?_
   apply Exists.intro
   apply Exists.intro
   refine ⟨by go_simp;exact ⟨rfl,rfl⟩,?_⟩
   exact ⟨W,hE,rfl,rfl⟩
  obtain ⟨b7,rfl⟩ : ∃ bb,v = .pointer (some ⟨bb,0,none⟩):=let ⟨W,hI⟩:=hv;let ⟨_,_,h,_⟩:=hI;⟨_,h⟩
  clear hv
  simp only [Act.put,zA,zB,zC,zD,zE,zF]
  refine Rt.rs_eff rfl rfl rfl (fun W hI=>?_) (fun v hv=>?_)
  ·obtain ⟨W0,hE,e,hW⟩:=hI
   simp only [Value.pointer.injEq,Option.some.injEq,Addr.mk.injEq,and_true] at e
   subst e
   have hb : W.heap[W0.heap.size]? = some (.cells #[.pointer none] 101 (0,0)):=by rw [hW];simp only [heap_drawn_get,heap_drew_get,heap_setCell_get,heap_alloc_get,World.size_alloc,World.size_setCell,size_drawn,putObj_get,putObj_size];(repeat (first | rw [if_pos trivial] | rw [if_pos rfl] | rw [if_neg (by omega)] | rw [if_pos (by omega)]))
   have c0:=cell_of hb 0
   have f0:=frozen_of hb 0
   have hxW : Ext W1 W:=hE.trans' (by rw [hW];exact bel)
   have hsz:=hE.size
   clear hW
   refine Rt.gives_skp ?_
   apply Exists.intro
   refine ⟨by go_simp;rfl,?_⟩
   refine ⟨W0.heap.size,rfl,hE.size,?_,?_⟩
   ·exact bel
   ·simp only [heap_drawn_get,heap_drew_get,heap_setCell_get,heap_alloc_get,World.size_alloc,World.size_setCell,size_drawn,putObj_get,putObj_size];(repeat (first | rw [if_pos trivial] | rw [if_pos rfl] | rw [if_neg (by omega)] | rw [if_pos (by omega)]))
    rw [hb];rfl
  clear hv
  simp only [Act.put,zA,zB,zC,zD,zE,zF]
  (refine Rt.rs_sil rfl rfl rfl (fun K hK=>?_);go_simp;refine hK _ ?_;clear hK K)
  refine Rt.rs_nil (fun w3 hI=>?_)
  obtain ⟨b7',e,hb7le,hx3,hb7⟩:=hI
  simp only [Value.pointer.injEq,Option.some.injEq,Addr.mk.injEq,and_true] at e
  subst e
  have HX3:=Lib.hid (HX1.out.trans' hx3)
  clear hb7le hx3 hb7
  go_wp2_with fail
  refine bodyPost_ret (v:=.tuple #[.pointer none,.bool false]) (by simp [results,Tryz.results64,go_sem]) rfl ?_
  refine ⟨HX3.out,.inl ⟨HASK.out,_,rfl⟩⟩
 | some ac=>
  obtain ⟨a,c⟩:=ac
  simp only [hc,Option.isSome_some] at hlk
  have hcm:=(colOf_mem hc).1
  have HLK:=Lib.hid hlk
  have HCM:=Lib.hid hcm
  have HC:=Lib.hid hc
  clear hlk hcm hc c0
  unfold encP at HLK
  refine Rt.wp_region_rt (by kernel_rfl) [0,1,2,3,4,5,6,7,8,9,10,11,12] [10,11] [1,1,1,1,1,1,1,1,1] [0,1,3,7,0,16,63,127,255,255,0,1535,4095] (by kernel_rfl) (PtrI W1 (.pointer (some ⟨c,0,none⟩))) ?_ ?_
  ·exact (below_drawn (ext_refl _) _ : Ext _ _)
  iterate 3 (refine Rt.rs_sil rfl rfl rfl (fun K hK=>?_);go_simp;refine hK _ ?_;clear hK K)
  (refine Rt.rs_rd rfl rfl rfl ?_;apply Exists.intro;refine ⟨fun us' W hp hl hI=>?_,?_⟩;· (have hE:=hI.pre hl;have g1:=(HX1.out.trans' hE).cell' HR0.out;go_simp;rfl));simp only [Act.put,zA,zB,zC,zD,zE,zF]
  (refine Rt.rs_sil rfl rfl rfl (fun K hK=>?_);go_simp;refine hK _ ?_;clear hK K)
  (refine Rt.rs_rd rfl rfl rfl ?_;apply Exists.intro;refine ⟨fun us' W hp hl hI=>?_,?_⟩;· (have hE:=hI.pre hl;have g1 : W.cell? ⟨w.heap.size,1,none⟩ = some (.string attr):=cell_of (hE.obj HB3.out) 1;go_simp;rfl));simp only [Act.put,zA,zB,zC,zD,zE,zF]
  (refine Rt.rs_rd rfl rfl rfl ?_;apply Exists.intro;refine ⟨fun us' W hp hl hI=>?_,?_⟩;· (have hE:=hI.pre hl;have hq:=HLK.out W (HX1.out.trans' hE);go_simp;rfl));simp only [Act.put,zA,zB,zC,zD,zE,zF]
  iterate 3 (refine Rt.rs_sil rfl rfl rfl (fun K hK=>?_);go_simp;refine hK _ ?_;clear hK K)
  refine Rt.rs_eff rfl rfl rfl (fun W hI=>?_) (fun v hv=>?_)
  ·have hE:=hI.pre (Nat.zero_le _)
   refine Rt.gives_val ?_
   apply Exists.intro
   apply Exists.intro
   refine ⟨by go_simp;exact ⟨rfl,rfl⟩,?_⟩
   exact ⟨W,hE,rfl,rfl⟩
  obtain ⟨b7,rfl⟩ : ∃ bb,v = .pointer (some ⟨bb,0,none⟩):=let ⟨W,hI⟩:=hv;let ⟨_,_,h,_⟩:=hI;⟨_,h⟩
  clear hv
  simp only [Act.put,zA,zB,zC,zD,zE,zF]
  refine Rt.rs_eff rfl rfl rfl (fun W hI=>?_) (fun v hv=>?_)
  ·obtain ⟨W0,hE,e,hW⟩:=hI
   simp only [Value.pointer.injEq,Option.some.injEq,Addr.mk.injEq,and_true] at e
   subst e
   have hb : W.heap[W0.heap.size]? = some (.cells #[.pointer none] 101 (0,0)):=by rw [hW];simp only [heap_drawn_get,heap_drew_get,heap_setCell_get,heap_alloc_get,World.size_alloc,World.size_setCell,size_drawn,putObj_get,putObj_size];(repeat (first | rw [if_pos trivial] | rw [if_pos rfl] | rw [if_neg (by omega)] | rw [if_pos (by omega)]))
   have c0:=cell_of hb 0
   have f0:=frozen_of hb 0
   have hxW : Ext W1 W:=hE.trans' (by rw [hW];exact bel)
   have hsz:=hE.size
   clear hW
   refine Rt.gives_skp ?_
   apply Exists.intro
   refine ⟨by go_simp;rfl,?_⟩
   refine ⟨W0.heap.size,rfl,hE.size,?_,?_⟩
   ·exact bel
   ·simp only [heap_drawn_get,heap_drew_get,heap_setCell_get,heap_alloc_get,World.size_alloc,World.size_setCell,size_drawn,putObj_get,putObj_size];(repeat (first | rw [if_pos trivial] | rw [if_pos rfl] | rw [if_neg (by omega)] | rw [if_pos (by omega)]))
    rw [hb];rfl
  clear hv
  simp only [Act.put,zA,zB,zC,zD,zE,zF]
  (refine Rt.rs_sil rfl rfl rfl (fun K hK=>?_);go_simp;refine hK _ ?_;clear hK K)
  refine Rt.rs_nil (fun w3 hI=>?_)
  obtain ⟨b7',e,hb7le,hx3,hb7⟩:=hI
  simp only [Value.pointer.injEq,Option.some.injEq,Addr.mk.injEq,and_true] at e
  subst e
  have HX3:=Lib.hid (HX1.out.trans' hx3)
  have hb3:=hx3.obj HB3.out
  have k5 : w3.cell? ⟨w.heap.size,5,none⟩ = some (.slice kp kids.length kcap):=cell_of hb3 5
  have k2 : w3.cell? ⟨w.heap.size,2,none⟩ = some (.slice sp values.length scap):=cell_of hb3 2
  have k3 : w3.cell? ⟨w.heap.size,3,none⟩ = some (.int .i64 lo):=cell_of hb3 3
  have k4 : w3.cell? ⟨w.heap.size,4,none⟩ = some (.int .i64 hi):=cell_of hb3 4
  have k7 : w3.cell? ⟨b7,0,none⟩ = some (.pointer (some ⟨c,0,none⟩)):=cell_of hb7 0
  have HX13:=Lib.hid hx3
  have HB7:=Lib.hid hb7
  have HB7LE:=Lib.hid hb7le
  clear hx3 hb3 hb7 hb7le
  by_cases hk0 : kids.length = 0
  rotate_left
  ·have hask : askF R (.mk 1 attr values lo hi kids) = none:=by rw [askF,if_pos rfl,HC.out];exact if_neg hk0
   have HASK:=Lib.hid hask
   have hpos : (0 : Int) < (kids.length : Int):=by omega
   clear hask
   go_wp2_with fail
   refine bodyPost_ret (v:=.tuple #[.pointer none,.bool false]) (by simp [results,Tryz.results64,go_sem]) rfl ?_
   refine ⟨HX3.out,.inl ⟨HASK.out,_,rfl⟩⟩
  have hnp : ¬ (0 : Int) < (kids.length : Int):=by omega
  have hcol:=((HREC.out.ext HX3.out).colAt _ HCM.out).colAt
  have hok:=HREC.out.ok.attrs _ HCM.out
  obtain ⟨rd,hrd⟩ : ∃ rd,readF a values lo hi = rd:=⟨_,rfl⟩
  have hread:=read_any c a w3 hcol hok (.slice sp values.length scap) values (HSV.out.ext HX3.out) lo hi
  rw [hrd] at hread
  obtain ⟨s,rok⟩:=rd
  have hsb : s.bits < 256:=by have:=(readF_ok hok values lo hi hll hhl).1;rw [hrd] at this;exact this
  have HOK:=Lib.hid hok
  have HREAD:=Lib.hid hread
  have HRD:=Lib.hid hrd
  have HSB:=Lib.hid hsb
  clear hcol hok hread hrd hsb
  go_wp2_with fail
  refine HREAD.out.mono ?_
  rintro e w4 ⟨rfl,hx4⟩
  unfold stTuple St.val
  have HX34:=Lib.hid (HX13.out.trans' hx4)
  have HB7_4:=Lib.hid (hx4.obj HB7.out)
  clear hx4 k2 k3 k4 k5 k7 hnp
  go_upto_region 7 with fail
  obtain ⟨W5,hW5⟩ : ∃ W5,W5 = w4.alloc (.cells #[.int .u64 s.bits,.int .i64 s.low,.int .i64 s.high] 120 (0,0)):=⟨_,rfl⟩
  rw [← hW5]
  have hx5 : Ext w4 W5:=by rw [hW5];exact bel
  have hb9 : W5.heap[w4.heap.size]? = some (.cells #[.int .u64 s.bits,.int .i64 s.low,.int .i64 s.high] 120 (0,0)):=by rw [hW5];simp only [heap_drawn_get,heap_drew_get,heap_setCell_get,heap_alloc_get,World.size_alloc,World.size_setCell,size_drawn,putObj_get,putObj_size];(repeat (first | rw [if_pos trivial] | rw [if_pos rfl] | rw [if_neg (by omega)] | rw [if_pos (by omega)]))
  have hx15:=HX34.out.trans' hx5
  have HX15:=Lib.hid hx15
  have HB9:=Lib.hid hb9
  have HB7_5:=Lib.hid (hx5.obj HB7_4.out)
  have HB3_5:=Lib.hid (hx15.obj HB3.out)
  have HB6_5:=Lib.hid (hx15.obj HB6.out)
  have HM5:=Lib.hid (HM1.out.ext hx15)
  have hszw : w.heap.size + 2 < W1.heap.size:=heap_lt HB6.out
  have h9lt : w4.heap.size < W5.heap.size:=heap_lt hb9
  have hb9le : w.heap.size ≤ w4.heap.size:=(HX1.out.trans' HX34.out).size
  have hb7le' : w.heap.size ≤ b7:=Nat.le_trans HX1.out.size HB7LE.out
  clear hW5 hx5 hb9 hx15
  refine Rt.wp_region_rt (by kernel_rfl) [0,1,2,3,4,5,6,7,8,9,10,11] [10,11] [1,1,1,1,1,0,0,0,0,0] [0,1,3,7,0,0,32,0,128,384,992,2047] (by kernel_rfl) (BuI W5 3 [.int .i64 lo,.int .i64 (IntKind.i64.wrap (hi + 1))] 2 (fun u W=>∃ ab,u = .slice (some ⟨ab,0,none⟩) 2 2 ∧ W5.heap.size ≤ ab ∧ W.heap[ab]? = some (.cells #[.int .i64 lo,.int .i64 (IntKind.i64.wrap (hi + 1))] 3 (0,0)) ∧ MapIs encP W (w.heap.size + 1) [(c,u)] ∧ Cells W5 W ∧ Below w.heap.size w W)) ?_ ?_
  ·exact (below_drawn (ext_refl _) _ : Ext _ _)
  iterate 3 (refine Rt.rs_sil rfl rfl rfl (fun K hK=>?_);go_simp;refine hK _ ?_;clear hK K)
  (refine Rt.rs_rd rfl rfl rfl ?_;apply Exists.intro;refine ⟨fun us' W hp hl hI=>?_,?_⟩;· (have hE:=hI.pre hl;have g1 : W.cell? ⟨w.heap.size + 2,2,none⟩ = some (.map (some (w.heap.size + 1))):=cell_of (hE.obj HB6_5.out) 2;go_simp;rfl));simp only [Act.put,zA,zB,zC,zD,zE,zF]
  (refine Rt.rs_rd rfl rfl rfl ?_;apply Exists.intro;refine ⟨fun us' W hp hl hI=>?_,?_⟩;· (have hE:=hI.pre hl;have g1 : W.cell? ⟨b7,0,none⟩ = some (.pointer (some ⟨c,0,none⟩)):=cell_of (hE.obj HB7_5.out) 0;go_simp;rfl));simp only [Act.put,zA,zB,zC,zD,zE,zF]
  (refine Rt.rs_sil rfl rfl rfl (fun K hK=>?_);go_simp;refine hK _ ?_;clear hK K)
  (refine Rt.rs_rd rfl rfl rfl ?_;apply Exists.intro;refine ⟨fun us' W hp hl hI=>?_,?_⟩;· (have hE:=hI.pre (Nat.le_trans hl (by decide));have g1 : W.cell? ⟨w.heap.size,3,none⟩ = some (.int .i64 lo):=cell_of (hE.obj HB3_5.out) 3;go_simp;rfl));simp only [Act.put,zA,zB,zC,zD,zE,zF]
  (refine Rt.rs_sil rfl rfl rfl (fun K hK=>?_);go_simp;refine hK _ ?_;clear hK K)
  (refine Rt.rs_rd rfl rfl rfl ?_;apply Exists.intro;refine ⟨fun us' W hp hl hI=>?_,?_⟩;· (have hE:=hI.pre (Nat.le_trans hl (by decide));have g1 : W.cell? ⟨w.heap.size,4,none⟩ = some (.int .i64 hi):=cell_of (hE.obj HB3_5.out) 4;go_simp;rfl));simp only [Act.put,zA,zB,zC,zD,zE,zF]
  (refine Rt.rs_sil rfl rfl rfl (fun K hK=>?_);go_simp;refine hK _ ?_;clear hK K)
  refine Rt.rs_eff rfl rfl rfl (fun W hI=>?_) (fun v hv=>?_)
  ·have hE:=hI.pre (Nat.zero_le _)
   refine Rt.gives_val ?_
   apply Exists.intro
   apply Exists.intro
   refine ⟨by go_simp;exact ⟨rfl,rfl⟩,?_⟩
   refine ⟨_,rfl,hE.size,?_,?_⟩
   ·simp only [heap_drawn_get,heap_drew_get,heap_setCell_get,heap_alloc_get,World.size_alloc,World.size_setCell,size_drawn,putObj_get,putObj_size];(repeat (first | rw [if_pos trivial] | rw [if_pos rfl] | rw [if_neg (by omega)] | rw [if_pos (by omega)]))
   ·exact hE.trans' (by exact bel)
  obtain ⟨ab,rfl⟩ : ∃ ab,v = .slice (some ⟨ab,0,none⟩) 2 2:=let ⟨W,hI⟩:=hv;let ⟨ab,h,_⟩:=hI;⟨ab,h⟩
  clear hv
  simp only [Act.put,zA,zB,zC,zD,zE,zF]
  refine Rt.rs_eff rfl rfl rfl (fun W hI=>?_) (fun v hv=>?_)
  ·obtain ⟨ab',e,hle,hcells,hE⟩:=hI
   simp only [Value.slice.injEq,Option.some.injEq,Addr.mk.injEq,and_true] at e
   subst e
   have hm:=HM5.out.ext hE
   have hwW:=(HX1.out.trans' HX15.out).trans' hE
   have hup:=run_mapUpdate (P:=Tryz.prog) (T:=166) (K:=101) (E:=35) (k:=c) (v:=.slice (some ⟨ab,0,none⟩) 2 2) (by kernel_rfl) hm (finds_ptr W [] c ((HREC.out.ext hwW).isCol HCM.out) (fun x hx=>by cases hx))
   replace hup : (Instr.mapUpdate 166 (.map (some (w.heap.size + 1))) (.pointer (some ⟨c,0,none⟩)) (.slice (some ⟨ab,0,none⟩) 2 2)).run Tryz.prog W = _:=hup
   refine Rt.gives_skp ?_
   apply Exists.intro
   refine ⟨by go_simp;rfl,?_⟩
   have hm':=hm
   unfold MapIs at hm'
   exact ⟨ab,rfl,hle,put_cells hm' hcells,wput_same (heap_lt hm'),(cells_ext hE).trans (cells_put hm'),below_putObj hwW (Nat.le_add_right _ _) _⟩
  clear hv
  simp only [Act.put,zA,zB,zC,zD,zE,zF]
  refine Rt.rs_nil (fun w6 hI=>?_)
  obtain ⟨ab',e,hle,hcells,hm6,hcs,hbe⟩:=hI
  simp only [Value.slice.injEq,Option.some.injEq,Addr.mk.injEq,and_true] at e
  subst e
  have hb6:=hcs _ _ _ _ HB6_5.out
  have m0:=cell_of hb6 0
  have f0:=frozen_of hb6 0
  have HCELLS:=Lib.hid hcells
  have HM6:=Lib.hid hm6
  have HBE:=Lib.hid hbe
  have HB6_6:=Lib.hid hb6
  have HB7_6:=Lib.hid (hcs _ _ _ _ HB7_5.out)
  have HB9_6:=Lib.hid (hcs _ _ _ _ HB9.out)
  have HLE:=Lib.hid hle
  clear hcells hm6 hcs hbe hb6 hle
  go_upto_region 9 with fail
  obtain ⟨W7,hW7⟩ : ∃ W7,W7 = w6.setCell ⟨w.heap.size + 2,0,none⟩ (.func (.func 78) #[] #[.pointer (some ⟨w4.heap.size,0,none⟩),.pointer (some ⟨b7,0,none⟩)]):=⟨_,rfl⟩
  rw [← hW7]
  have hfr : Frm 168 w6 W7:=by rw [hW7];exact frm_set HB6_6.out _
  have hbe7 : Below w.heap.size w W7:=by rw [hW7];exact Below.setCell HBE.out (Nat.le_add_right _ _) _
  have hb6_7 : W7.heap[w.heap.size + 2]? = some (.cells #[.func (.func 78) #[] #[.pointer (some ⟨w4.heap.size,0,none⟩),.pointer (some ⟨b7,0,none⟩)],.int .i64 1,.map (some (w.heap.size + 1))] 168 (0,0)):=by
   rw [hW7,heap_setCell_get,if_pos rfl,HB6_6.out];rfl
  have HBE7:=Lib.hid hbe7
  have HB6_7:=Lib.hid hb6_7
  have HB7_7:=Lib.hid (hfr.cells HB7_6.out (by decide))
  have HB9_7:=Lib.hid (hfr.cells HB9_6.out (by decide))
  have HCELLS7:=Lib.hid (hfr.cells HCELLS.out (by decide))
  have HM7:=Lib.hid (hfr.map HM6.out)
  have k7 : W7.cell? ⟨b7,0,none⟩ = some (.pointer (some ⟨c,0,none⟩)):=cell_of HB7_7.out 0
  clear hW7 hfr hbe7 hb6_7 m0 f0
  obtain ⟨bv,hbv⟩ : ∃ bv,decide (a.values ≠ []) = bv:=⟨_,rfl⟩
  have HBV:=Lib.hid hbv
  have hch:=choice_val c a W7 ((HREC.out.ext HBE7.out).colAt _ HCM.out).colAt hbv
  clear hbv
  go_wp2_with fail
  refine hch.mono ?_
  rintro e w8 ⟨rfl,rfl⟩
  cases bv with
  | false=>
   have hav : a.values = []:=by have:=HBV.out;simpa using this
   have HAV:=Lib.hid hav
   clear hch k7 hav
   go_wp2_with fail
   cases rok with
   | false=>
    have hask : askF R (.mk 1 attr values lo hi kids) = none:=by
     rw [askF,if_pos rfl,HC.out]
     simp only [HRD.out,if_pos hk0]
     rfl
    refine bodyPost_ret (v:=.tuple #[.pointer (some ⟨w.heap.size + 2,0,none⟩),.bool false]) (by simp [results,Tryz.results64,go_sem]) rfl ?_
    refine ⟨HBE7.out,.inl ⟨hask,_,rfl⟩⟩
   | true=>
    have hhi:=readF_high HAV.out (show (readF a values lo hi).2 = true by rw [HRD.out])
    have hwr : IntKind.i64.wrap (hi + 1) = hi + 1:=wrap_id (by have:=hhl.1;omega) (by have:=HOK.out.high;omega)
    have hask : askF R (.mk 1 attr values lo hi kids) = some (inQ a c s lo hi):=by
     rw [askF,if_pos rfl,HC.out]
     simp only [HRD.out,if_pos hk0]
     rfl
    have hcells:=HCELLS7.out
    rw [hwr] at hcells
    have hle : w.heap.size ≤ ab:=Nat.le_trans (HX1.out.trans' HX15.out).size HLE.out
    have hmk:=marks_one (B:=w.heap.size) HM7.out HCM.out [lo,hi + 1] (row_two hcells hle)
    have hq : (inQ a c s lo hi).marks = fun c'=>if c' = c then some [lo,hi + 1] else none:=by unfold inQ;simp only [HAV.out,if_true]
    have hq2 : (inQ a c s lo hi).φ = fun ρ=>decide (s.low ≤ ρ c) && decide (ρ c ≤ s.high):=by unfold inQ;simp only [HAV.out,if_true]
    refine bodyPost_ret (v:=.tuple #[.pointer (some ⟨w.heap.size + 2,0,none⟩),.bool true]) (by simp [results,Tryz.results64,go_sem]) rfl ?_
    refine ⟨HBE7.out,.inr ⟨inQ a c s lo hi,_,_,_,[(c,.slice (some ⟨ab,0,none⟩) 2 2)],hask,rfl,⟨HB6_7.out,?_,Nat.le_refl _,?_,?_⟩⟩⟩
    ·rw [hq2];exact test_count HB9_7.out HB7_7.out ⟨hb9le,heap_lt HB9_7.out⟩ ⟨hb7le',heap_lt HB7_7.out⟩ HCM.out
    ·exact ⟨Nat.le_add_right _ _,heap_lt HB6_7.out,Nat.le_add_right _ _,heap_lt HM7.out⟩
    ·rw [hq];exact hmk
  | true=>
   have hav : a.values ≠ []:=by have:=HBV.out;simpa using this
   have HAV:=Lib.hid hav
   clear hch k7 hav
   go_upto_region 10 with fail
   refine Rt.wp_region_rt (by kernel_rfl) [0,1,2,3,4,5] [5] [0,0,0,0,0] [0,1,3,7,0,31] (by kernel_rfl) (UpI W7 (fun W=>MapIs encP W (w.heap.size + 1) [(c,.slice none 0 0)] ∧ Cells W7 W ∧ Below w.heap.size w W)) ?_ ?_
   ·exact (below_drawn (ext_refl _) _ : Ext _ _)
   iterate 3 (refine Rt.rs_sil rfl rfl rfl (fun K hK=>?_);go_simp;refine hK _ ?_;clear hK K)
   (refine Rt.rs_rd rfl rfl rfl ?_;apply Exists.intro;refine ⟨fun us' W hp hl hI=>?_,?_⟩;· (have hE:=hI.pre hl;have g1 : W.cell? ⟨w.heap.size + 2,2,none⟩ = some (.map (some (w.heap.size + 1))):=cell_of (hE.obj HB6_7.out) 2;go_simp;rfl));simp only [Act.put,zA,zB,zC,zD,zE,zF]
   (refine Rt.rs_rd rfl rfl rfl ?_;apply Exists.intro;refine ⟨fun us' W hp hl hI=>?_,?_⟩;· (have hE:=hI.pre hl;have g1 : W.cell? ⟨b7,0,none⟩ = some (.pointer (some ⟨c,0,none⟩)):=cell_of (hE.obj HB7_7.out) 0;go_simp;rfl));simp only [Act.put,zA,zB,zC,zD,zE,zF]
   refine Rt.rs_eff rfl rfl rfl (fun W hI=>?_) (fun v hv=>?_)
   ·have hE:=hI.pre (Nat.le_refl _)
    have hm:=HM7.out.ext hE
    have hwW:=Ext.trans' HBE7.out hE
    have hup:=run_mapUpdate (P:=Tryz.prog) (T:=166) (K:=101) (E:=35) (k:=c) (v:=.slice none 0 0) (by kernel_rfl) hm (finds_ptr W _ c ((HREC.out.ext hwW).isCol HCM.out) (fun x hx=>by rw [List.mem_singleton.1 hx];exact (HREC.out.ext hwW).isCol HCM.out))
    replace hup : (Instr.mapUpdate 166 (.map (some (w.heap.size + 1))) (.pointer (some ⟨c,0,none⟩)) (.slice none 0 0)).run Tryz.prog W = _:=hup
    refine Rt.gives_skp ?_
    apply Exists.intro
    refine ⟨by go_simp;rfl,?_⟩
    have hm':=hm
    unfold MapIs at hm'
    have hmp : mput [(c,Value.slice (some ⟨ab,0,none⟩) 2 2)] c (.slice none 0 0) = [(c,.slice none 0 0)]:=by simp [mput]
    rw [hmp]
    exact ⟨wput_same (heap_lt hm'),(cells_ext hE).trans (cells_put hm'),below_putObj hwW (Nat.le_add_right _ _) _⟩
   clear hv
   simp only [Act.put,zA,zB,zC,zD,zE,zF]
   refine Rt.rs_nil (fun w8 hI=>?_)
   obtain ⟨hm8,hcs,hbe⟩:=hI
   have hb6:=hcs _ _ _ _ HB6_7.out
   have m0:=cell_of hb6 0
   have f0:=frozen_of hb6 0
   have HM8:=Lib.hid hm8
   have HBE8:=Lib.hid hbe
   have HB6_8:=Lib.hid hb6
   have HB7_8:=Lib.hid (hcs _ _ _ _ HB7_7.out)
   have HB9_8:=Lib.hid (hcs _ _ _ _ HB9_7.out)
   clear hm8 hcs hbe hb6
   go_wp2_with fail
   obtain ⟨W9,hW9⟩ : ∃ W9,W9 = w8.setCell ⟨w.heap.size + 2,0,none⟩ (.func (.func 79) #[] #[.pointer (some ⟨w4.heap.size,0,none⟩),.pointer (some ⟨b7,0,none⟩)]):=⟨_,rfl⟩
   rw [← hW9]
   have hfr : Frm 168 w8 W9:=by rw [hW9];exact frm_set HB6_8.out _
   have hbe9 : Below w.heap.size w W9:=by rw [hW9];exact Below.setCell HBE8.out (Nat.le_add_right _ _) _
   have hb6_9 : W9.heap[w.heap.size + 2]? = some (.cells #[.func (.func 79) #[] #[.pointer (some ⟨w4.heap.size,0,none⟩),.pointer (some ⟨b7,0,none⟩)],.int .i64 1,.map (some (w.heap.size + 1))] 168 (0,0)):=by
    rw [hW9,heap_setCell_get,if_pos rfl,HB6_8.out];rfl
   cases rok with
   | false=>
    have hask : askF R (.mk 1 attr values lo hi kids) = none:=by
     rw [askF,if_pos rfl,HC.out]
     simp only [HRD.out,if_pos hk0]
     rfl
    refine bodyPost_ret (v:=.tuple #[.pointer (some ⟨w.heap.size + 2,0,none⟩),.bool false]) (by simp [results,Tryz.results64,go_sem]) rfl ?_
    refine ⟨hbe9,.inl ⟨hask,_,rfl⟩⟩
   | true=>
    have hask : askF R (.mk 1 attr values lo hi kids) = some (inQ a c s lo hi):=by
     rw [askF,if_pos rfl,HC.out]
     simp only [HRD.out,if_pos hk0]
     rfl
    have hmk:=marks_one (B:=w.heap.size) (hfr.map HM8.out) HCM.out [] (World.ownsRow_nil _ _ _ _)
    have hq : (inQ a c s lo hi).marks = fun c'=>if c' = c then some [] else none:=by unfold inQ;simp only [HAV.out,if_false]
    have hq2 : (inQ a c s lo hi).φ = fun ρ=>s.bits.testBit (ρ c).toNat:=by unfold inQ;simp only [HAV.out,if_false]
    refine bodyPost_ret (v:=.tuple #[.pointer (some ⟨w.heap.size + 2,0,none⟩),.bool true]) (by simp [results,Tryz.results64,go_sem]) rfl ?_
    refine ⟨hbe9,.inr ⟨inQ a c s lo hi,_,_,_,[(c,.slice none 0 0)],hask,rfl,⟨hb6_9,?_,Nat.le_refl _,?_,?_⟩⟩⟩
    ·rw [hq2];exact test_choice HSB.out (hfr.cells HB9_8.out (by decide)) (hfr.cells HB7_8.out (by decide)) ⟨hb9le,heap_lt (hfr.cells HB9_8.out (by decide))⟩ ⟨hb7le',heap_lt (hfr.cells HB7_8.out (by decide))⟩ HCM.out HAV.out
    ·exact ⟨Nat.le_add_right _ _,heap_lt hb6_9,Nat.le_add_right _ _,heap_lt (hfr.map HM8.out)⟩
    ·rw [hq];exact hmk
end Go.Proofs.YtihfcjioilmmjaaGreat
