/- Lemmas: look. -/
import Derived.Test.YtihfcjioilmmjaaGreatRm1
import Derived.Test.YtihfcjioilmmjaaGreatRm4
set_option linter.all false
namespace Go.Proofs.YtihfcjioilmmjaaGreat
open Go Go.RowKit
open Go.Lib Go.Sort Go.Maps Go.Shelf Go.Proofs
set_option maxHeartbeats 4000000 in
set_option maxRecDepth 100000 in
theorem look_any {B : Nat} {w : World} {rb : Nat} {R : Rec} {cm : Nat} {vv fv : Value} {os : List (Option Nat × Option Nat)} {xs : List (List Value)} (h : RecAt B w rb R cm vv fv os xs) (hg : Glob w) {iv : Nat} {ver : Ver} (hv : R.vers[iv]? = some ver) :
  Calls Tryz.prog 45 #[encP rb,.int .i64 (iv : Int)] w fun e w'=>∃ vb sv mp mk mf md lp lk lf ld,e = .returned (.pointer (some ⟨vb,0,none⟩)) ∧ ViewAt w.heap.size w' vb (heldF R ver) sv mp mk mf md lp lk lf ld ∧ Ext w w':=by
 have hvm : ver ∈ R.vers:=List.mem_of_getElem? hv
 have hheld : (heldV ver).length ≤ 300:=by
  obtain ⟨k1,_,k3⟩:=h.ok.keys ver hvm
  have h1:=nodup_bound R.facts.length (ver.added.map (·.1)) k1 k3
  have h2:=h.ok.facts
  have h3 : (heldV ver).length ≤ (ver.added.map (·.1)).length:=by
   unfold heldV
   exact Nat.le_trans (List.length_filter_le _ _) (by rw [List.length_mergeSort];exact Nat.le_refl _)
  omega
 have HREC:=Lib.hid h
 have HV:=Lib.hid hv
 have HVM:=Lib.hid hvm
 clear h hv hvm
 have hmm : ∀ t w,(Instr.makeMap t none).run Tryz.prog w = .ok (.map (some w.heap.size)) (w.alloc (.map #[] 0)):=fun _ _=>rfl
 unfold encP
 go_enter Tryz.func45,Tryz.ntmps45
 go_upto_region 2 with fail
 obtain ⟨W1,hW1⟩ : ∃ W1,W1 = ((((w.alloc (.map #[] 0)).alloc (.map #[] 0)).alloc (.map #[] 0)).alloc (.map #[] 0)).alloc (.cells #[.slice none 0 0,.map (some w.heap.size),.map (some (w.heap.size + 1)),.map (some (w.heap.size + 2)),.map (some (w.heap.size + 3))] 138 (0,0)):=⟨_,rfl⟩
 rw [← hW1]
 have hx1 : Ext w W1:=by rw [hW1];exact bel
 have hs1 : W1.heap.size = w.heap.size + 5:=by rw [hW1];simp
 have hvw : W1.heap[w.heap.size + 4]? = some (.cells #[.slice none 0 0,.map (some w.heap.size),.map (some (w.heap.size + 1)),.map (some (w.heap.size + 2)),.map (some (w.heap.size + 3))] 138 (0,0)):=by rw [hW1];simp only [heap_drawn_get,heap_drew_get,heap_setCell_get,heap_alloc_get,World.size_alloc,World.size_setCell,size_drawn,putObj_get,putObj_size];(repeat (first | rw [if_pos trivial] | rw [if_pos rfl] | rw [if_neg (by omega)] | rw [if_pos (by omega)]))
 have hm0 : MapIs Value.string W1 w.heap.size []:=by rw [hW1];unfold MapIs;simp only [heap_drawn_get,heap_drew_get,heap_setCell_get,heap_alloc_get,World.size_alloc,World.size_setCell,size_drawn,putObj_get,putObj_size];(repeat (first | rw [if_pos trivial] | rw [if_pos rfl] | rw [if_neg (by omega)] | rw [if_pos (by omega)]));rfl
 have hm1 : MapIs encK W1 (w.heap.size + 1) []:=by rw [hW1];unfold MapIs;simp only [heap_drawn_get,heap_drew_get,heap_setCell_get,heap_alloc_get,World.size_alloc,World.size_setCell,size_drawn,putObj_get,putObj_size];(repeat (first | rw [if_pos trivial] | rw [if_pos rfl] | rw [if_neg (by omega)] | rw [if_pos (by omega)]));rfl
 have hm2 : MapIs encK W1 (w.heap.size + 2) []:=by rw [hW1];unfold MapIs;simp only [heap_drawn_get,heap_drew_get,heap_setCell_get,heap_alloc_get,World.size_alloc,World.size_setCell,size_drawn,putObj_get,putObj_size];(repeat (first | rw [if_pos trivial] | rw [if_pos rfl] | rw [if_neg (by omega)] | rw [if_pos (by omega)]));rfl
 have hm3 : MapIs encK W1 (w.heap.size + 3) []:=by rw [hW1];unfold MapIs;simp only [heap_drawn_get,heap_drew_get,heap_setCell_get,heap_alloc_get,World.size_alloc,World.size_setCell,size_drawn,putObj_get,putObj_size];(repeat (first | rw [if_pos trivial] | rw [if_pos rfl] | rw [if_neg (by omega)] | rw [if_pos (by omega)]));rfl
 have HX1:=Lib.hid hx1
 have HVW:=Lib.hid hvw
 have HM0:=Lib.hid hm0
 have HM1:=Lib.hid hm1
 have HM2:=Lib.hid hm2
 have HM3:=Lib.hid hm3
 clear hW1 hx1 hvw hm0 hm1 hm2 hm3
 go_wp2_with fail
 refine (held_any (HREC.out.ext HX1.out) HV.out).mono ?_
 rintro e w2 ⟨hv,rfl,hrow,hx2⟩
 have hL0 : LookI w.heap.size w2.heap.size w hv (heldV ver) [] [] [] [] (.slice none 0 0) [] [] [] w2:=
  {below:=HX1.out.trans' hx2,view:=hx2.obj HVW.out,held:=owns_mono hrow (by omega),low:=fun g hg=>(hrow.lt g hg).2,le:=by have:=hx2.size;omega,size:=Nat.le_refl _
   subs:=World.ownsRow_nil _ _ _ _,parts:=HM0.out.ext hx2,known:=HM1.out.ext hx2,facts:=HM2.out.ext hx2,doubts:=HM3.out.ext hx2
   knownL:=fun k=>rfl,factsN:=fun k _=>rfl,factsS:=fun k v hk=>(by cases hk),factsD:=fun k k' v v' hk=>(by cases hk),doubtsL:=fun k=>rfl }
 have HL0:=Lib.hid hL0
 obtain ⟨hp,hc,rfl⟩:=owns_form hrow
 clear hL0 hrow hx2
 go_wp2_with fail
 rw [show w.heap.size + 1 + 1 + 1 + 1 = w.heap.size + 4 from rfl,show w.heap.size + 1 + 1 + 1 = w.heap.size + 3 from rfl,show w.heap.size + 1 + 1 = w.heap.size + 2 from rfl]
 go_loopw [31] (fun i wr=>∃ (j : Nat) (sv : Value) (lk lf ld : List ((ByteArray × Nat) × Value)),j ≤ (heldV ver).length ∧ i = .int .i64 j ∧ LookI w.heap.size w2.heap.size w (.slice hp (heldV ver).length hc) (heldV ver) ((heldF R ver).take j) ((heldF R ver).take j) ((heldF R ver).take j) ((heldF R ver).take j) sv lk lf ld wr) (fun i _=>(heldV ver).length - (intOf i).toNat)
 case atStart=>exact ⟨0,_,_,_,_,Nat.zero_le _,rfl,HL0.out⟩
 case round=>
  obtain ⟨j,sv,lk,lf,ld,hj,rfl,hL⟩:=hrel
  by_cases hlt : j < (heldV ver).length
  ·skip
   obtain ⟨i,f,hn,hf,hx⟩:=heldF_at HREC.out.ok HVM.out hlt
   obtain ⟨fb,fcap,fs,fp,fn,fc,flo,fhi,rfl,hfcap,hcells⟩:=HREC.out.factAt hf
   have hil : i < R.facts.length:=(List.getElem?_eq_some_iff.1 hf).1
   have hf300 : R.facts.length ≤ 300:=HREC.out.ok.facts
   have hxr : Ext w wr:=hL.below
   obtain ⟨hgb,rfl,hgc⟩ : ∃ gb,hp = some ⟨gb,0,none⟩ ∧ wr.cell? ⟨gb,j,none⟩ = some (.int .i64 ((i : Int) + 1)):=by
    rcases hL.held.2 with ⟨_,h0⟩ | ⟨g,cap,cur,he,_,hgg,_,_,_,ht⟩
    ·omega
    ·simp only [Value.slice.injEq] at he
     refine ⟨g,he.1,?_⟩
     rw [cell_of hgg]
     have h2 : ((heldV ver).map (Value.int .i64))[j]? = some (.int .i64 ((i : Int) + 1)):=by rw [List.getElem?_map,hn];rfl
     rw [← ht,List.getElem?_take] at h2
     split at h2
     ·simpa using h2
     ·cases h2
   have hr2 : wr.cell? ⟨rb,2,none⟩ = some (.slice (some ⟨fb,0,none⟩) R.facts.length fcap):=hxr.cell' (cell_of HREC.out.blk 2)
   have f0 : wr.cell? ⟨fb,i * 9,none⟩ = some (.string f.subject):=hxr.cell' (hcells 0 _ rfl)
   have f1 : wr.cell? ⟨fb,i * 9 + 1,none⟩ = some (.string fs):=hxr.cell' (hcells 1 _ rfl)
   have f2 : wr.cell? ⟨fb,i * 9 + 2,none⟩ = some (.slice fp fn fc):=hxr.cell' (hcells 2 _ rfl)
   have f3 : wr.cell? ⟨fb,i * 9 + 3,none⟩ = some (.int .i64 flo):=hxr.cell' (hcells 3 _ rfl)
   have f4 : wr.cell? ⟨fb,i * 9 + 4,none⟩ = some (.int .i64 fhi):=hxr.cell' (hcells 4 _ rfl)
   have f5 : wr.cell? ⟨fb,i * 9 + 5,none⟩ = some (.pointer (some ⟨f.col,0,none⟩)):=hxr.cell' (hcells 5 _ rfl)
   have f6 : wr.cell? ⟨fb,i * 9 + 6,none⟩ = some (.int .u64 f.st.bits):=hxr.cell' (hcells 6 _ rfl)
   have f7 : wr.cell? ⟨fb,i * 9 + 7,none⟩ = some (.int .i64 f.st.low):=hxr.cell' (hcells 7 _ rfl)
   have f8 : wr.cell? ⟨fb,i * 9 + 8,none⟩ = some (.int .i64 f.st.high):=hxr.cell' (hcells 8 _ rfl)
   have HL:=Lib.hid hL
   have HXR:=Lib.hid hxr
   have HX:=Lib.hid hx
   have HF:=Lib.hid hf
   clear hL hxr hx hf hn hcells
   obtain ⟨sp,sc,rfl⟩:=owns_form HL.out.subs
   go_upto_region 6 with fail
   obtain ⟨W3,hW3⟩ : ∃ W3,W3 = wr.alloc (.cells #[.string f.subject,.string fs,.slice fp fn fc,.int .i64 flo,.int .i64 fhi,.pointer (some ⟨f.col,0,none⟩),.int .u64 f.st.bits,.int .i64 f.st.low,.int .i64 f.st.high] 122 (0,0)):=⟨_,rfl⟩
   rw [← hW3]
   have hx3 : Ext wr W3:=by rw [hW3];exact bel
   have hb3 : W3.heap[wr.heap.size]? = some (.cells #[.string f.subject,.string fs,.slice fp fn fc,.int .i64 flo,.int .i64 fhi,.pointer (some ⟨f.col,0,none⟩),.int .u64 f.st.bits,.int .i64 f.st.low,.int .i64 f.st.high] 122 (0,0)):=by rw [hW3];simp only [heap_drawn_get,heap_drew_get,heap_setCell_get,heap_alloc_get,World.size_alloc,World.size_setCell,size_drawn,putObj_get,putObj_size];(repeat (first | rw [if_pos trivial] | rw [if_pos rfl] | rw [if_neg (by omega)] | rw [if_pos (by omega)]))
   have d0 : W3.cell? ⟨wr.heap.size,0,none⟩ = some (.string f.subject):=cell_of hb3 0
   have d5 : W3.cell? ⟨wr.heap.size,5,none⟩ = some (.pointer (some ⟨f.col,0,none⟩)):=cell_of hb3 5
   have HX3:=Lib.hid hx3
   have HB3:=Lib.hid hb3
   clear hW3 hx3 hb3 f0 f1 f2 f3 f4 f5 f6 f7 f8 hr2 hgc
   go_upto_region 7 with fail
   obtain ⟨W4,hW4⟩ : ∃ W4,W4 = W3.alloc (.cells #[.string f.subject,.pointer (some ⟨f.col,0,none⟩)] 131 (0,0)):=⟨_,rfl⟩
   rw [← hW4]
   have hx4 : Ext W3 W4:=by rw [hW4];exact bel
   have hb4 : W4.heap[W3.heap.size]? = some (.cells #[.string f.subject,.pointer (some ⟨f.col,0,none⟩)] 131 (0,0)):=by rw [hW4];simp only [heap_drawn_get,heap_drew_get,heap_setCell_get,heap_alloc_get,World.size_alloc,World.size_setCell,size_drawn,putObj_get,putObj_size];(repeat (first | rw [if_pos trivial] | rw [if_pos rfl] | rw [if_neg (by omega)] | rw [if_pos (by omega)]))
   have e0 : W4.cell? ⟨wr.heap.size,0,none⟩ = some (.string f.subject):=cell_of (hx4.obj HB3.out) 0
   have HX4:=Lib.hid hx4
   have HB4:=Lib.hid hb4
   have hfact:=HREC.out.ok.fact f (List.mem_of_getElem? HF.out)
   have HFACT:=Lib.hid hfact
   clear hW4 hx4 hb4 d0 d5 hfact
   go_wp2_with fail
   refine (cut_any f.subject W4 HFACT.out.2.2.1 (hg.ext ((HXR.out.trans' HX3.out).trans' HX4.out))).mono ?_
   rintro e w5 ⟨rfl,hx5⟩
   have hX5 : Ext wr w5:=(HX3.out.trans' HX4.out).trans' hx5
   have hL5:=HL.out.ext hX5
   have HL5:=Lib.hid hL5
   have HB8:=Lib.hid (hx5.obj (HX4.out.obj HB3.out))
   have HB9:=Lib.hid (hx5.obj HB4.out)
   have HXW5:=Lib.hid (HXR.out.trans' hX5)
   have HVW5:=Lib.hid hL5.view
   have hsz : W3.heap.size < w5.heap.size:=heap_lt HB9.out
   have hsub : (subsL ((heldF R ver).take j)).length ≤ 600:=by
    have h1 : ∀ l : List (Int × FR),(subsL l).length = 2 * l.length:=by
     intro l
     induction l with
     | nil=>rfl
     | cons a r ih=>unfold subsL at *;rw [List.flatMap_cons,List.length_append,ih];simp;omega
    rw [h1,List.length_take]
    omega
   clear hX5 hL5 hx5 e0
   go_upto_region 8 with fail
   refine Rt.wp_region_rt (by kernel_rfl) [0,1,2,3,4,5,6,7,8,9,10,11,12,13] [9,10,13] [2,1,1,1,1,0,0,0,0,1000,1000,2,2] [0,0,2,6,14,0,32,96,0,480,1022,2047,4095,8191] (by kernel_rfl) (AppI w5 9 w2.heap.size 1 (w.heap.size + 4) 0 (.slice sp (subsL ((heldF R ver).take j)).length sc) (subsL ((heldF R ver).take j)).length ((subsL ((heldF R ver).take j)).map Value.string) [.string f.subject,.string (wholeOf f.subject)] 2) ?_ ?_
   ·exact (below_drawn (ext_refl _) _ : Ext _ _)
   iterate 4 (refine Rt.rs_sil rfl rfl rfl (fun K hK=>?_);go_simp;refine hK _ ?_;clear hK K)
   (refine Rt.rs_rd rfl rfl rfl ?_;apply Exists.intro;refine ⟨fun us' W hp hl hI=>?_,?_⟩;· (have hE:=hI.pre hl;have c : W.cell? ⟨w.heap.size + 4,0,none⟩ = some (.slice sp (subsL ((heldF R ver).take j)).length sc):=cell_of (hE.obj HVW5.out) 0;go_simp;rfl));simp only [Act.put,zA,zB,zC,zD,zE,zF]
   iterate 2 (refine Rt.rs_sil rfl rfl rfl (fun K hK=>?_);go_simp;refine hK _ ?_;clear hK K)
   (refine Rt.rs_rd rfl rfl rfl ?_;apply Exists.intro;refine ⟨fun us' W hp hl hI=>?_,?_⟩;· (have hE:=hI.pre (Nat.le_trans hl (by decide));have c : W.cell? ⟨wr.heap.size,0,none⟩ = some (.string f.subject):=cell_of (hE.obj HB8.out) 0;go_simp;rfl));simp only [Act.put,zA,zB,zC,zD,zE,zF]
   (refine Rt.rs_sil rfl rfl rfl (fun K hK=>?_);go_simp;refine hK _ ?_;clear hK K)
   refine Rt.rs_eff rfl rfl rfl (fun W hI=>?_) (fun v hv=>?_)
   ·have hE:=hI.pre (Nat.zero_le _)
    refine Rt.gives_val ?_
    apply Exists.intro
    apply Exists.intro
    refine ⟨by go_simp;exact ⟨rfl,rfl⟩,?_⟩
    refine ⟨_,rfl,?_,?_⟩
    ·simp only [heap_drawn_get,heap_drew_get,heap_setCell_get,heap_alloc_get,World.size_alloc,World.size_setCell,size_drawn,putObj_get,putObj_size];(repeat (first | rw [if_pos trivial] | rw [if_pos rfl] | rw [if_neg (by omega)] | rw [if_pos (by omega)]))
    ·exact hE.trans' (by exact bel)
   obtain ⟨ab,rfl⟩ : ∃ ab,v = .slice (some ⟨ab,0,none⟩) 2 2:=let ⟨W,hI⟩:=hv;let ⟨ab,h,_⟩:=hI;⟨ab,h⟩
   clear hv
   simp only [Act.put,zA,zB,zC,zD,zE,zF]
   refine Rt.rs_eff rfl rfl rfl (fun W hI=>?_) (fun v hv=>?_)
   ·obtain ⟨ab',e,hc,hE⟩:=hI
    simp only [Value.slice.injEq,Option.some.injEq,Addr.mk.injEq,and_true] at e
    subst e
    have hL:=HL5.out.ext hE
    obtain ⟨v',w',q1,q2,q3,_⟩:=append_strs (row:=[.string f.subject,.string (wholeOf f.subject)]) hL.subs ab 2 rfl (fun j u hj=>by rw [Nat.zero_add,cell_of hc j,List.getElem?_toArray];exact hj) (fun u hu=>by simp at hu;rcases hu with rfl | rfl <;> rfl) (by omega) hL.size 2
    exact gives_append_run _ _ 26 rfl rfl rfl q1 ⟨W,hE,q3,q2⟩
   obtain ⟨sp',sc',rfl⟩ : ∃ p c,v = .slice p ((subsL ((heldF R ver).take j)).length + 2) c:=let ⟨W,hI⟩:=hv;let ⟨_,_,_,hr⟩:=hI;owns_form hr
   clear hv
   simp only [Act.put,zA,zB,zC,zD,zE,zF]
   iterate 2 (refine Rt.rs_sil rfl rfl rfl (fun K hK=>?_);go_simp;refine hK _ ?_;clear hK K)
   refine Rt.rs_eff rfl rfl rfl (fun W hI=>?_) (fun v hv=>?_)
   ·have hk:=hI.keep (Nat.le_refl _) HL5.out.subs HVW5.out (by simp)
    have c:=cell_of hk 0
    have f:=frozen_of hk 0
    obtain ⟨W0,hE,hg,hr⟩:=hI
    refine Rt.gives_skp ?_
    apply Exists.intro
    refine ⟨by go_simp;rfl,?_⟩
    exact ⟨W0,W,hE,hg,hr,rfl⟩
   clear hv
   simp only [Act.put,zA,zB,zC,zD,zE,zF]
   refine Rt.rs_nil (fun w6 hI=>?_)
   obtain ⟨Wa,Wb,hxa,hga,hra,hWb⟩:=hI
   have hL6:=(HL5.out.ext hxa).subsStep (x:=((i : Int) + 1,f)) hga hra
   rw [← hWb] at hL6
   have hfr:=frm_grown (HL5.out.ext hxa).subs hga
   have hvwb:=hfr.cells (hxa.obj HVW5.out) (by decide)
   have hfr2 : Frm 138 Wb w6:=by rw [hWb];exact frm_set hvwb _
   have HB8_6:=Lib.hid (hfr2.cells (hfr.cells (hxa.obj HB8.out) (by decide)) (by decide))
   have HB9_6:=Lib.hid (hfr2.cells (hfr.cells (hxa.obj HB9.out) (by decide)) (by decide))
   have HL6:=Lib.hid hL6
   have HVW6:=Lib.hid hL6.view
   have htake : (heldF R ver).take (j + 1) = (heldF R ver).take j ++ [((i : Int) + 1,f)]:=by rw [List.take_add_one,HX.out];rfl
   have HTK:=Lib.hid htake
   clear hxa hga hra hWb hL6 hfr hvwb hfr2 htake hsub hsz
   have hkl : (factsK ((heldF R ver).take j) (keyOf f)).length ≤ 300:=Nat.le_trans (factsK_le _ _) (by rw [List.length_take,heldF_len];omega)
   obtain ⟨old,hold⟩ : ∃ old,(look lf (keyOf f)).getD (.slice none 0 0) = old:=⟨_,rfl⟩
   have HOLD:=Lib.hid hold
   clear hold
   go_upto_region 9 with fail
   refine Rt.wp_region_rt (by kernel_rfl) [0,1,2,3,4,5,6,7,8,10,9,11] [6,7,9,11] [1,1,1,1,1,0,1000,1000,2,1000,3] [0,1,3,7,0,0,32,127,255,511,255,2047] (by kernel_rfl) (EntI encK w6 3 w2.heap.size (w.heap.size + 2) lf (keyOf f) old (factsK ((heldF R ver).take j) (keyOf f)).length ((factsK ((heldF R ver).take j) (keyOf f)).map (Value.int .i64)) [.int .i64 ((i : Int) + 1)] 1 (fun v' W=>LookI w.heap.size w2.heap.size w (.slice (some ⟨hgb,0,none⟩) (heldV ver).length hc) (heldV ver) ((heldF R ver).take j ++ [((i : Int) + 1,f)]) ((heldF R ver).take j ++ [((i : Int) + 1,f)]) ((heldF R ver).take j) ((heldF R ver).take j) (.slice sp' ((subsL ((heldF R ver).take j)).length + 2) sc') lk (mput lf (keyOf f) v') ld W ∧ W.heap[wr.heap.size]? = some (.cells #[.string f.subject,.string fs,.slice fp fn fc,.int .i64 flo,.int .i64 fhi,.pointer (some ⟨f.col,0,none⟩),.int .u64 f.st.bits,.int .i64 f.st.low,.int .i64 f.st.high] 122 (0,0)) ∧ W.heap[W3.heap.size]? = some (.cells #[.string f.subject,.pointer (some ⟨f.col,0,none⟩)] 131 (0,0)))) ?_ ?_
   ·exact (below_drawn (ext_refl _) _ : Ext _ _)
   iterate 3 (refine Rt.rs_sil rfl rfl rfl (fun K hK=>?_);go_simp;refine hK _ ?_;clear hK K)
   (refine Rt.rs_rd rfl rfl rfl ?_;apply Exists.intro;refine ⟨fun us' W hp hl hI=>?_,?_⟩;· (have hE:=hI.pre hl;have c : W.cell? ⟨w.heap.size + 4,3,none⟩ = some (.map (some (w.heap.size + 2))):=cell_of (hE.obj HVW6.out) 3;go_simp;rfl));simp only [Act.put,zA,zB,zC,zD,zE,zF]
   (refine Rt.rs_rd rfl rfl rfl ?_;apply Exists.intro;refine ⟨fun us' W hp hl hI=>?_,?_⟩;· (have hE:=hI.pre hl;have c : W.cell? ⟨W3.heap.size,0,none⟩ = some (.string f.subject):=cell_of (hE.obj HB9_6.out) 0;have d : W.cell? ⟨W3.heap.size,1,none⟩ = some (.pointer (some ⟨f.col,0,none⟩)):=cell_of (hE.obj HB9_6.out) 1;go_simp;rfl));simp only [Act.put,zA,zB,zC,zD,zE,zF]
   (refine Rt.rs_sil rfl rfl rfl (fun K hK=>?_);go_simp;refine hK _ ?_;clear hK K)
   refine Rt.rs_eff rfl rfl rfl (fun W hI=>?_) (fun v hv=>?_)
   ·have hE:=hI.pre (Nat.zero_le _)
    refine Rt.gives_val ?_
    apply Exists.intro
    apply Exists.intro
    refine ⟨by go_simp;exact ⟨rfl,rfl⟩,?_⟩
    refine ⟨_,rfl,?_,?_⟩
    ·simp only [heap_drawn_get,heap_drew_get,heap_setCell_get,heap_alloc_get,World.size_alloc,World.size_setCell,size_drawn,putObj_get,putObj_size];(repeat (first | rw [if_pos trivial] | rw [if_pos rfl] | rw [if_neg (by omega)] | rw [if_pos (by omega)]))
    ·exact hE.trans' (by exact bel)
   obtain ⟨ab2,rfl⟩ : ∃ ab,v = .slice (some ⟨ab,0,none⟩) 1 1:=let ⟨W,hI⟩:=hv;let ⟨ab,h,_⟩:=hI;⟨ab,h⟩
   clear hv
   simp only [Act.put,zA,zB,zC,zD,zE,zF]
   refine Rt.rs_eff rfl rfl rfl (fun W hI=>?_) (fun v hv=>?_)
   ·obtain ⟨ab',e,hc,hE⟩:=hI
    simp only [Value.slice.injEq,Option.some.injEq,Addr.mk.injEq,and_true] at e
    subst e
    have hL:=HL6.out.ext hE
    have hwW : Ext w W:=hL.below
    have hme:=run_mapEntry (P:=Tryz.prog) (T:=135) (K:=131) (E:=35) (z:=.slice none 0 0) (k:=keyOf f) (by kernel_rfl) hL.facts (finds_key W lf (keyOf f) ((HREC.out.ext hwW).isCol HFACT.out.1) (hL.colF (HREC.out.heldCol HVM.out hwW j))) (by kernel_rfl)
    rw [HOLD.out] at hme
    replace hme : (Instr.mapEntry 135 (.map (some (w.heap.size + 2))) (.agg #[.string f.subject,.pointer (some ⟨f.col,0,none⟩)])).run Tryz.prog W = _:=hme
    refine Rt.gives_val ?_
    apply Exists.intro
    apply Exists.intro
    refine ⟨by go_simp;exact ⟨rfl,rfl⟩,?_⟩
    exact ⟨ab2,W,rfl,rfl,hc,hE,rfl⟩
   obtain rfl : v = .tuple #[old,.int .i64 (posOf lf (keyOf f))]:=let ⟨W,hI⟩:=hv;let ⟨_,_,_,h,_⟩:=hI;h
   clear hv
   simp only [Act.put,zA,zB,zC,zD,zE,zF]
   iterate 2 (refine Rt.rs_sil rfl rfl rfl (fun K hK=>?_);go_simp;refine hK _ ?_;clear hK K)
   refine Rt.rs_eff rfl rfl rfl (fun W hI=>?_) (fun v hv=>?_)
   ·obtain ⟨ab',W0,e,_,hc,hE,hW⟩:=hI
    simp only [Value.slice.injEq,Option.some.injEq,Addr.mk.injEq,and_true] at e
    subst e
    have hL:=HL6.out.ext hE
    have hm:=hL.facts
    unfold MapIs at hm
    have hrow0:=hL.rowOld (keyOf f)
    rw [HOLD.out] at hrow0
    have hrow1 : W.ownsRow w2.heap.size 3 1 old (factsK ((heldF R ver).take j) (keyOf f)).length ((factsK ((heldF R ver).take j) (keyOf f)).map (Value.int .i64)):=by rw [hW];exact put_owns hm hrow0
    have hc1 : W.heap[ab2]? = some (.cells (List.toArray [.int .i64 ((i : Int) + 1)]) 3 (0,0)):=by rw [hW];exact put_cells hm hc
    have hs1 : W.heap.size = W0.heap.size:=by rw [hW];unfold wput;rw [putObj_size]
    obtain ⟨v',w',q1,q2,q3,q4⟩:=append_ints (row:=[.int .i64 ((i : Int) + 1)]) hrow1 ab2 1 rfl (fun j u hj=>by rw [Nat.zero_add,cell_of hc1 j,List.getElem?_toArray];exact hj) (fun u hu=>by simp at hu;subst hu;rfl) (by omega) (by rw [hs1];exact hL.size) 1
    exact gives_append_run _ _ 35 rfl rfl rfl q1 ⟨W0,hE,by rw [← hW];exact q3,q2,by rw [← hs1];exact q4⟩
   obtain ⟨np,nc,rfl⟩ : ∃ p c,v = .slice p ((factsK ((heldF R ver).take j) (keyOf f)).length + 1) c:=let ⟨W,hI⟩:=hv;let ⟨_,_,_,hr,_⟩:=hI;owns_form hr
   clear hv
   simp only [Act.put,zA,zB,zC,zD,zE,zF]
   refine Rt.rs_eff rfl rfl rfl (fun W hI=>?_) (fun v hv=>?_)
   ·obtain ⟨W0,hE,hg,hr,hat⟩:=hI
    have hL:=HL6.out.ext hE
    have hg':=hg
    rw [← HOLD.out] at hg' hat
    obtain ⟨hes,hbx⟩:=hL.entry (v':=.slice np ((factsK ((heldF R ver).take j) (keyOf f)).length + 1) nc) (keyOf f) hg'
    refine Rt.gives_skp ?_
    apply Exists.intro
    refine ⟨by go_simp;rfl,?_⟩
    exact ⟨hL.factsStep ((i : Int) + 1,f) hg' hat hr,hbx _ _ _ _ (by decide) (hE.obj HB8_6.out),hbx _ _ _ _ (by decide) (hE.obj HB9_6.out)⟩
   clear hv
   simp only [Act.put,zA,zB,zC,zD,zE,zF]
   refine Rt.rs_nil (fun w7 hI=>?_)
   obtain ⟨hL7,hb8,hb9⟩:=hI
   have HL7:=Lib.hid hL7
   have HB8_7:=Lib.hid hb8
   have HB9_7:=Lib.hid hb9
   have HVW7:=Lib.hid hL7.view
   clear hL7 hb8 hb9
   obtain ⟨cur,hcur⟩ : ∃ cur,knowK ((heldF R ver).take j) (keyOf f) = cur:=⟨_,rfl⟩
   obtain ⟨st0,hst0⟩ : ∃ st0,(cur.map (·.1)).getD ⟨0,0,0⟩ = st0:=⟨_,rfl⟩
   obtain ⟨s1,hs1'⟩ : ∃ s1,(cur.map (·.1)).getD (allSt f.attr) = s1:=⟨_,rfl⟩
   obtain ⟨b0,hb0⟩ : ∃ b0,cur.isSome = b0:=⟨_,rfl⟩
   have hlk : ∀ W,Ext w7 W → (Instr.lookup 134 (.map (some (w.heap.size + 1))) (.agg #[.string f.subject,.pointer (some ⟨f.col,0,none⟩)]) true).run Tryz.prog W = .ok (.tuple #[.agg #[.int .u64 st0.bits,.int .i64 st0.low,.int .i64 st0.high],.bool b0]) W:=fun W hE=>by
    have hL:=HL7.out.ext hE
    have hwW : Ext w W:=hL.below
    have hq:=run_lookup2 (P:=Tryz.prog) (T:=134) (K:=131) (E:=120) (z:=.agg #[.int .u64 0,.int .i64 0,.int .i64 0]) (k:=keyOf f) (by kernel_rfl) hL.known (finds_key W lk (keyOf f) ((HREC.out.ext hwW).isCol HFACT.out.1) (hL.colK (HREC.out.heldCol HVM.out hwW j))) (by kernel_rfl)
    rw [hL.knownL,hcur] at hq
    rw [← hst0,← hb0]
    cases cur <;> exact hq
   have hstep : (stepK (knowK ((heldF R ver).take j) (keyOf f)) f).1 = meetSt s1 f.st:=by rw [hcur,← hs1'];rfl
   have hdb : (stepK (knowK ((heldF R ver).take j) (keyOf f)) f).2.1 = (doubtK ((heldF R ver).take j) (keyOf f) || !meetOk f.attr (meetSt s1 f.st)):=by unfold doubtK;rw [hcur,← hs1'];rfl
   have hs1b : s1.bits < 256:=by
    rw [← hs1']
    cases hcc : cur with
    | none=>exact allSt_bits (HREC.out.ok.attrs _ HFACT.out.1)
    | some x=>
     refine knowK_bits (l:=(heldF R ver).take j) (k:=keyOf f) (x:=x) (fun y hy=>?_) (by rw [hcur,hcc])
     exact (HREC.out.ok.fact _ (heldF_mem HREC.out.ok HVM.out (List.mem_of_mem_take hy))).2.2.2.1
   have hs01 : b0 = true → st0 = s1:=by rw [← hb0,← hst0,← hs1'];cases cur <;> simp
   have hs02 : b0 = false → s1 = allSt f.attr:=by rw [← hb0,← hs1'];cases cur <;> simp
   have HSTEP0:=Lib.hid hstep
   have HDB:=Lib.hid hdb
   have HS1B:=Lib.hid hs1b
   have HS01:=Lib.hid hs01
   have HS02:=Lib.hid hs02
   have HLK:=Lib.hid hlk
   clear hcur hst0 hs1' hb0 hlk hstep hdb hs1b hs01 hs02
   clear cur
   go_upto_region 10 with fail
   refine Rt.wp_region_rt (by kernel_rfl) [0,1,2,3,4,5,6,7,8,9,10,11] [9,10] [1,1,1,1,1,1,1,1] [0,1,3,7,0,31,63,127,127,0,767,2047] (by kernel_rfl) (AllI w7 st0) ?_ ?_
   ·exact (below_drawn (ext_refl _) _ : Ext _ _)
   iterate 3 (refine Rt.rs_sil rfl rfl rfl (fun K hK=>?_);go_simp;refine hK _ ?_;clear hK K)
   (refine Rt.rs_rd rfl rfl rfl ?_;apply Exists.intro;refine ⟨fun us' W hp hl hI=>?_,?_⟩;· (have hE:=hI.pre hl;have c : W.cell? ⟨w.heap.size + 4,2,none⟩ = some (.map (some (w.heap.size + 1))):=cell_of (hE.obj HVW7.out) 2;go_simp;rfl));simp only [Act.put,zA,zB,zC,zD,zE,zF]
   (refine Rt.rs_rd rfl rfl rfl ?_;apply Exists.intro;refine ⟨fun us' W hp hl hI=>?_,?_⟩;· (have hE:=hI.pre hl;have c : W.cell? ⟨W3.heap.size,0,none⟩ = some (.string f.subject):=cell_of (hE.obj HB9_7.out) 0;have d : W.cell? ⟨W3.heap.size,1,none⟩ = some (.pointer (some ⟨f.col,0,none⟩)):=cell_of (hE.obj HB9_7.out) 1;go_simp;rfl));simp only [Act.put,zA,zB,zC,zD,zE,zF]
   (refine Rt.rs_rd rfl rfl rfl ?_;apply Exists.intro;refine ⟨fun us' W hp hl hI=>?_,?_⟩;· (have hq:=HLK.out W (hI.pre hl);go_simp;rfl));simp only [Act.put,zA,zB,zC,zD,zE,zF]
   iterate 3 (refine Rt.rs_sil rfl rfl rfl (fun K hK=>?_);go_simp;refine hK _ ?_;clear hK K)
   refine Rt.rs_eff rfl rfl rfl (fun W hI=>?_) (fun v hv=>?_)
   ·have hE:=hI.pre (Nat.zero_le _)
    refine Rt.gives_val ?_
    apply Exists.intro
    apply Exists.intro
    refine ⟨by go_simp;exact ⟨rfl,rfl⟩,?_⟩
    exact ⟨W,hE,rfl,rfl⟩
   obtain ⟨bb,rfl⟩ : ∃ bb,v = .pointer (some ⟨bb,0,none⟩):=let ⟨W,hI⟩:=hv;let ⟨_,_,h,_⟩:=hI;⟨_,h⟩
   clear hv
   simp only [Act.put,zA,zB,zC,zD,zE,zF]
   refine Rt.rs_eff rfl rfl rfl (fun W hI=>?_) (fun v hv=>?_)
   ·obtain ⟨W0,hE,e,hW⟩:=hI
    simp only [Value.pointer.injEq,Option.some.injEq,Addr.mk.injEq,and_true] at e
    subst e
    have hb : W.heap[W0.heap.size]? = some (.cells #[.int .u64 0,.int .i64 0,.int .i64 0] 120 (0,0)):=by rw [hW];simp only [heap_drawn_get,heap_drew_get,heap_setCell_get,heap_alloc_get,World.size_alloc,World.size_setCell,size_drawn,putObj_get,putObj_size];(repeat (first | rw [if_pos trivial] | rw [if_pos rfl] | rw [if_neg (by omega)] | rw [if_pos (by omega)]))
    have c0:=cell_of hb 0
    have c1:=cell_of hb 1
    have c2:=cell_of hb 2
    have f0:=frozen_of hb 0
    have f1:=frozen_of hb 1
    have f2:=frozen_of hb 2
    have hxW : Ext w7 W:=hE.trans' (by rw [hW];exact bel)
    have hsz:=hE.size
    clear hW
    refine Rt.gives_skp ?_
    apply Exists.intro
    refine ⟨by go_simp;rfl,?_⟩
    refine ⟨W0.heap.size,rfl,hE.size,?_,?_⟩
    ·exact bel
    ·simp only [heap_drawn_get,heap_drew_get,heap_setCell_get,heap_alloc_get,World.size_alloc,World.size_setCell,size_drawn,putObj_get,putObj_size];(repeat (first | rw [if_pos trivial] | rw [if_pos rfl] | rw [if_neg (by omega)] | rw [if_pos (by omega)]))
     rw [hb];rfl
   clear hv
   simp only [Act.put,zA,zB,zC,zD,zE,zF]
   (refine Rt.rs_sil rfl rfl rfl (fun K hK=>?_);go_simp;refine hK _ ?_;clear hK K)
   refine Rt.rs_nil (fun w8 hI=>?_)
   obtain ⟨bb',e,hbb,hx8,hb13⟩:=hI
   simp only [Value.pointer.injEq,Option.some.injEq,Addr.mk.injEq,and_true] at e
   subst e
   have HX8:=Lib.hid hx8
   have HB13:=Lib.hid hb13
   have HBB:=Lib.hid hbb
   have hb8:=hx8.obj HB8_7.out
   have m5 : w8.cell? ⟨wr.heap.size,5,none⟩ = some (.pointer (some ⟨f.col,0,none⟩)):=cell_of hb8 5
   clear hx8 hb13 hbb hb8
   cases b0 with
   | true=>
    obtain ⟨wc,rfl⟩ : ∃ wc,wc = w8:=⟨w8,rfl⟩
    have hxc:=HX8.out
    have hbc:=HB13.out
    rw [HS01.out (by simp)] at hbc
    have hb8:=hxc.obj HB8_7.out
    have n5 : wc.cell? ⟨wr.heap.size,5,none⟩ = some (.pointer (some ⟨f.col,0,none⟩)):=cell_of hb8 5
    have n6 : wc.cell? ⟨wr.heap.size,6,none⟩ = some (.int .u64 f.st.bits):=cell_of hb8 6
    have n7 : wc.cell? ⟨wr.heap.size,7,none⟩ = some (.int .i64 f.st.low):=cell_of hb8 7
    have n8 : wc.cell? ⟨wr.heap.size,8,none⟩ = some (.int .i64 f.st.high):=cell_of hb8 8
    have c0 : wc.cell? ⟨bb,0,none⟩ = some (.int .u64 s1.bits):=cell_of hbc 0
    have c1 : wc.cell? ⟨bb,1,none⟩ = some (.int .i64 s1.low):=cell_of hbc 1
    have c2 : wc.cell? ⟨bb,2,none⟩ = some (.int .i64 s1.high):=cell_of hbc 2
    have hwc : Ext w wc:=Ext.trans' HL7.out.below hxc
    have HXC:=Lib.hid hxc
    have HBC:=Lib.hid hbc
    have HWC:=Lib.hid hwc
    clear hxc hbc hb8 hwc m5
    go_wp2_with fail
    refine (meet_any f.col f.attr s1 f.st wc ((HREC.out.ext HWC.out).colAt _ HFACT.out.1).colAt HS1B.out HFACT.out.2.2.2.1).mono ?_
    rintro e w9 ⟨rfl,hx9⟩
    obtain ⟨m,hm⟩ : ∃ m,meetSt s1 f.st = m:=⟨_,rfl⟩
    obtain ⟨mo,hmo⟩ : ∃ mo,meetOk f.attr m = mo:=⟨_,rfl⟩
    rw [hm,hmo]
    have HSTEP:=Lib.hid (HSTEP0.out.trans hm)
    have HMO:=Lib.hid (show meetOk f.attr (meetSt s1 f.st) = mo by rw [hm,hmo])
    have hb:=hx9.obj HBC.out
    have c0:=cell_of hb 0
    have c1:=cell_of hb 1
    have c2:=cell_of hb 2
    have f0:=frozen_of hb 0
    have f1:=frozen_of hb 1
    have f2:=frozen_of hb 2
    have HX9:=Lib.hid (HXC.out.trans' hx9)
    have HB:=Lib.hid hb
    unfold St.val
    clear hx9 hb n5 n6 n7 n8 hm hmo
    go_upto_region 14 with fail
    obtain ⟨W13,hW13⟩ : ∃ W13,W13 = ((w9.setCell ⟨bb,0,none⟩ (.int .u64 m.bits)).setCell ⟨bb,1,none⟩ (.int .i64 m.low)).setCell ⟨bb,2,none⟩ (.int .i64 m.high):=⟨_,rfl⟩
    rw [← hW13]
    have hx13 : Ext w7 W13:=by
     have hx:=HX9.out
     have hbb:=HBB.out
     rw [hW13];exact bel
    have hb13 : W13.heap[bb]? = some (.cells #[.int .u64 m.bits,.int .i64 m.low,.int .i64 m.high] 120 (0,0)):=by
     have h:=HB.out
     rw [hW13];simp only [heap_drawn_get,heap_drew_get,heap_setCell_get,heap_alloc_get,World.size_alloc,World.size_setCell,size_drawn,putObj_get,putObj_size];(repeat (first | rw [if_pos trivial] | rw [if_pos rfl] | rw [if_neg (by omega)] | rw [if_pos (by omega)]))
     rw [h];rfl
    have HL13:=Lib.hid (HL7.out.ext hx13)
    have HVW13:=Lib.hid (hx13.obj HVW7.out)
    have HB9_13:=Lib.hid (hx13.obj HB9_7.out)
    have HB13_13:=Lib.hid hb13
    clear hW13 hx13 hb13 c0 c1 c2 f0 f1 f2
    cases mo with
    | false=>
     go_upto_region 15 with fail
     refine Rt.wp_region_rt (by kernel_rfl) [0,1,2,3,4,5] [5] [0,0,0,0,0] [0,1,3,7,0,31] (by kernel_rfl) (UpI W13 (fun W=>LookI w.heap.size w2.heap.size w (.slice (some ⟨hgb,0,none⟩) (heldV ver).length hc) (heldV ver) ((heldF R ver).take j ++ [((i : Int) + 1,f)]) ((heldF R ver).take j ++ [((i : Int) + 1,f)]) ((heldF R ver).take j) ((heldF R ver).take j ++ [((i : Int) + 1,f)]) (.slice sp' ((subsL ((heldF R ver).take j)).length + 2) sc') lk (mput lf (keyOf f) (.slice np ((factsK ((heldF R ver).take j) (keyOf f)).length + 1) nc)) (mput ld (keyOf f) (.bool true)) W ∧ W.heap[W3.heap.size]? = some (.cells #[.string f.subject,.pointer (some ⟨f.col,0,none⟩)] 131 (0,0)) ∧ W.heap[bb]? = some (.cells #[.int .u64 m.bits,.int .i64 m.low,.int .i64 m.high] 120 (0,0)))) ?_ ?_
     ·exact (below_drawn (ext_refl _) _ : Ext _ _)
     iterate 3 (refine Rt.rs_sil rfl rfl rfl (fun K hK=>?_);go_simp;refine hK _ ?_;clear hK K)
     (refine Rt.rs_rd rfl rfl rfl ?_;apply Exists.intro;refine ⟨fun us' W hp hl hI=>?_,?_⟩;· (have hE:=hI.pre hl;have c : W.cell? ⟨w.heap.size + 4,4,none⟩ = some (.map (some (w.heap.size + 3))):=cell_of (hE.obj HVW13.out) 4;go_simp;rfl));simp only [Act.put,zA,zB,zC,zD,zE,zF]
     (refine Rt.rs_rd rfl rfl rfl ?_;apply Exists.intro;refine ⟨fun us' W hp hl hI=>?_,?_⟩;· (have hE:=hI.pre hl;have c : W.cell? ⟨W3.heap.size,0,none⟩ = some (.string f.subject):=cell_of (hE.obj HB9_13.out) 0;have d : W.cell? ⟨W3.heap.size,1,none⟩ = some (.pointer (some ⟨f.col,0,none⟩)):=cell_of (hE.obj HB9_13.out) 1;go_simp;rfl));simp only [Act.put,zA,zB,zC,zD,zE,zF]
     refine Rt.rs_eff rfl rfl rfl (fun W hI=>?_) (fun v hv=>?_)
     ·have hE:=hI.pre (Nat.le_refl _)
      have hL:=HL13.out.ext hE
      have hwW : Ext w W:=hL.below
      have hup:=run_mapUpdate (P:=Tryz.prog) (T:=136) (K:=131) (E:=4) (k:=keyOf f) (v:=.bool true) (by kernel_rfl) hL.doubts (finds_key W ld (keyOf f) ((HREC.out.ext hwW).isCol HFACT.out.1) (hL.colD (HREC.out.heldCol HVM.out hwW j)))
      replace hup : (Instr.mapUpdate 136 (.map (some (w.heap.size + 3))) (.agg #[.string f.subject,.pointer (some ⟨f.col,0,none⟩)]) (.bool true)).run Tryz.prog W = _:=hup
      refine Rt.gives_skp ?_
      apply Exists.intro
      refine ⟨by go_simp;rfl,?_⟩
      have hdm:=hL.doubts
      unfold MapIs at hdm
      exact ⟨hL.doubtYes ((i : Int) + 1,f) (by rw [HDB.out,HMO.out];simp),put_cells hdm (hE.obj HB9_13.out),put_cells hdm (hE.obj HB13_13.out)⟩
     clear hv
     simp only [Act.put,zA,zB,zC,zD,zE,zF]
     refine Rt.rs_nil (fun w15 hI=>?_)
     obtain ⟨hL15,hb9,hb13⟩:=hI
     have HL15:=Lib.hid hL15
     have HVW15:=Lib.hid hL15.view
     have HB9_15:=Lib.hid hb9
     have HB13_15:=Lib.hid hb13
     clear hL15 hb9 hb13
     go_upto_region 16 with fail
     refine Rt.wp_region_rt (by kernel_rfl) [0,1,2,3,4,5,6] [6] [0,0,0,0,0,0] [0,1,3,7,0,0,63] (by kernel_rfl) (UpI w15 (fun W=>LookI w.heap.size w2.heap.size w (.slice (some ⟨hgb,0,none⟩) (heldV ver).length hc) (heldV ver) ((heldF R ver).take j ++ [((i : Int) + 1,f)]) ((heldF R ver).take j ++ [((i : Int) + 1,f)]) ((heldF R ver).take j ++ [((i : Int) + 1,f)]) ((heldF R ver).take j ++ [((i : Int) + 1,f)]) (.slice sp' ((subsL ((heldF R ver).take j)).length + 2) sc') (mput lk (keyOf f) m.val) (mput lf (keyOf f) (.slice np ((factsK ((heldF R ver).take j) (keyOf f)).length + 1) nc)) (mput ld (keyOf f) (.bool true)) W)) ?_ ?_
     ·exact (below_drawn (ext_refl _) _ : Ext _ _)
     iterate 3 (refine Rt.rs_sil rfl rfl rfl (fun K hK=>?_);go_simp;refine hK _ ?_;clear hK K)
     (refine Rt.rs_rd rfl rfl rfl ?_;apply Exists.intro;refine ⟨fun us' W hp hl hI=>?_,?_⟩;· (have hE:=hI.pre hl;have c : W.cell? ⟨w.heap.size + 4,2,none⟩ = some (.map (some (w.heap.size + 1))):=cell_of (hE.obj HVW15.out) 2;go_simp;rfl));simp only [Act.put,zA,zB,zC,zD,zE,zF]
     (refine Rt.rs_rd rfl rfl rfl ?_;apply Exists.intro;refine ⟨fun us' W hp hl hI=>?_,?_⟩;· (have hE:=hI.pre hl;have c : W.cell? ⟨W3.heap.size,0,none⟩ = some (.string f.subject):=cell_of (hE.obj HB9_15.out) 0;have d : W.cell? ⟨W3.heap.size,1,none⟩ = some (.pointer (some ⟨f.col,0,none⟩)):=cell_of (hE.obj HB9_15.out) 1;go_simp;rfl));simp only [Act.put,zA,zB,zC,zD,zE,zF]
     (refine Rt.rs_rd rfl rfl rfl ?_;apply Exists.intro;refine ⟨fun us' W hp hl hI=>?_,?_⟩;· (have hE:=hI.pre hl;have c : W.cell? ⟨bb,0,none⟩ = some (.int .u64 m.bits):=cell_of (hE.obj HB13_15.out) 0;have d : W.cell? ⟨bb,1,none⟩ = some (.int .i64 m.low):=cell_of (hE.obj HB13_15.out) 1;have e : W.cell? ⟨bb,2,none⟩ = some (.int .i64 m.high):=cell_of (hE.obj HB13_15.out) 2;go_simp;rfl));simp only [Act.put,zA,zB,zC,zD,zE,zF]
     refine Rt.rs_eff rfl rfl rfl (fun W hI=>?_) (fun v hv=>?_)
     ·have hE:=hI.pre (Nat.le_refl _)
      have hL:=HL15.out.ext hE
      have hwW : Ext w W:=hL.below
      have hup:=run_mapUpdate (P:=Tryz.prog) (T:=134) (K:=131) (E:=120) (k:=keyOf f) (v:=m.val) (by kernel_rfl) hL.known (finds_key W lk (keyOf f) ((HREC.out.ext hwW).isCol HFACT.out.1) (hL.colK (HREC.out.heldCol HVM.out hwW j)))
      replace hup : (Instr.mapUpdate 134 (.map (some (w.heap.size + 1))) (.agg #[.string f.subject,.pointer (some ⟨f.col,0,none⟩)]) (.agg #[.int .u64 m.bits,.int .i64 m.low,.int .i64 m.high])).run Tryz.prog W = _:=hup
      refine Rt.gives_skp ?_
      apply Exists.intro
      refine ⟨by go_simp;rfl,?_⟩
      have hk:=hL.knownStep ((i : Int) + 1,f)
      rw [show (stepK (knowK ((heldF R ver).take j) (keyOf f)) f).1 = m from HSTEP.out] at hk
      exact hk
     clear hv
     simp only [Act.put,zA,zB,zC,zD,zE,zF]
     refine Rt.rs_nil (fun w16 hI=>?_)
     have HL16:=Lib.hid (show LookI w.heap.size w2.heap.size w (.slice (some ⟨hgb,0,none⟩) (heldV ver).length hc) (heldV ver) ((heldF R ver).take j ++ [((i : Int) + 1,f)]) ((heldF R ver).take j ++ [((i : Int) + 1,f)]) ((heldF R ver).take j ++ [((i : Int) + 1,f)]) ((heldF R ver).take j ++ [((i : Int) + 1,f)]) (.slice sp' ((subsL ((heldF R ver).take j)).length + 2) sc') (mput lk (keyOf f) m.val) (mput lf (keyOf f) (.slice np ((factsK ((heldF R ver).take j) (keyOf f)).length + 1) nc)) (mput ld (keyOf f) (.bool true)) w16 from hI)
     clear hI
     go_wp2_with fail
     exact ⟨⟨j + 1,_,_,_,_,by omega,rfl,by rw [HTK.out];exact HL16.out⟩,by simp [intOf];omega⟩
    | true=>
     have HL15:=Lib.hid (HL13.out.doubtNo ((i : Int) + 1,f) (by show meetOk f.attr _ = true;rw [HSTEP0.out];exact HMO.out))
     go_upto_region 16 with fail
     refine Rt.wp_region_rt (by kernel_rfl) [0,1,2,3,4,5,6] [6] [0,0,0,0,0,0] [0,1,3,7,0,0,63] (by kernel_rfl) (UpI W13 (fun W=>LookI w.heap.size w2.heap.size w (.slice (some ⟨hgb,0,none⟩) (heldV ver).length hc) (heldV ver) ((heldF R ver).take j ++ [((i : Int) + 1,f)]) ((heldF R ver).take j ++ [((i : Int) + 1,f)]) ((heldF R ver).take j ++ [((i : Int) + 1,f)]) ((heldF R ver).take j ++ [((i : Int) + 1,f)]) (.slice sp' ((subsL ((heldF R ver).take j)).length + 2) sc') (mput lk (keyOf f) m.val) (mput lf (keyOf f) (.slice np ((factsK ((heldF R ver).take j) (keyOf f)).length + 1) nc)) ld W)) ?_ ?_
     ·exact (below_drawn (ext_refl _) _ : Ext _ _)
     iterate 3 (refine Rt.rs_sil rfl rfl rfl (fun K hK=>?_);go_simp;refine hK _ ?_;clear hK K)
     (refine Rt.rs_rd rfl rfl rfl ?_;apply Exists.intro;refine ⟨fun us' W hp hl hI=>?_,?_⟩;· (have hE:=hI.pre hl;have c : W.cell? ⟨w.heap.size + 4,2,none⟩ = some (.map (some (w.heap.size + 1))):=cell_of (hE.obj HVW13.out) 2;go_simp;rfl));simp only [Act.put,zA,zB,zC,zD,zE,zF]
     (refine Rt.rs_rd rfl rfl rfl ?_;apply Exists.intro;refine ⟨fun us' W hp hl hI=>?_,?_⟩;· (have hE:=hI.pre hl;have c : W.cell? ⟨W3.heap.size,0,none⟩ = some (.string f.subject):=cell_of (hE.obj HB9_13.out) 0;have d : W.cell? ⟨W3.heap.size,1,none⟩ = some (.pointer (some ⟨f.col,0,none⟩)):=cell_of (hE.obj HB9_13.out) 1;go_simp;rfl));simp only [Act.put,zA,zB,zC,zD,zE,zF]
     (refine Rt.rs_rd rfl rfl rfl ?_;apply Exists.intro;refine ⟨fun us' W hp hl hI=>?_,?_⟩;· (have hE:=hI.pre hl;have c : W.cell? ⟨bb,0,none⟩ = some (.int .u64 m.bits):=cell_of (hE.obj HB13_13.out) 0;have d : W.cell? ⟨bb,1,none⟩ = some (.int .i64 m.low):=cell_of (hE.obj HB13_13.out) 1;have e : W.cell? ⟨bb,2,none⟩ = some (.int .i64 m.high):=cell_of (hE.obj HB13_13.out) 2;go_simp;rfl));simp only [Act.put,zA,zB,zC,zD,zE,zF]
     refine Rt.rs_eff rfl rfl rfl (fun W hI=>?_) (fun v hv=>?_)
     ·have hE:=hI.pre (Nat.le_refl _)
      have hL:=HL15.out.ext hE
      have hwW : Ext w W:=hL.below
      have hup:=run_mapUpdate (P:=Tryz.prog) (T:=134) (K:=131) (E:=120) (k:=keyOf f) (v:=m.val) (by kernel_rfl) hL.known (finds_key W lk (keyOf f) ((HREC.out.ext hwW).isCol HFACT.out.1) (hL.colK (HREC.out.heldCol HVM.out hwW j)))
      replace hup : (Instr.mapUpdate 134 (.map (some (w.heap.size + 1))) (.agg #[.string f.subject,.pointer (some ⟨f.col,0,none⟩)]) (.agg #[.int .u64 m.bits,.int .i64 m.low,.int .i64 m.high])).run Tryz.prog W = _:=hup
      refine Rt.gives_skp ?_
      apply Exists.intro
      refine ⟨by go_simp;rfl,?_⟩
      have hk:=hL.knownStep ((i : Int) + 1,f)
      rw [show (stepK (knowK ((heldF R ver).take j) (keyOf f)) f).1 = m from HSTEP.out] at hk
      exact hk
     clear hv
     simp only [Act.put,zA,zB,zC,zD,zE,zF]
     refine Rt.rs_nil (fun w16 hI=>?_)
     have HL16:=Lib.hid (show LookI w.heap.size w2.heap.size w (.slice (some ⟨hgb,0,none⟩) (heldV ver).length hc) (heldV ver) ((heldF R ver).take j ++ [((i : Int) + 1,f)]) ((heldF R ver).take j ++ [((i : Int) + 1,f)]) ((heldF R ver).take j ++ [((i : Int) + 1,f)]) ((heldF R ver).take j ++ [((i : Int) + 1,f)]) (.slice sp' ((subsL ((heldF R ver).take j)).length + 2) sc') (mput lk (keyOf f) m.val) (mput lf (keyOf f) (.slice np ((factsK ((heldF R ver).take j) (keyOf f)).length + 1) nc)) ld w16 from hI)
     clear hI
     go_wp2_with fail
     exact ⟨⟨j + 1,_,_,_,_,by omega,rfl,by rw [HTK.out];exact HL16.out⟩,by simp [intOf];omega⟩
   | false=>
    go_upto_region 12 with fail
    go_wp2_with fail
    have hwW : Ext w w8:=Ext.trans' HL7.out.below HX8.out
    refine (all_any f.col f.attr w8 ((HREC.out.ext hwW).colAt _ HFACT.out.1).colAt (HREC.out.ok.attrs _ HFACT.out.1)).mono ?_
    rintro e w9 ⟨rfl,hx9⟩
    have hb:=hx9.obj HB13.out
    have c0:=cell_of hb 0
    have c1:=cell_of hb 1
    have c2:=cell_of hb 2
    have f0:=frozen_of hb 0
    have f1:=frozen_of hb 1
    have f2:=frozen_of hb 2
    have HX9:=Lib.hid (HX8.out.trans' hx9)
    have HB:=Lib.hid hb
    obtain ⟨sa,hsa⟩ : ∃ sa,allSt f.attr = sa:=⟨_,rfl⟩
    have HSA:=Lib.hid (show sa = s1 by rw [← hsa,HS02.out (by simp)])
    rw [hsa]
    unfold St.val
    clear hx9 hb m5 hsa
    go_upto_region 13 with fail
    obtain ⟨wc,hwc⟩ : ∃ wc,wc = ((w9.setCell ⟨bb,0,none⟩ (.int .u64 sa.bits)).setCell ⟨bb,1,none⟩ (.int .i64 sa.low)).setCell ⟨bb,2,none⟩ (.int .i64 sa.high):=⟨_,rfl⟩
    rw [← hwc]
    have hxc : Ext w7 wc:=by
     have hx:=HX9.out
     have hbb:=HBB.out
     rw [hwc];exact bel
    have hbc : wc.heap[bb]? = some (.cells #[.int .u64 s1.bits,.int .i64 s1.low,.int .i64 s1.high] 120 (0,0)):=by
     have h:=HB.out
     rw [hwc,← HSA.out];simp only [heap_drawn_get,heap_drew_get,heap_setCell_get,heap_alloc_get,World.size_alloc,World.size_setCell,size_drawn,putObj_get,putObj_size];(repeat (first | rw [if_pos trivial] | rw [if_pos rfl] | rw [if_neg (by omega)] | rw [if_pos (by omega)]))
     rw [h];rfl
    clear hwc c0 c1 c2 f0 f1 f2 HX9 HB HSA
    have hb8:=hxc.obj HB8_7.out
    have n5 : wc.cell? ⟨wr.heap.size,5,none⟩ = some (.pointer (some ⟨f.col,0,none⟩)):=cell_of hb8 5
    have n6 : wc.cell? ⟨wr.heap.size,6,none⟩ = some (.int .u64 f.st.bits):=cell_of hb8 6
    have n7 : wc.cell? ⟨wr.heap.size,7,none⟩ = some (.int .i64 f.st.low):=cell_of hb8 7
    have n8 : wc.cell? ⟨wr.heap.size,8,none⟩ = some (.int .i64 f.st.high):=cell_of hb8 8
    have c0 : wc.cell? ⟨bb,0,none⟩ = some (.int .u64 s1.bits):=cell_of hbc 0
    have c1 : wc.cell? ⟨bb,1,none⟩ = some (.int .i64 s1.low):=cell_of hbc 1
    have c2 : wc.cell? ⟨bb,2,none⟩ = some (.int .i64 s1.high):=cell_of hbc 2
    have hwc : Ext w wc:=Ext.trans' HL7.out.below hxc
    have HXC:=Lib.hid hxc
    have HBC:=Lib.hid hbc
    have HWC:=Lib.hid hwc
    clear hxc hbc hb8 hwc
    go_wp2_with fail
    refine (meet_any f.col f.attr s1 f.st wc ((HREC.out.ext HWC.out).colAt _ HFACT.out.1).colAt HS1B.out HFACT.out.2.2.2.1).mono ?_
    rintro e w9 ⟨rfl,hx9⟩
    obtain ⟨m,hm⟩ : ∃ m,meetSt s1 f.st = m:=⟨_,rfl⟩
    obtain ⟨mo,hmo⟩ : ∃ mo,meetOk f.attr m = mo:=⟨_,rfl⟩
    rw [hm,hmo]
    have HSTEP:=Lib.hid (HSTEP0.out.trans hm)
    have HMO:=Lib.hid (show meetOk f.attr (meetSt s1 f.st) = mo by rw [hm,hmo])
    have hb:=hx9.obj HBC.out
    have c0:=cell_of hb 0
    have c1:=cell_of hb 1
    have c2:=cell_of hb 2
    have f0:=frozen_of hb 0
    have f1:=frozen_of hb 1
    have f2:=frozen_of hb 2
    have HX9:=Lib.hid (HXC.out.trans' hx9)
    have HB:=Lib.hid hb
    unfold St.val
    clear hx9 hb n5 n6 n7 n8 hm hmo
    go_upto_region 14 with fail
    obtain ⟨W13,hW13⟩ : ∃ W13,W13 = ((w9.setCell ⟨bb,0,none⟩ (.int .u64 m.bits)).setCell ⟨bb,1,none⟩ (.int .i64 m.low)).setCell ⟨bb,2,none⟩ (.int .i64 m.high):=⟨_,rfl⟩
    rw [← hW13]
    have hx13 : Ext w7 W13:=by
     have hx:=HX9.out
     have hbb:=HBB.out
     rw [hW13];exact bel
    have hb13 : W13.heap[bb]? = some (.cells #[.int .u64 m.bits,.int .i64 m.low,.int .i64 m.high] 120 (0,0)):=by
     have h:=HB.out
     rw [hW13];simp only [heap_drawn_get,heap_drew_get,heap_setCell_get,heap_alloc_get,World.size_alloc,World.size_setCell,size_drawn,putObj_get,putObj_size];(repeat (first | rw [if_pos trivial] | rw [if_pos rfl] | rw [if_neg (by omega)] | rw [if_pos (by omega)]))
     rw [h];rfl
    have HL13:=Lib.hid (HL7.out.ext hx13)
    have HVW13:=Lib.hid (hx13.obj HVW7.out)
    have HB9_13:=Lib.hid (hx13.obj HB9_7.out)
    have HB13_13:=Lib.hid hb13
    clear hW13 hx13 hb13 c0 c1 c2 f0 f1 f2
    cases mo with
    | false=>
     go_upto_region 15 with fail
     refine Rt.wp_region_rt (by kernel_rfl) [0,1,2,3,4,5] [5] [0,0,0,0,0] [0,1,3,7,0,31] (by kernel_rfl) (UpI W13 (fun W=>LookI w.heap.size w2.heap.size w (.slice (some ⟨hgb,0,none⟩) (heldV ver).length hc) (heldV ver) ((heldF R ver).take j ++ [((i : Int) + 1,f)]) ((heldF R ver).take j ++ [((i : Int) + 1,f)]) ((heldF R ver).take j) ((heldF R ver).take j ++ [((i : Int) + 1,f)]) (.slice sp' ((subsL ((heldF R ver).take j)).length + 2) sc') lk (mput lf (keyOf f) (.slice np ((factsK ((heldF R ver).take j) (keyOf f)).length + 1) nc)) (mput ld (keyOf f) (.bool true)) W ∧ W.heap[W3.heap.size]? = some (.cells #[.string f.subject,.pointer (some ⟨f.col,0,none⟩)] 131 (0,0)) ∧ W.heap[bb]? = some (.cells #[.int .u64 m.bits,.int .i64 m.low,.int .i64 m.high] 120 (0,0)))) ?_ ?_
     ·exact (below_drawn (ext_refl _) _ : Ext _ _)
     iterate 3 (refine Rt.rs_sil rfl rfl rfl (fun K hK=>?_);go_simp;refine hK _ ?_;clear hK K)
     (refine Rt.rs_rd rfl rfl rfl ?_;apply Exists.intro;refine ⟨fun us' W hp hl hI=>?_,?_⟩;· (have hE:=hI.pre hl;have c : W.cell? ⟨w.heap.size + 4,4,none⟩ = some (.map (some (w.heap.size + 3))):=cell_of (hE.obj HVW13.out) 4;go_simp;rfl));simp only [Act.put,zA,zB,zC,zD,zE,zF]
     (refine Rt.rs_rd rfl rfl rfl ?_;apply Exists.intro;refine ⟨fun us' W hp hl hI=>?_,?_⟩;· (have hE:=hI.pre hl;have c : W.cell? ⟨W3.heap.size,0,none⟩ = some (.string f.subject):=cell_of (hE.obj HB9_13.out) 0;have d : W.cell? ⟨W3.heap.size,1,none⟩ = some (.pointer (some ⟨f.col,0,none⟩)):=cell_of (hE.obj HB9_13.out) 1;go_simp;rfl));simp only [Act.put,zA,zB,zC,zD,zE,zF]
     refine Rt.rs_eff rfl rfl rfl (fun W hI=>?_) (fun v hv=>?_)
     ·have hE:=hI.pre (Nat.le_refl _)
      have hL:=HL13.out.ext hE
      have hwW : Ext w W:=hL.below
      have hup:=run_mapUpdate (P:=Tryz.prog) (T:=136) (K:=131) (E:=4) (k:=keyOf f) (v:=.bool true) (by kernel_rfl) hL.doubts (finds_key W ld (keyOf f) ((HREC.out.ext hwW).isCol HFACT.out.1) (hL.colD (HREC.out.heldCol HVM.out hwW j)))
      replace hup : (Instr.mapUpdate 136 (.map (some (w.heap.size + 3))) (.agg #[.string f.subject,.pointer (some ⟨f.col,0,none⟩)]) (.bool true)).run Tryz.prog W = _:=hup
      refine Rt.gives_skp ?_
      apply Exists.intro
      refine ⟨by go_simp;rfl,?_⟩
      have hdm:=hL.doubts
      unfold MapIs at hdm
      exact ⟨hL.doubtYes ((i : Int) + 1,f) (by rw [HDB.out,HMO.out];simp),put_cells hdm (hE.obj HB9_13.out),put_cells hdm (hE.obj HB13_13.out)⟩
     clear hv
     simp only [Act.put,zA,zB,zC,zD,zE,zF]
     refine Rt.rs_nil (fun w15 hI=>?_)
     obtain ⟨hL15,hb9,hb13⟩:=hI
     have HL15:=Lib.hid hL15
     have HVW15:=Lib.hid hL15.view
     have HB9_15:=Lib.hid hb9
     have HB13_15:=Lib.hid hb13
     clear hL15 hb9 hb13
     go_upto_region 16 with fail
     refine Rt.wp_region_rt (by kernel_rfl) [0,1,2,3,4,5,6] [6] [0,0,0,0,0,0] [0,1,3,7,0,0,63] (by kernel_rfl) (UpI w15 (fun W=>LookI w.heap.size w2.heap.size w (.slice (some ⟨hgb,0,none⟩) (heldV ver).length hc) (heldV ver) ((heldF R ver).take j ++ [((i : Int) + 1,f)]) ((heldF R ver).take j ++ [((i : Int) + 1,f)]) ((heldF R ver).take j ++ [((i : Int) + 1,f)]) ((heldF R ver).take j ++ [((i : Int) + 1,f)]) (.slice sp' ((subsL ((heldF R ver).take j)).length + 2) sc') (mput lk (keyOf f) m.val) (mput lf (keyOf f) (.slice np ((factsK ((heldF R ver).take j) (keyOf f)).length + 1) nc)) (mput ld (keyOf f) (.bool true)) W)) ?_ ?_
     ·exact (below_drawn (ext_refl _) _ : Ext _ _)
     iterate 3 (refine Rt.rs_sil rfl rfl rfl (fun K hK=>?_);go_simp;refine hK _ ?_;clear hK K)
     (refine Rt.rs_rd rfl rfl rfl ?_;apply Exists.intro;refine ⟨fun us' W hp hl hI=>?_,?_⟩;· (have hE:=hI.pre hl;have c : W.cell? ⟨w.heap.size + 4,2,none⟩ = some (.map (some (w.heap.size + 1))):=cell_of (hE.obj HVW15.out) 2;go_simp;rfl));simp only [Act.put,zA,zB,zC,zD,zE,zF]
     (refine Rt.rs_rd rfl rfl rfl ?_;apply Exists.intro;refine ⟨fun us' W hp hl hI=>?_,?_⟩;· (have hE:=hI.pre hl;have c : W.cell? ⟨W3.heap.size,0,none⟩ = some (.string f.subject):=cell_of (hE.obj HB9_15.out) 0;have d : W.cell? ⟨W3.heap.size,1,none⟩ = some (.pointer (some ⟨f.col,0,none⟩)):=cell_of (hE.obj HB9_15.out) 1;go_simp;rfl));simp only [Act.put,zA,zB,zC,zD,zE,zF]
     (refine Rt.rs_rd rfl rfl rfl ?_;apply Exists.intro;refine ⟨fun us' W hp hl hI=>?_,?_⟩;· (have hE:=hI.pre hl;have c : W.cell? ⟨bb,0,none⟩ = some (.int .u64 m.bits):=cell_of (hE.obj HB13_15.out) 0;have d : W.cell? ⟨bb,1,none⟩ = some (.int .i64 m.low):=cell_of (hE.obj HB13_15.out) 1;have e : W.cell? ⟨bb,2,none⟩ = some (.int .i64 m.high):=cell_of (hE.obj HB13_15.out) 2;go_simp;rfl));simp only [Act.put,zA,zB,zC,zD,zE,zF]
     refine Rt.rs_eff rfl rfl rfl (fun W hI=>?_) (fun v hv=>?_)
     ·have hE:=hI.pre (Nat.le_refl _)
      have hL:=HL15.out.ext hE
      have hwW : Ext w W:=hL.below
      have hup:=run_mapUpdate (P:=Tryz.prog) (T:=134) (K:=131) (E:=120) (k:=keyOf f) (v:=m.val) (by kernel_rfl) hL.known (finds_key W lk (keyOf f) ((HREC.out.ext hwW).isCol HFACT.out.1) (hL.colK (HREC.out.heldCol HVM.out hwW j)))
      replace hup : (Instr.mapUpdate 134 (.map (some (w.heap.size + 1))) (.agg #[.string f.subject,.pointer (some ⟨f.col,0,none⟩)]) (.agg #[.int .u64 m.bits,.int .i64 m.low,.int .i64 m.high])).run Tryz.prog W = _:=hup
      refine Rt.gives_skp ?_
      apply Exists.intro
      refine ⟨by go_simp;rfl,?_⟩
      have hk:=hL.knownStep ((i : Int) + 1,f)
      rw [show (stepK (knowK ((heldF R ver).take j) (keyOf f)) f).1 = m from HSTEP.out] at hk
      exact hk
     clear hv
     simp only [Act.put,zA,zB,zC,zD,zE,zF]
     refine Rt.rs_nil (fun w16 hI=>?_)
     have HL16:=Lib.hid (show LookI w.heap.size w2.heap.size w (.slice (some ⟨hgb,0,none⟩) (heldV ver).length hc) (heldV ver) ((heldF R ver).take j ++ [((i : Int) + 1,f)]) ((heldF R ver).take j ++ [((i : Int) + 1,f)]) ((heldF R ver).take j ++ [((i : Int) + 1,f)]) ((heldF R ver).take j ++ [((i : Int) + 1,f)]) (.slice sp' ((subsL ((heldF R ver).take j)).length + 2) sc') (mput lk (keyOf f) m.val) (mput lf (keyOf f) (.slice np ((factsK ((heldF R ver).take j) (keyOf f)).length + 1) nc)) (mput ld (keyOf f) (.bool true)) w16 from hI)
     clear hI
     go_wp2_with fail
     exact ⟨⟨j + 1,_,_,_,_,by omega,rfl,by rw [HTK.out];exact HL16.out⟩,by simp [intOf];omega⟩
    | true=>
     have HL15:=Lib.hid (HL13.out.doubtNo ((i : Int) + 1,f) (by show meetOk f.attr _ = true;rw [HSTEP0.out];exact HMO.out))
     go_upto_region 16 with fail
     refine Rt.wp_region_rt (by kernel_rfl) [0,1,2,3,4,5,6] [6] [0,0,0,0,0,0] [0,1,3,7,0,0,63] (by kernel_rfl) (UpI W13 (fun W=>LookI w.heap.size w2.heap.size w (.slice (some ⟨hgb,0,none⟩) (heldV ver).length hc) (heldV ver) ((heldF R ver).take j ++ [((i : Int) + 1,f)]) ((heldF R ver).take j ++ [((i : Int) + 1,f)]) ((heldF R ver).take j ++ [((i : Int) + 1,f)]) ((heldF R ver).take j ++ [((i : Int) + 1,f)]) (.slice sp' ((subsL ((heldF R ver).take j)).length + 2) sc') (mput lk (keyOf f) m.val) (mput lf (keyOf f) (.slice np ((factsK ((heldF R ver).take j) (keyOf f)).length + 1) nc)) ld W)) ?_ ?_
     ·exact (below_drawn (ext_refl _) _ : Ext _ _)
     iterate 3 (refine Rt.rs_sil rfl rfl rfl (fun K hK=>?_);go_simp;refine hK _ ?_;clear hK K)
     (refine Rt.rs_rd rfl rfl rfl ?_;apply Exists.intro;refine ⟨fun us' W hp hl hI=>?_,?_⟩;· (have hE:=hI.pre hl;have c : W.cell? ⟨w.heap.size + 4,2,none⟩ = some (.map (some (w.heap.size + 1))):=cell_of (hE.obj HVW13.out) 2;go_simp;rfl));simp only [Act.put,zA,zB,zC,zD,zE,zF]
     (refine Rt.rs_rd rfl rfl rfl ?_;apply Exists.intro;refine ⟨fun us' W hp hl hI=>?_,?_⟩;· (have hE:=hI.pre hl;have c : W.cell? ⟨W3.heap.size,0,none⟩ = some (.string f.subject):=cell_of (hE.obj HB9_13.out) 0;have d : W.cell? ⟨W3.heap.size,1,none⟩ = some (.pointer (some ⟨f.col,0,none⟩)):=cell_of (hE.obj HB9_13.out) 1;go_simp;rfl));simp only [Act.put,zA,zB,zC,zD,zE,zF]
     (refine Rt.rs_rd rfl rfl rfl ?_;apply Exists.intro;refine ⟨fun us' W hp hl hI=>?_,?_⟩;· (have hE:=hI.pre hl;have c : W.cell? ⟨bb,0,none⟩ = some (.int .u64 m.bits):=cell_of (hE.obj HB13_13.out) 0;have d : W.cell? ⟨bb,1,none⟩ = some (.int .i64 m.low):=cell_of (hE.obj HB13_13.out) 1;have e : W.cell? ⟨bb,2,none⟩ = some (.int .i64 m.high):=cell_of (hE.obj HB13_13.out) 2;go_simp;rfl));simp only [Act.put,zA,zB,zC,zD,zE,zF]
     refine Rt.rs_eff rfl rfl rfl (fun W hI=>?_) (fun v hv=>?_)
     ·have hE:=hI.pre (Nat.le_refl _)
      have hL:=HL15.out.ext hE
      have hwW : Ext w W:=hL.below
      have hup:=run_mapUpdate (P:=Tryz.prog) (T:=134) (K:=131) (E:=120) (k:=keyOf f) (v:=m.val) (by kernel_rfl) hL.known (finds_key W lk (keyOf f) ((HREC.out.ext hwW).isCol HFACT.out.1) (hL.colK (HREC.out.heldCol HVM.out hwW j)))
      replace hup : (Instr.mapUpdate 134 (.map (some (w.heap.size + 1))) (.agg #[.string f.subject,.pointer (some ⟨f.col,0,none⟩)]) (.agg #[.int .u64 m.bits,.int .i64 m.low,.int .i64 m.high])).run Tryz.prog W = _:=hup
      refine Rt.gives_skp ?_
      apply Exists.intro
      refine ⟨by go_simp;rfl,?_⟩
      have hk:=hL.knownStep ((i : Int) + 1,f)
      rw [show (stepK (knowK ((heldF R ver).take j) (keyOf f)) f).1 = m from HSTEP.out] at hk
      exact hk
     clear hv
     simp only [Act.put,zA,zB,zC,zD,zE,zF]
     refine Rt.rs_nil (fun w16 hI=>?_)
     have HL16:=Lib.hid (show LookI w.heap.size w2.heap.size w (.slice (some ⟨hgb,0,none⟩) (heldV ver).length hc) (heldV ver) ((heldF R ver).take j ++ [((i : Int) + 1,f)]) ((heldF R ver).take j ++ [((i : Int) + 1,f)]) ((heldF R ver).take j ++ [((i : Int) + 1,f)]) ((heldF R ver).take j ++ [((i : Int) + 1,f)]) (.slice sp' ((subsL ((heldF R ver).take j)).length + 2) sc') (mput lk (keyOf f) m.val) (mput lf (keyOf f) (.slice np ((factsK ((heldF R ver).take j) (keyOf f)).length + 1) nc)) ld w16 from hI)
     clear hI
     go_wp2_with fail
     exact ⟨⟨j + 1,_,_,_,_,by omega,rfl,by rw [HTK.out];exact HL16.out⟩,by simp [intOf];omega⟩
  ·obtain rfl : j = (heldV ver).length:=by omega
   have hall : (heldF R ver).take (heldV ver).length = heldF R ver:=by rw [← heldF_len R ver];exact List.take_length
   rw [hall] at hL
   have hflen : (heldF R ver).length ≤ 300:=by rw [heldF_len];exact hheld
   have hfok : ∀ y ∈ heldF R ver,y.2 ∈ R.facts:=fun y hy=>heldF_mem HREC.out.ok HVM.out hy
   obtain ⟨hf,hhf⟩ : ∃ hf,heldF R ver = hf:=⟨_,rfl⟩
   rw [hhf] at hL hflen hfok
   have HFOK:=Lib.hid hfok
   have HHF:=Lib.hid hhf
   have hsl6 : (subsL hf).length ≤ 600:=by rw [subsL_len];omega
   obtain ⟨sp,sc,rfl⟩:=owns_form hL.subs
   obtain ⟨wA,rfl⟩ : ∃ wA,wA = wr:=⟨wr,rfl⟩
   have c0 : wA.cell? ⟨w.heap.size + 4,0,none⟩ = some (.slice sp (subsL hf).length sc):=cell_of hL.view 0
   have HL:=Lib.hid hL
   clear hL hall hfok hhf hlt hj HL0
   go_wp2_with fail
   refine (sortS_any w2.heap.size (.slice sp (subsL hf).length sc) (subsL hf) wA HL.out.subs (by omega)).mono ?_
   rintro e w10 ⟨rfl,g1,r1⟩
   have hv10:=(frm_grown HL.out.subs g1).cells HL.out.view (by decide)
   have c0 : w10.cell? ⟨w.heap.size + 4,0,none⟩ = some (.slice sp (subsL hf).length sc):=cell_of hv10 0
   have r1' : w10.ownsRow w2.heap.size 9 1 (.slice sp (subsL hf).length sc) (sortB (subsL hf)).length ((sortB (subsL hf)).map encStr):=by rw [sortB_len];exact r1
   have G1:=Lib.hid g1
   have R1:=Lib.hid r1
   have R1':=Lib.hid r1'
   clear hv10 g1 r1 r1'
   go_wp2_with fail
   refine (compactS_any w2.heap.size (.slice sp (subsL hf).length sc) (sortB (subsL hf)) w10 R1'.out (by rw [sortB_len];omega)).mono ?_
   rintro e w11 ⟨sv',rfl,hb,g2,r2⟩
   obtain ⟨hJ0,hv1,hv2⟩:=HL.out.toJ G1.out R1.out (ext_refl _) g2 hb r2
   obtain ⟨vp,vc,rfl⟩:=owns_form r2
   have c0:=cell_of hv2 0
   have f0:=frozen_of hv2 0
   have HJ0:=Lib.hid hJ0
   clear hb g2 r2 hJ0 hv1 hv2
   go_upto_region 20 with fail
   obtain ⟨w12,hw12⟩ : ∃ w12,w12 = w11.setCell ⟨w.heap.size + 4,0,none⟩ (.slice vp (compact (sortB (subsL hf))).length vc):=⟨_,rfl⟩
   rw [← hw12]
   have hle12 : w11.heap.size ≤ w12.heap.size:=by rw [hw12,World.size_setCell];exact Nat.le_refl _
   have hJ1:=HJ0.out
   rw [← hw12] at hJ1
   have hrg:=range_law (T:=136) (K:=131) (E:=4) (by kernel_rfl) hJ1.doubts
   have c4 : w12.cell? ⟨w.heap.size + 4,4,none⟩ = some (.map (some (w.heap.size + 3))):=cell_of hJ1.view 4
   obtain ⟨w13,hw13⟩ : ∃ w13,w13 = w12.alloc (.mapIter (some (w.heap.size + 3)) ld.length #[] ld.length):=⟨_,rfl⟩
   have hx13 : Ext w12 w13:=by rw [hw13];exact bel
   have hit0 : IterAt w13 w12.heap.size (w.heap.size + 3) ld.length []:=by unfold IterAt;rw [hw13];simp only [heap_drawn_get,heap_drew_get,heap_setCell_get,heap_alloc_get,World.size_alloc,World.size_setCell,size_drawn,putObj_get,putObj_size];(repeat (first | rw [if_pos trivial] | rw [if_pos rfl] | rw [if_neg (by omega)] | rw [if_pos (by omega)]))
   rw [← hw13] at hrg
   have HJ13:=Lib.hid (hJ1.ext hx13)
   have HIT0:=Lib.hid hit0
   clear hJ1 hw12 hw13 hx13 hit0 c0 f0
   go_wp2_with fail
   go_loopw [15] (fun _ wr=>∃ (seen : List Nat) (lk2 : List ((ByteArray × Nat) × Value)),LookJ w.heap.size w2.heap.size w11.heap.size w hf (.slice vp (compact (sortB (subsL hf))).length vc) [] [] (kn2 hf ld seen) lk2 lf ld wr ∧ IterAt wr w12.heap.size (w.heap.size + 3) ld.length seen ∧ seen.Nodup ∧ ∀ j ∈ seen,j < ld.length) (fun _ wr=>ld.length - (wr.iterSeen w12.heap.size).size)
   case atStart=>exact ⟨[],lk,HJ13.out,HIT0.out,List.nodup_nil,fun j h=>(by cases h)⟩
   case round=>
    obtain ⟨seen,lk2,hJ,hit,hnd,hfew⟩:=hrel
    rcases next_law hJ.doubts hit 0 with ⟨hall,hn⟩ | ⟨i,k,v,hl,hni,w1,hw1,hn⟩
    ·have hn' : ∀ ty,(Instr.next (.pointer (some ⟨w12.heap.size,0,none⟩)) false ty).run Tryz.prog wr = _:=fun ty=>hn
     have hknd : kn2 hf ld seen = fun k=>(knowV hf k).map St.val:=funext fun k=>kn2_done hJ.doubtsL hall k
     rw [hknd] at hJ
     obtain ⟨wB,rfl⟩ : ∃ wB,wB = wr:=⟨wr,rfl⟩
     have c0 : wB.cell? ⟨w.heap.size + 4,0,none⟩ = some (.slice vp (compact (sortB (subsL hf))).length vc):=cell_of hJ.view 0
     have HJ:=Lib.hid hJ
     clear hJ hn hall hit hnd hfew hknd hrg c4
     have hsv6 : (compact (sortB (subsL hf))).length ≤ 600:=Nat.le_trans (compact_le _) (by rw [sortB_len];exact hsl6)
     have hsb : ∀ t ∈ compact (sortB (subsL hf)),(ofBytes t).size < 4294967281:=fun t ht=>subsV_size (hf:=hf) (fun y hy=>(HREC.out.ok.fact _ (HFOK.out y hy)).2.2.1) ht
     have HSB:=Lib.hid hsb
     obtain ⟨sl,hsl⟩ : ∃ sl,compact (sortB (subsL hf)) = sl:=⟨_,rfl⟩
     have hslv : subsV hf = sl:=hsl
     have HSLV:=Lib.hid hslv
     rw [hsl] at hsv6 c0 HJ HSB ⊢
     clear hsl hslv hsb HJ0 HJ13
     go_wp2_with fail
     go_loopw [153] (fun i wr=>∃ (j : Nat) (lp : List (ByteArray × Value)),j ≤ sl.length ∧ i = .int .i64 j ∧ LookJ w.heap.size w2.heap.size w11.heap.size w hf (.slice vp sl.length vc) (sl.take j) lp (fun k=>(knowV hf k).map St.val) lk2 lf ld wr) (fun i _=>sl.length - (intOf i).toNat)
     case atStart=>exact ⟨0,[],Nat.zero_le _,rfl,HJ.out⟩
     case round=>
      obtain ⟨j,lp,hj,rfl,hJ⟩:=hrel
      by_cases hlt : j < sl.length
      ·obtain ⟨t,ht⟩ : ∃ t,sl[j]? = some t:=⟨_,List.getElem?_eq_getElem hlt⟩
       obtain ⟨tb,rfl,hc⟩ : ∃ tb,vp = some ⟨tb,0,none⟩ ∧ wr.cell? ⟨tb,j,none⟩ = some (.string (ofBytes t)):=by
        have hsub:=hJ.subs
        rw [HSLV.out] at hsub
        rcases hsub.2 with ⟨_,h0⟩ | ⟨g,cap,cur,he,_,hgg,_,_,_,ht'⟩
        ·omega
        ·simp only [Value.slice.injEq] at he
         refine ⟨g,he.1,?_⟩
         rw [cell_of hgg]
         have h2 : (sl.map encStr)[j]? = some (.string (ofBytes t)):=by rw [List.getElem?_map,ht];rfl
         rw [← ht',List.getElem?_take] at h2
         split at h2
         ·simpa using h2
         ·cases h2
       have htk : sl.take (j + 1) = sl.take j ++ [t]:=by rw [List.take_add_one,ht];rfl
       have htm : t ∈ sl:=List.mem_of_getElem? ht
       have hjlen : (partsJ (sl.take j) (wholeOf (ofBytes t))).length ≤ 600:=by
        unfold partsJ
        refine Nat.le_trans (List.length_filter_le _ _) ?_
        rw [List.length_take]
        omega
       have HT:=Lib.hid ht
       have HTK:=Lib.hid htk
       have HTM:=Lib.hid htm
       have HJ:=Lib.hid hJ
       clear hJ ht htk htm
       go_wp2_with fail
       refine (cut_any (ofBytes t) wr (HSB.out t HTM.out) (hg.ext HJ.out.below)).mono ?_
       rintro e w14 ⟨rfl,hx14⟩
       have hJ14:=HJ.out.ext hx14
       have HJ14:=Lib.hid hJ14
       have HVW14:=Lib.hid hJ14.view
       obtain ⟨pt,hpt⟩ : ∃ pt,isPart (ofBytes t) = pt:=⟨_,rfl⟩
       rw [hpt]
       have HPT:=Lib.hid hpt
       clear hx14 hJ14 hpt hc
       cases pt with
       | false=>
        have HJ15:=Lib.hid (HJ14.out.noPart HPT.out)
        go_wp2_with fail
        exact ⟨⟨j + 1,lp,by omega,rfl,by rw [HTK.out];exact HJ15.out⟩,by simp [intOf];omega⟩
       | true=>
        obtain ⟨wh,hwh⟩ : ∃ wh,wholeOf (ofBytes t) = wh:=⟨_,rfl⟩
        have HWH:=Lib.hid hwh
        obtain ⟨old,hold⟩ : ∃ old,(look lp wh).getD (.slice none 0 0) = old:=⟨_,rfl⟩
        have HOLD:=Lib.hid hold
        have hrow0 : w14.ownsRow w11.heap.size 9 1 old (partsJ (sl.take j) wh).length ((partsJ (sl.take j) wh).map encStr):=by rw [← hold];exact HJ14.out.rowOld wh
        have HROW0:=Lib.hid hrow0
        rw [hwh] at hjlen ⊢
        clear hwh hold hrow0
        go_upto_region 29 with fail
        refine Rt.wp_region_rt (by kernel_rfl) [0,1,2,3,4,5,6,7,8,9,10,11,12,13,14] [12,13,14] [2,2,2,2,2,1,1,1,1,1,1,0] [0,1,3,7,0,0,32,96,224,0,992,0,2048,8160,16383] (by kernel_rfl) (LupI w14 9 w11.heap.size old (partsJ (sl.take j) wh).length ((partsJ (sl.take j) wh).map encStr) [.string (ofBytes t)] 1 (fun v' W=>LookJ w.heap.size w2.heap.size w11.heap.size w hf (.slice (some ⟨tb,0,none⟩) sl.length vc) (sl.take j ++ [t]) (mput lp wh v') (fun k=>(knowV hf k).map St.val) lk2 lf ld W)) ?_ ?_
        ·exact (below_drawn (ext_refl _) _ : Ext _ _)
        iterate 3 (refine Rt.rs_sil rfl rfl rfl (fun K hK=>?_);go_simp;refine hK _ ?_;clear hK K)
        (refine Rt.rs_rd rfl rfl rfl ?_;apply Exists.intro;refine ⟨fun us' W hp hl hI=>?_,?_⟩;· (have hk:=hI.keep hl HROW0.out HVW14.out (by simp);have c : W.cell? ⟨w.heap.size + 4,1,none⟩ = some (.map (some w.heap.size)):=cell_of hk 1;go_simp;rfl));simp only [Act.put,zA,zB,zC,zD,zE,zF]
        iterate 4 (refine Rt.rs_sil rfl rfl rfl (fun K hK=>?_);go_simp;refine hK _ ?_;clear hK K)
        (refine Rt.rs_rd rfl rfl rfl ?_;apply Exists.intro;refine ⟨fun us' W hp hl hI=>?_,?_⟩;· (have hE:=hI.pre hl;have c : W.cell? ⟨w.heap.size + 4,1,none⟩ = some (.map (some w.heap.size)):=cell_of (hE.obj HVW14.out) 1;go_simp;rfl));simp only [Act.put,zA,zB,zC,zD,zE,zF]
        (refine Rt.rs_sil rfl rfl rfl (fun K hK=>?_);go_simp;refine hK _ ?_;clear hK K)
        (refine Rt.rs_rd rfl rfl rfl ?_;apply Exists.intro;refine ⟨fun us' W hp hl hI=>?_,?_⟩;· (have hE:=hI.pre hl;have hq:=run_lookup1 (P:=Tryz.prog) (T:=133) (K:=9) (E:=26) (z:=.slice none 0 0) (k:=wh) (by kernel_rfl) (HJ14.out.ext hE).parts (finds_string (by kernel_rfl) W _ _) (by kernel_rfl);rw [HOLD.out] at hq;go_simp;rfl));simp only [Act.put,zA,zB,zC,zD,zE,zF]
        (refine Rt.rs_sil rfl rfl rfl (fun K hK=>?_);go_simp;refine hK _ ?_;clear hK K)
        refine Rt.rs_eff rfl rfl rfl (fun W hI=>?_) (fun v hv=>?_)
        ·have hE:=hI.pre (Nat.zero_le _)
         refine Rt.gives_val ?_
         apply Exists.intro
         apply Exists.intro
         refine ⟨by go_simp;exact ⟨rfl,rfl⟩,?_⟩
         refine ⟨_,rfl,?_,?_⟩
         ·simp only [heap_drawn_get,heap_drew_get,heap_setCell_get,heap_alloc_get,World.size_alloc,World.size_setCell,size_drawn,putObj_get,putObj_size];(repeat (first | rw [if_pos trivial] | rw [if_pos rfl] | rw [if_neg (by omega)] | rw [if_pos (by omega)]))
         ·exact hE.trans' (by exact bel)
        obtain ⟨ab,rfl⟩ : ∃ ab,v = .slice (some ⟨ab,0,none⟩) 1 1:=let ⟨W,hI⟩:=hv;let ⟨ab,h,_⟩:=hI;⟨ab,h⟩
        clear hv
        simp only [Act.put,zA,zB,zC,zD,zE,zF]
        refine Rt.rs_eff rfl rfl rfl (fun W hI=>?_) (fun v hv=>?_)
        ·obtain ⟨ab',e,hc,hE⟩:=hI
         simp only [Value.slice.injEq,Option.some.injEq,Addr.mk.injEq,and_true] at e
         subst e
         have hrow1 : W.ownsRow w11.heap.size 9 1 old (partsJ (sl.take j) wh).length ((partsJ (sl.take j) wh).map encStr):=owns_keep HROW0.out fun g _ _ hgg=>hE.block g (heap_lt hgg)
         obtain ⟨v',w',q1,q2,q3,q4⟩:=append_strs (row:=[.string (ofBytes t)]) hrow1 ab 1 rfl (fun j u hj=>by rw [Nat.zero_add,cell_of hc j,List.getElem?_toArray];exact hj) (fun u hu=>by simp at hu;subst hu;rfl) (by omega) (HJ14.out.ext hE).size 1
         exact gives_append_run _ _ 26 rfl rfl rfl q1 ⟨W,hE,q3,q2,q4⟩
        obtain ⟨np,nc,rfl⟩ : ∃ p c,v = .slice p ((partsJ (sl.take j) wh).length + 1) c:=let ⟨W,hI⟩:=hv;let ⟨_,_,_,hr,_⟩:=hI;owns_form hr
        clear hv
        simp only [Act.put,zA,zB,zC,zD,zE,zF]
        refine Rt.rs_eff rfl rfl rfl (fun W hI=>?_) (fun v hv=>?_)
        ·obtain ⟨W0,hE,hg,hr,hat⟩:=hI
         have hJ:=HJ14.out.ext hE
         have hrow1 : W0.ownsRow w11.heap.size 9 1 old (partsJ (sl.take j) wh).length ((partsJ (sl.take j) wh).map encStr):=owns_keep HROW0.out fun g _ _ hgg=>hE.block g (heap_lt hgg)
         have hm2 : MapIs Value.string W w.heap.size lp:=(frm_grown hrow1 hg).map hJ.parts
         have hup:=run_mapUpdate (P:=Tryz.prog) (T:=133) (K:=9) (E:=26) (k:=wh) (v:=.slice np ((partsJ (sl.take j) wh).length + 1) nc) (by kernel_rfl) hm2 (finds_string (by kernel_rfl) W _ _)
         refine Rt.gives_skp ?_
         apply Exists.intro
         refine ⟨by go_simp;rfl,?_⟩
         have hpart:=hJ.part (t:=t) (v':=.slice np ((partsJ (sl.take j) wh).length + 1) nc) (W2:=W) HPT.out (by rw [HWH.out,HOLD.out];exact hg) (by rw [HWH.out,HOLD.out];exact hat) (by rw [HWH.out];exact hr)
         rw [HWH.out] at hpart
         exact hpart
        clear hv
        simp only [Act.put,zA,zB,zC,zD,zE,zF]
        refine Rt.rs_nil (fun w15 hI=>?_)
        have HJ15:=Lib.hid (show LookJ w.heap.size w2.heap.size w11.heap.size w hf (.slice (some ⟨tb,0,none⟩) sl.length vc) (sl.take j ++ [t]) _ (fun k=>(knowV hf k).map St.val) lk2 lf ld w15 from hI)
        clear hI
        go_wp2_with fail
        exact ⟨⟨j + 1,_,by omega,rfl,by rw [HTK.out];exact HJ15.out⟩,by simp [intOf];omega⟩
      ·obtain rfl : j = sl.length:=by omega
       rw [List.take_length,← HSLV.out] at hJ
       have HD:=Lib.hid hJ.done
       have HBL:=Lib.hid hJ.below
       clear hJ hlt hj
       go_wp2_with fail
       go_ret
       exact ⟨_,_,_,_,_,_,_,_,_,_,rfl,by rw [HHF.out];exact HD.out,HBL.out⟩
    ·have hil : i < ld.length:=(List.getElem?_eq_some_iff.1 hl).1
     have hlt:=seen_lt hnd hfew hil hni
     obtain ⟨W2,hW2⟩ : ∃ W2,W2 = w1.putObj w12.heap.size (.mapIter (some (w.heap.size + 3)) ld.length (seen ++ [i]).toArray ld.length):=⟨_,rfl⟩
     rw [← hW2] at hn
     have hn' : ∀ ty,(Instr.next (.pointer (some ⟨w12.heap.size,0,none⟩)) false ty).run Tryz.prog wr = .ok (.tuple #[.bool true,.agg #[.string k.1,.pointer (some ⟨k.2,0,none⟩)],v]) W2:=fun ty=>hn
     have hits : wr.iterSeen w12.heap.size = seen.toArray:=by
      unfold IterAt at hit
      unfold World.iterSeen
      rw [hit]
     have hitl : w12.heap.size < wr.heap.size:=heap_lt hit
     have hx1 : Ext wr w1:=by
      rcases hw1 with rfl | rfl
      ·exact ext_refl _
      ·exact bel
     have hh1 : w1.heap.size = wr.heap.size:=by rcases hw1 with rfl | rfl <;> rfl
     have hit1:=hx1.obj hit
     have hJ2:=(hJ.ext hx1).put (o':=.mapIter (some (w.heap.size + 3)) ld.length (seen ++ [i]).toArray ld.length) (by omega) hit1 (by simp)
     rw [← hW2] at hJ2
     have hit2 : IterAt W2 w12.heap.size (w.heap.size + 3) ld.length (seen ++ [i]):=by unfold IterAt;rw [hW2,putObj_get,if_pos rfl,if_pos (by omega)]
     have hent : (Instr.entry (.pointer (some ⟨w12.heap.size,0,none⟩))).run Tryz.prog W2 = .ok (.tuple #[.agg #[.string k.1,.pointer (some ⟨k.2,0,none⟩)],v]) W2:=entry_law (enc:=encK) hJ2.doubts hit2 hl
     have hdk : doubtK hf k = true:=by
      have h2 : (look ld k).isSome = true:=look_isSome_iff.2 (List.mem_map.2 ⟨(k,v),List.mem_of_getElem? hl,rfl⟩)
      rw [hJ.doubtsL] at h2
      by_cases h3 : doubtK hf k = true
      ·exact h3
      ·rw [if_neg h3] at h2;cases h2
     obtain ⟨kk,hkk⟩ : ∃ kk,knowK hf k = some kk:=by
      unfold doubtK at hdk
      cases hq : knowK hf k with
      | none=>rw [hq] at hdk;cases hdk
      | some kk=>exact ⟨kk,rfl⟩
     obtain ⟨y,hy,hyk,hya⟩:=knowK_some _ _ _ hkk
     have hycol:=(HREC.out.ok.fact _ (HFOK.out y hy)).1
     have hk2 : k.2 = y.2.col:=by rw [← hyk];rfl
     have hsn:=kn2_snoc (hf:=hf) (seen:=seen) hl
     have HJ2:=Lib.hid hJ2
     have HIT2:=Lib.hid hit2
     have HITS:=Lib.hid hits
     have HYC:=Lib.hid hycol
     have HYA:=Lib.hid hya
     have HKK:=Lib.hid hkk
     have HK2:=Lib.hid hk2
     have HSN:=Lib.hid hsn
     have HNI:=Lib.hid hni
     have HND:=Lib.hid hnd
     have HFEW:=Lib.hid hfew
     clear hJ hn hW2 hit hits hx1 hh1 hit1 hJ2 hit2 hdk hkk hya hycol hyk hy hk2 hsn hl hni hnd hfew hw1 hrg c4
     go_upto_region 23 with fail
     obtain ⟨W3,hW3⟩ : ∃ W3,W3 = W2.alloc (.cells #[.string k.1,.pointer (some ⟨k.2,0,none⟩)] 131 (0,0)):=⟨_,rfl⟩
     try rw [← hW3]
     have hx3 : Ext W2 W3:=by rw [hW3];exact bel
     have hb3 : W3.heap[W2.heap.size]? = some (.cells #[.string k.1,.pointer (some ⟨k.2,0,none⟩)] 131 (0,0)):=by rw [hW3];simp only [heap_drawn_get,heap_drew_get,heap_setCell_get,heap_alloc_get,World.size_alloc,World.size_setCell,size_drawn,putObj_get,putObj_size];(repeat (first | rw [if_pos trivial] | rw [if_pos rfl] | rw [if_neg (by omega)] | rw [if_pos (by omega)]))
     have HJ3:=Lib.hid (HJ2.out.ext hx3)
     have HIT3:=Lib.hid (show IterAt W3 w12.heap.size (w.heap.size + 3) ld.length (seen ++ [i]) from hx3.obj HIT2.out)
     have HB3:=Lib.hid hb3
     have HVW3:=Lib.hid (HJ2.out.ext hx3).view
     clear hW3 hx3 hb3 hn' hent
     obtain ⟨sa,hsa⟩ : ∃ sa,allSt y.2.attr = sa:=⟨_,rfl⟩
     have HSA:=Lib.hid hsa
     clear hsa
     refine Rt.wp_region_rt (by kernel_rfl) [0,1,2,3,4,5,6,7,8] [7,8] [1,1,1,1,1,0,0] [0,1,3,7,0,0,32,96,255] (by kernel_rfl) (CuI W3 (.agg #[.int .u64 sa.bits,.int .i64 sa.low,.int .i64 sa.high]) (fun W=>LookJ w.heap.size w2.heap.size w11.heap.size w hf (.slice vp (compact (sortB (subsL hf))).length vc) [] [] (kn2 hf ld (seen ++ [i])) (mput lk2 k sa.val) lf ld W ∧ IterAt W w12.heap.size (w.heap.size + 3) ld.length (seen ++ [i]))) ?_ ?_
     ·exact (below_drawn (ext_refl _) _ : Ext _ _)
     iterate 3 (refine Rt.rs_sil rfl rfl rfl (fun K hK=>?_);go_simp;refine hK _ ?_;clear hK K)
     (refine Rt.rs_rd rfl rfl rfl ?_;apply Exists.intro;refine ⟨fun us' W hp hl hI=>?_,?_⟩;· (have hE:=hI.pre hl;have c : W.cell? ⟨w.heap.size + 4,2,none⟩ = some (.map (some (w.heap.size + 1))):=cell_of (hE.obj HVW3.out) 2;go_simp;rfl));simp only [Act.put,zA,zB,zC,zD,zE,zF]
     (refine Rt.rs_rd rfl rfl rfl ?_;apply Exists.intro;refine ⟨fun us' W hp hl hI=>?_,?_⟩;· (have hE:=hI.pre hl;have c : W.cell? ⟨W2.heap.size,0,none⟩ = some (.string k.1):=cell_of (hE.obj HB3.out) 0;have d : W.cell? ⟨W2.heap.size,1,none⟩ = some (.pointer (some ⟨k.2,0,none⟩)):=cell_of (hE.obj HB3.out) 1;go_simp;rfl));simp only [Act.put,zA,zB,zC,zD,zE,zF]
     (refine Rt.rs_sil rfl rfl rfl (fun K hK=>?_);go_simp;refine hK _ ?_;clear hK K)
     (refine Rt.rs_rd rfl rfl rfl ?_;apply Exists.intro;refine ⟨fun us' W hp hl hI=>?_,?_⟩;· (have hE:=hI.pre (Nat.le_trans hl (by decide));have d : W.cell? ⟨W2.heap.size,1,none⟩ = some (.pointer (some ⟨k.2,0,none⟩)):=cell_of (hE.obj HB3.out) 1;go_simp;rfl));simp only [Act.put,zA,zB,zC,zD,zE,zF]
     refine Rt.rs_eff rfl rfl rfl (fun W hI=>?_) (fun v hv=>?_)
     ·have hE:=hI.pre (Nat.zero_le _)
      have hwW : Ext w W:=(HJ3.out.ext hE).below
      refine Rt.gives_cal ?_
      apply Exists.intro
      apply Exists.intro
      apply Exists.intro
      refine ⟨by go_simp;exact ⟨⟨rfl,rfl⟩,rfl⟩,?_⟩
      have hcc:=((HREC.out.ext hwW).colAt _ HYC.out).colAt
      rw [← HK2.out] at hcc
      refine (all_any k.2 y.2.attr W hcc (HREC.out.ok.attrs _ HYC.out)).mono ?_
      rintro e w7 ⟨rfl,hx7⟩
      rw [HSA.out]
      exact ⟨_,rfl,rfl,hE.trans' hx7⟩
     obtain rfl : v = .agg #[.int .u64 sa.bits,.int .i64 sa.low,.int .i64 sa.high]:=let ⟨W,hI⟩:=hv;hI.1
     clear hv
     simp only [Act.put,zA,zB,zC,zD,zE,zF]
     refine Rt.rs_eff rfl rfl rfl (fun W hI=>?_) (fun v hv=>?_)
     ·have hE:=hI.pre (Nat.le_refl _)
      have hJ:=HJ3.out.ext hE
      have hwW : Ext w W:=hJ.below
      have hcols : ∀ x ∈ lk2,IsCol W x.1.2:=fun x hx=>by
       have h1 : (look lk2 x.1).isSome = true:=look_isSome_iff.2 (List.mem_map.2 ⟨x,hx,rfl⟩)
       rw [hJ.knownL] at h1
       obtain ⟨z,hz,e⟩:=kn2_some h1
       rw [← e]
       exact (HREC.out.ext hwW).isCol (HREC.out.ok.fact _ (HFOK.out z hz)).1
      have hk2 : IsCol W k.2:=by rw [HK2.out];exact (HREC.out.ext hwW).isCol HYC.out
      have hup:=run_mapUpdate (P:=Tryz.prog) (T:=134) (K:=131) (E:=120) (k:=k) (v:=sa.val) (by kernel_rfl) hJ.known (finds_key W lk2 k hk2 hcols)
      replace hup : (Instr.mapUpdate 134 (.map (some (w.heap.size + 1))) (.agg #[.string k.1,.pointer (some ⟨k.2,0,none⟩)]) (.agg #[.int .u64 sa.bits,.int .i64 sa.low,.int .i64 sa.high])).run Tryz.prog W = _:=hup
      refine Rt.gives_skp ?_
      apply Exists.intro
      refine ⟨by go_simp;rfl,?_⟩
      refine ⟨hJ.knownStep k sa.val _ (by rw [HSN.out.1,HKK.out,Option.map_some,HYA.out,HSA.out]) HSN.out.2,?_⟩
      have hq:=hE.obj HIT3.out
      have hne : w12.heap.size ≠ w.heap.size + 1:=by have:=hJ.le;have:=hJ.le3;omega
      exact (show (wput encK W (w.heap.size + 1) (mput lk2 k sa.val)).heap[w12.heap.size]? = _ by unfold wput;rw [putObj_get,if_neg hne];exact hq)
     clear hv
     simp only [Act.put,zA,zB,zC,zD,zE,zF]
     refine Rt.rs_nil (fun W4 hI=>?_)
     obtain ⟨hJ4,hit4⟩:=hI
     have HJ4:=Lib.hid hJ4
     have HIT4:=Lib.hid hit4
     clear hJ4 hit4
     go_wp2_with fail
     refine ⟨⟨seen ++ [i],_,HJ4.out,HIT4.out,?_,?_⟩,?_⟩
     ·rw [List.nodup_append]
      exact ⟨HND.out,by simp,fun x hx y hy=>by rw [List.mem_singleton.1 hy];rintro rfl;exact HNI.out hx⟩
     ·intro j hj
      rcases List.mem_append.1 hj with hj | hj
      ·exact HFEW.out j hj
      ·rw [List.mem_singleton.1 hj];exact hil
     ·have e1 : W4.iterSeen w12.heap.size = (seen ++ [i]).toArray:=by
       have hq:=HIT4.out
       unfold IterAt at hq
       unfold World.iterSeen
       rw [hq]
      rw [e1,HITS.out]
      simp
      omega
end Go.Proofs.YtihfcjioilmmjaaGreat
