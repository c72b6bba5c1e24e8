/- Lemmas: ask 2. -/
import Derived.Test.YtihfcjioilmmjaaGreatRm1
import Derived.Test.YtihfcjioilmmjaaGreatRm7
set_option linter.all false
namespace Go.Proofs.YtihfcjioilmmjaaGreat
open Go Go.RowKit
open Go.Lib Go.Sort Go.Maps Go.Shelf Go.Proofs
theorem askF_bad {R : Rec} {op : Int} (hop : op ≠ 1) {attr : ByteArray} {values : List ByteArray} {lo hi : Int} {kids : List Exp} (h : nodeBad attr values lo hi op kids.length = true) : askF R (.mk op attr values lo hi kids) = none:=by
 rw [askF,if_neg hop,if_pos h]
theorem askF_node {R : Rec} {op : Int} (hop : op ≠ 1) {attr : ByteArray} {values : List ByteArray} {lo hi : Int} {kids : List Exp} (h : nodeBad attr values lo hi op kids.length = false) : askF R (.mk op attr values lo hi kids) = match askL R kids ⟨1,fun _=>none,[]⟩ with
  | none=>none
  | some acc=>closeQ op acc:=by
 rw [askF,if_neg hop,if_neg (by rw [h];simp)]
 cases askL R kids ⟨1,fun _=>none,[]⟩ <;> rfl
set_option maxHeartbeats 16000000 in
set_option maxRecDepth 100000 in
theorem ask_node {B : Nat} {w : World} {rb : Nat} {R : Rec} {cm : Nat} {vv fv : Value} {os : List (Option Nat × Option Nat)} {xs : List (List Value)} (h : RecAt B w rb R cm vv fv os xs) (op : Int) (hop : op ≠ 1) (attr : ByteArray) (sv : Value) (values : List ByteArray) (hsv : StrsAt w sv values) (lo hi : Int) (kv : Value) (kids : List Exp) (css : List (List Value)) (hk : SlAt w kv 6 kids.length css.flatten) (hlen : css.length = kids.length) (h6 : ∀ c ∈ css,c.length = 6) (hform : ∀ c ∈ css,∃ o at_ p n c' l h p2 n2 c2,c = [.int .u8 o,.string at_,.slice p n c',.int .i64 l,.int .i64 h,.slice p2 n2 c2])
  (hih : ∀ (i : Nat) c k W,css[i]? = some c → kids[i]? = some k → Ext w W → Calls Tryz.prog 64 #[encP rb,.agg c.toArray] W fun e w'=>AskPost R k W e w') (hn : nodesL kids ≤ 1000) :
  Calls Tryz.prog 64 #[encP rb,.agg #[.int .u8 op,.string attr,sv,.int .i64 lo,.int .i64 hi,kv]] w fun e w'=>AskPost R (.mk op attr values lo hi kids) w e w':=by
 obtain ⟨sp,scap,hsve,z1,hsml,z2,z3⟩:=hsv.1
 obtain ⟨kp,kcap,hkve,z4,hkml,z5,hkcell⟩:=hk
 clear z1 z2 z3 z4 z5 hsv
 unfold maxLen at hkml hsml
 subst hsve
 subst hkve
 have HREC:=Lib.hid h
 have HIH:=Lib.hid hih
 have HKC:=Lib.hid hkcell
 have HLEN:=Lib.hid hlen
 have H6:=Lib.hid h6
 have HFORM:=Lib.hid hform
 obtain ⟨W1,hW1⟩ : ∃ W1,W1 = ((w.alloc (.cells #[.int .u8 op,.string attr,.slice sp values.length scap,.int .i64 lo,.int .i64 hi,.slice kp kids.length kcap] 29 (0,0))).alloc (.map #[] 0)).alloc (.cells #[.nilFunc,.int .i64 1,.map (some (w.heap.size + 1))] 168 (0,0)):=⟨_,rfl⟩
 have hx1 : Ext w W1:=by rw [hW1];exact bel
 have hs1 : W1.heap.size = w.heap.size + 3:=by rw [hW1];simp
 have hb3 : W1.heap[w.heap.size]? = some (.cells #[.int .u8 op,.string attr,.slice sp values.length scap,.int .i64 lo,.int .i64 hi,.slice kp kids.length kcap] 29 (0,0)):=by rw [hW1];simp only [heap_drawn_get,heap_drew_get,heap_setCell_get,heap_alloc_get,World.size_alloc,World.size_setCell,size_drawn,putObj_get,putObj_size];(repeat (first | rw [if_pos trivial] | rw [if_pos rfl] | rw [if_neg (by omega)] | rw [if_pos (by omega)]))
 have hmm1 : MapIs encP W1 (w.heap.size + 1) []:=by rw [hW1];unfold MapIs;simp only [heap_drawn_get,heap_drew_get,heap_setCell_get,heap_alloc_get,World.size_alloc,World.size_setCell,size_drawn,putObj_get,putObj_size];(repeat (first | rw [if_pos trivial] | rw [if_pos rfl] | rw [if_neg (by omega)] | rw [if_pos (by omega)]));rfl
 have hb6 : W1.heap[w.heap.size + 2]? = some (.cells #[.nilFunc,.int .i64 1,.map (some (w.heap.size + 1))] 168 (0,0)):=by rw [hW1];simp only [heap_drawn_get,heap_drew_get,heap_setCell_get,heap_alloc_get,World.size_alloc,World.size_setCell,size_drawn,putObj_get,putObj_size];(repeat (first | rw [if_pos trivial] | rw [if_pos rfl] | rw [if_neg (by omega)] | rw [if_pos (by omega)]))
 have HX1:=Lib.hid hx1
 have HB3:=Lib.hid hb3
 have HM1:=Lib.hid hmm1
 have HB6:=Lib.hid hb6
 have HS1:=Lib.hid hs1
 have c0:=cell_of hb3 0
 have c1:=cell_of hb3 1
 have c2:=cell_of hb3 2
 have c3:=cell_of hb3 3
 have c4:=cell_of hb3 4
 have c5:=cell_of hb3 5
 have hmm : ∀ t w,(Instr.makeMap t none).run Tryz.prog w = .ok (.map (some w.heap.size)) (w.alloc (.map #[] 0)):=fun _ _=>rfl
 have e1 : (op == 1) = false:=by simp [hop]
 have hco:=fun W (hW : Ext w W)=>(show ColsAt R W from fun x hm=>(h.ext hW).isCol hm)
 have HCO:=Lib.hid hco
 clear hco
 clear h hx1 hb3 hmm1 hb6 hkcell hlen h6 hih hs1 hform
 unfold encP at *
 go_enter Tryz.func64,Tryz.ntmps64
 go_upto_region 2 with fail
 rw [← hW1,show w.heap.size + 1 + 1 = w.heap.size + 2 from rfl]
 clear hW1
 by_cases hattr : attr = ⟨#[]⟩
 rotate_left
 ·have hne : attr.toList ≠ []:=fun e=>hattr (by have:=beq_toListBytes attr ⟨#[]⟩;rw [e,bytes_beq] at this;simpa using this)
  have HBAD:=Lib.hid (show nodeBad attr values lo hi op kids.length = true by unfold nodeBad;simp [hattr])
  go_upto_region 13 with fail
  clear c2 c3 c4 c5
  go_wp2_with fail
  refine bodyPost_ret (v:=.tuple #[.pointer none,.bool false]) (by simp [results,Tryz.results64,go_sem]) rfl ?_
  exact ⟨HX1.out,.inl ⟨askF_bad hop HBAD.out,_,rfl⟩⟩
 subst hattr
 by_cases hval : values = []
 rotate_left
 ·have hpos : (0 : Int) < (values.length : Int):=by have:=List.length_pos_iff.2 hval;omega
  have HBAD:=Lib.hid (show nodeBad ⟨#[]⟩ values lo hi op kids.length = true by unfold nodeBad;simp [List.length_pos_iff.2 hval])
  go_upto_region 13 with fail
  clear c3 c4 c5
  go_wp2_with fail
  refine bodyPost_ret (v:=.tuple #[.pointer none,.bool false]) (by simp [results,Tryz.results64,go_sem]) rfl ?_
  exact ⟨HX1.out,.inl ⟨askF_bad hop HBAD.out,_,rfl⟩⟩
 subst hval
 by_cases hlo : lo = 0
 rotate_left
 ·have HBAD:=Lib.hid (show nodeBad ⟨#[]⟩ [] lo hi op kids.length = true by unfold nodeBad;simp [hlo])
  go_upto_region 13 with fail
  clear c4 c5
  go_wp2_with fail
  refine bodyPost_ret (v:=.tuple #[.pointer none,.bool false]) (by simp [results,Tryz.results64,go_sem]) rfl ?_
  exact ⟨HX1.out,.inl ⟨askF_bad hop HBAD.out,_,rfl⟩⟩
 subst hlo
 by_cases hhi : hi = 0
 rotate_left
 ·have HBAD:=Lib.hid (show nodeBad ⟨#[]⟩ [] 0 hi op kids.length = true by unfold nodeBad;simp [hhi])
  go_upto_region 13 with fail
  clear c5
  go_wp2_with fail
  refine bodyPost_ret (v:=.tuple #[.pointer none,.bool false]) (by simp [results,Tryz.results64,go_sem]) rfl ?_
  exact ⟨HX1.out,.inl ⟨askF_bad hop HBAD.out,_,rfl⟩⟩
 subst hhi
 by_cases hkl : kids.length < 1
 ·have HBAD:=Lib.hid (show nodeBad ⟨#[]⟩ [] 0 0 op kids.length = true by unfold nodeBad;simp [hkl])
  have hkl' : (kids.length : Int) < 1:=by omega
  go_upto_region 13 with fail
  go_wp2_with fail
  refine bodyPost_ret (v:=.tuple #[.pointer none,.bool false]) (by simp [results,Tryz.results64,go_sem]) rfl ?_
  exact ⟨HX1.out,.inl ⟨askF_bad hop HBAD.out,_,rfl⟩⟩
 have hkl' : ¬ (kids.length : Int) < 1:=by omega
 by_cases hop2 : op = 2 ∧ kids.length ≠ 1
 ·have HBAD:=Lib.hid (show nodeBad ⟨#[]⟩ [] 0 0 op kids.length = true by unfold nodeBad;simp [hop2])
  obtain ⟨rfl,hk1⟩:=hop2
  have hk1' : ((kids.length : Int) != 1) = true:=by rw [bne_iff_ne];omega
  go_upto_region 13 with fail
  go_wp2_with fail
  refine bodyPost_ret (v:=.tuple #[.pointer none,.bool false]) (by simp [results,Tryz.results64,go_sem]) rfl ?_
  exact ⟨HX1.out,.inl ⟨askF_bad hop HBAD.out,_,rfl⟩⟩
 have hgood : nodeBad ⟨#[]⟩ [] 0 0 op kids.length = false:=by
  unfold nodeBad
  have h1 : ¬ kids.length < 1:=hkl
  by_cases h2 : op = 2
  ·have h3 : kids.length = 1:=Classical.byContradiction fun h=>hop2 ⟨h2,h⟩
   simp [h1,h2,h3]
  ·simp [h1,h2]
 have HGOOD:=Lib.hid hgood
 obtain ⟨b2,hb2⟩ : ∃ b,(op == 2) = b:=⟨_,rfl⟩
 have hk1 : b2 = true → ((kids.length : Int) != 1) = false:=fun hb=>by
  rw [bne_eq_false_iff_eq]
  have h2 : op = 2:=by rw [hb] at hb2;simpa using hb2
  have h3 : kids.length = 1:=Classical.byContradiction fun h=>hop2 ⟨h2,h⟩
  omega
 clear hgood hop2
 obtain ⟨W2,hW2⟩ : ∃ W2,W2 = W1.alloc (.cells #[.slice none 0 0] 183 (0,0)):=⟨_,rfl⟩
 have hx2 : Ext W1 W2:=by rw [hW2];exact bel
 have hb10 : W2.heap[w.heap.size + 3]? = some (.cells #[.slice none 0 0] 183 (0,0)):=by rw [hW2,← HS1.out];simp only [heap_drawn_get,heap_drew_get,heap_setCell_get,heap_alloc_get,World.size_alloc,World.size_setCell,size_drawn,putObj_get,putObj_size];(repeat (first | rw [if_pos trivial] | rw [if_pos rfl] | rw [if_neg (by omega)] | rw [if_pos (by omega)]))
 have d5 : W2.cell? ⟨w.heap.size,5,none⟩ = some (.slice kp kids.length kcap):=hx2.cell' (cell_of HB3.out 5)
 have hI0 : AskI w.heap.size W2.heap.size w R #[.int .u8 op,.string ⟨#[]⟩,.slice sp 0 scap,.int .i64 0,.int .i64 0,.slice kp kids.length kcap] 1 (fun _=>none) [] [] (.slice none 0 0) [] W2:=
  {below:=HX1.out.trans' hx2,size:=by have:=heap_lt hb10;omega,hM:=Nat.le_refl _,b3:=hx2.obj HB3.out,q:=hx2.obj HB6.out,marks:=(marks_nil HM1.out).ext hx2,t10:=hb10,rows:=World.ownsRow_nil _ _ _ _,len:=rfl,ok:=fun i t φ ht=>(by simp at ht) }
 have HI0:=Lib.hid hI0
 have hs3 : W1.heap.size = w.heap.size + 3:=HS1.out
 clear hx2 hb10 hI0
 cases b2 with
 | false=>
  go_upto_region 16 with fail
  rw [← hW2]
  clear hW2 hs3 hk1 c0 c1 c2 c3 c4 c5
  go_wp2_with fail
  go_loopw [121] (fun i wr=>∃ (j M : Nat) (acc : Acc) (tvs : List Value) (tsv : Value) (lm : List (Nat × Value)),j ≤ kids.length ∧ i = .int .i64 j ∧ askL R (kids.take j) ⟨1,fun _=>none,[]⟩ = some acc ∧ AskI w.heap.size M w R #[.int .u8 op,.string ⟨#[]⟩,.slice sp 0 scap,.int .i64 0,.int .i64 0,.slice kp kids.length kcap] acc.size acc.marks acc.φs tvs tsv lm wr) (fun i _=>kids.length - (intOf i).toNat)
  case atStart=>exact ⟨0,_,⟨1,fun _=>none,[]⟩,[],_,[],Nat.zero_le _,rfl,by rw [List.take_zero,askL],HI0.out⟩
  case round=>
   obtain ⟨j,M,acc,tvs,tsv,lm,hj,rfl,hacc,hI⟩:=hrel
   by_cases hlt : j < kids.length
   ·obtain ⟨k,hkj⟩ : ∃ k,kids[j]? = some k:=⟨_,List.getElem?_eq_getElem hlt⟩
    obtain ⟨cs,hcj⟩ : ∃ cs,css[j]? = some cs:=⟨_,List.getElem?_eq_getElem (by rw [HLEN.out];exact hlt)⟩
    obtain ⟨yo,ya,yp,yn,yc,yl,yh,zp,zn,zc,rfl⟩:=HFORM.out cs (List.mem_of_getElem? hcj)
    have hcell : ∀ (q : Nat) (u : Value),([.int .u8 yo,.string ya,.slice yp yn yc,.int .i64 yl,.int .i64 yh,.slice zp zn zc] : List Value)[q]? = some u → ∃ b off,kp = some ⟨b,off,none⟩ ∧ w.cell? ⟨b,off + (j * 6 + q),none⟩ = some u:=fun q u hu=>by
     have hq : q < 6:=(List.getElem?_eq_some_iff.1 hu).1
     have h2:=flatten_get 6 css H6.out j q _ hcj hq
     rw [hu] at h2
     exact HKC.out _ u h2
    obtain ⟨kb,koff,rfl,hc0⟩:=hcell 0 (.int .u8 yo) rfl
    have hx : Ext w wr:=hI.below
    have hcell' : ∀ (q : Nat) (u : Value),([.int .u8 yo,.string ya,.slice yp yn yc,.int .i64 yl,.int .i64 yh,.slice zp zn zc] : List Value)[q]? = some u → wr.cell? ⟨kb,koff + (j * 6 + q),none⟩ = some u:=fun q u hu=>by
     obtain ⟨b,off,e,hc⟩:=hcell q u hu
     simp only [Option.some.injEq,Addr.mk.injEq] at e
     obtain ⟨rfl,rfl,_⟩:=e
     exact hx.cell' hc
    have g0 : wr.cell? ⟨kb,koff + j * 6,none⟩ = some (.int .u8 yo):=hcell' 0 _ rfl
    have g1 : wr.cell? ⟨kb,koff + j * 6 + 1,none⟩ = some (.string ya):=hcell' 1 _ rfl
    have g2 : wr.cell? ⟨kb,koff + j * 6 + 2,none⟩ = some (.slice yp yn yc):=hcell' 2 _ rfl
    have g3 : wr.cell? ⟨kb,koff + j * 6 + 3,none⟩ = some (.int .i64 yl):=hcell' 3 _ rfl
    have g4 : wr.cell? ⟨kb,koff + j * 6 + 4,none⟩ = some (.int .i64 yh):=hcell' 4 _ rfl
    have g5 : wr.cell? ⟨kb,koff + j * 6 + 5,none⟩ = some (.slice zp zn zc):=hcell' 5 _ rfl
    have HI:=Lib.hid hI
    have HX:=Lib.hid hx
    have HACC:=Lib.hid hacc
    have HKJ:=Lib.hid hkj
    have HCJ:=Lib.hid hcj
    clear hI hx hacc hkj hcj hcell hcell' hc0 d5
    obtain ⟨tp,tc,rfl⟩:=owns_form HI.out.rows
    go_upto_region 19 with fail
    obtain ⟨W3,hW3⟩ : ∃ W3,W3 = wr.alloc (.cells #[.int .u8 yo,.string ya,.slice yp yn yc,.int .i64 yl,.int .i64 yh,.slice zp zn zc] 29 (0,0)):=⟨_,rfl⟩
    rw [← hW3]
    have hx3 : Ext wr W3:=by rw [hW3];exact bel
    have hb12 : W3.heap[wr.heap.size]? = some (.cells #[.int .u8 yo,.string ya,.slice yp yn yc,.int .i64 yl,.int .i64 yh,.slice zp zn zc] 29 (0,0)):=by rw [hW3];simp only [heap_drawn_get,heap_drew_get,heap_setCell_get,heap_alloc_get,World.size_alloc,World.size_setCell,size_drawn,putObj_get,putObj_size];(repeat (first | rw [if_pos trivial] | rw [if_pos rfl] | rw [if_neg (by omega)] | rw [if_pos (by omega)]))
    have g0:=cell_of hb12 0
    have g1:=cell_of hb12 1
    have g2:=cell_of hb12 2
    have g3:=cell_of hb12 3
    have g4:=cell_of hb12 4
    have g5:=cell_of hb12 5
    have hszr:=HI.out.size
    have hs3' : wr.heap.size < W3.heap.size:=heap_lt hb12
    have HX3:=Lib.hid hx3
    have HXW3:=Lib.hid (HX.out.trans' hx3)
    clear hW3 hx3 hb12
    go_wp2_with fail
    refine (HIH.out j _ k W3 HCJ.out HKJ.out HXW3.out).mono ?_
    rintro e w4 ⟨hx4,hpost⟩
    have HI4:=Lib.hid (HI.out.ext (HX3.out.trans' hx4))
    have HXW4:=Lib.hid (HXW3.out.trans' hx4)
    have HX34:=Lib.hid hx4
    have hs4:=hx4.size
    have q1 : w4.cell? ⟨w.heap.size + 2,1,none⟩ = some (.int .i64 (acc.size : Int)):=cell_of HI4.out.q 1
    have htk : kids.take (j + 1) = kids.take j ++ [k]:=by rw [List.take_add_one,HKJ.out];rfl
    have hsn:=askL_snoc R (kids.take j) k ⟨1,fun _=>none,[]⟩
    rw [← htk,HACC.out] at hsn
    have HSN:=Lib.hid hsn
    clear hx4 htk hsn g0 g1 g2 g3 g4 g5
    rcases hpost with ⟨hno,v,rfl⟩ | ⟨q,qb,tv,mb,lk',hq,rfl,hQ⟩
    ·have hask : askF R (.mk op ⟨#[]⟩ [] 0 0 kids) = none:=by
      rw [askF_node hop HGOOD.out,askL_none (j:=j + 1)]
      rw [HSN.out,hno]
     have HASK:=Lib.hid hask
     clear hask hno
     go_wp2_with fail
     refine bodyPost_ret (v:=.tuple #[.pointer none,.bool false]) (by simp [results,Tryz.results64,go_sem]) rfl ?_
     exact ⟨HXW4.out,.inl ⟨HASK.out,_,rfl⟩⟩
    ·obtain ⟨hqs,hqm⟩:=askF_ok R k q hq
     have hk1000 : q.size ≤ 1000:=by
      rw [hqs]
      have hmem : k ∈ kids:=List.mem_of_getElem? HKJ.out
      have hle : ∀ l : List Exp,k ∈ l → k.nodes ≤ nodesL l:=by
       intro l
       induction l with
       | nil=>intro h;cases h
       | cons a r ih=>
        intro h
        rw [nodesL]
        rcases List.mem_cons.1 h with rfl | h
        ·omega
        ·have:=ih h;omega
      have:=hle kids hmem
      omega
     have hsn2:=HSN.out
     rw [hq] at hsn2
     have HQ:=Lib.hid hQ
     have HQM:=Lib.hid hqm
     have y1 : w4.cell? ⟨qb,1,none⟩ = some (.int .i64 (q.size : Int)):=cell_of hQ.blk 1
     clear hQ hqm hqs hq
     by_cases h30 : acc.size ≤ 30
     rotate_left
     ·have hask : askF R (.mk op ⟨#[]⟩ [] 0 0 kids) = none:=by
       rw [askF_node hop HGOOD.out,askL_none (j:=j + 1)]
       rw [hsn2]
       exact if_neg h30
      have HASK:=Lib.hid hask
      have h30' : (30 : Int) < (acc.size : Int):=by omega
      clear hask hsn2
      go_wp2_with fail
      refine bodyPost_ret (v:=.tuple #[.pointer none,.bool false]) (by simp [results,Tryz.results64,go_sem]) rfl ?_
      exact ⟨HXW4.out,.inl ⟨HASK.out,_,rfl⟩⟩
     ·have h30' : ¬ (30 : Int) < (acc.size : Int):=by omega
      have hsn3 : askL R (kids.take (j + 1)) ⟨1,fun _=>none,[]⟩ = some ⟨acc.size + q.size,mergeM acc.marks q.marks,acc.φs ++ [q.φ]⟩:=hsn2.trans (if_pos h30)
      have HSN2:=Lib.hid hsn3
      have HWR:=Lib.hid (show IntKind.i64.wrap ((acc.size : Int) + (q.size : Int)) = ((acc.size + q.size : Nat) : Int) by rw [wrap_id (by omega) (by omega)];rfl)
      clear hsn2 hsn3
      go_upto_region 22 with fail
      clear q1 y1 h30'
      refine Rt.wp_region_rt (by kernel_rfl) [0,1,2,3,4,5,6,7,8,9,10,11] [11] [0,0,0,0,0,0,0,0,0,0,0] [0,1,3,7,0,16,48,112,255,511,1023,2047] (by kernel_rfl) (UpI w4 (fun W=>∃ Wp,Ext w4 Wp ∧ W = Wp.setCell ⟨w.heap.size + 2,1,none⟩ (.int .i64 ((acc.size + q.size : Nat) : Int)))) ?_ ?_
      ·exact (below_drawn (ext_refl _) _ : Ext _ _)
      iterate 3 (refine Rt.rs_sil rfl rfl rfl (fun K hK=>?_);go_simp;refine hK _ ?_;clear hK K)
      (refine Rt.rs_rd rfl rfl rfl ?_;apply Exists.intro;refine ⟨fun us' W hp hl hI=>?_,?_⟩;· (have hE:=hI.pre hl;have g1 : W.cell? ⟨w.heap.size + 2,1,none⟩ = some (.int .i64 (acc.size : Int)):=cell_of (hE.obj HI4.out.q) 1;go_simp;rfl));simp only [Act.put,zA,zB,zC,zD,zE,zF]
      iterate 3 (refine Rt.rs_sil rfl rfl rfl (fun K hK=>?_);go_simp;refine hK _ ?_;clear hK K)
      (refine Rt.rs_rd rfl rfl rfl ?_;apply Exists.intro;refine ⟨fun us' W hp hl hI=>?_,?_⟩;· (have hE:=hI.pre hl;have g1 : W.cell? ⟨qb,1,none⟩ = some (.int .i64 (q.size : Int)):=cell_of (hE.obj HQ.out.blk) 1;go_simp;rfl));simp only [Act.put,zA,zB,zC,zD,zE,zF]
      iterate 3 (refine Rt.rs_sil rfl rfl rfl (fun K hK=>?_);go_simp;refine hK _ ?_;clear hK K)
      refine Rt.rs_eff rfl rfl rfl (fun W hI=>?_) (fun v hv=>?_)
      ·have hE:=hI.pre (Nat.le_refl _)
       have hb:=hE.obj HI4.out.q
       have g1:=cell_of hb 1
       have g2:=frozen_of hb 1
       refine Rt.gives_skp ?_
       apply Exists.intro
       refine ⟨by go_simp;rfl,?_⟩
       exact ⟨W,hE,by rw [HWR.out]⟩
      clear hv
      simp only [Act.put,zA,zB,zC,zD,zE,zF]
      refine Rt.rs_nil (fun w5 hI=>?_)
      obtain ⟨Wp,hxp,hw5⟩:=hI
      have hI5:=(HI4.out.ext hxp).sizeStep (acc.size + q.size)
      rw [← hw5] at hI5
      have hkid5 : Btw W3.heap.size w4.heap.size w4 w5:=by
       rw [hw5]
       exact ⟨by rw [World.size_setCell];exact hxp.size,fun b h1 h2=>by rw [heap_setCell_get,if_neg (by omega)];exact hxp.block b h2⟩
      have hs5 : w4.heap.size ≤ w5.heap.size:=hkid5.1
      have hqb5 : w5.heap[qb]? = some (.cells #[tv,.int .i64 (q.size : Int),.map (some mb)] 168 (0,0)):=(hkid5.2 qb HQ.out.bk.1 HQ.out.bk.2.1).trans HQ.out.blk
      have htest5:=HQ.out.test.move hkid5
      obtain ⟨tg,tlb,rfl,hten⟩ : ∃ g lb,tv = .func (.func g) #[] lb ∧ True:=let ⟨g,lb,h,_⟩:=htest5;⟨g,lb,h,trivial⟩
      clear hten
      have HI5:=Lib.hid hI5
      have HKID5:=Lib.hid hkid5
      have HQB5:=Lib.hid hqb5
      have HTEST5:=Lib.hid htest5
      have htl : tvs.length ≤ 1000:=by
       have h1:=HI5.out.len
       have h2 : ∀ (l : List Exp) (a b : Acc),askL R l a = some b → b.φs.length = a.φs.length + l.length:=by
        intro l
        induction l with
        | nil=>intro a b h;rw [askL] at h;simp only [Option.some.injEq] at h;subst h;rfl
        | cons x r ih=>
         intro a b h
         rw [askL] at h
         cases hx : askF R x with
         | none=>rw [hx] at h;cases h
         | some qq=>
          rw [hx] at h
          simp only at h
          split at h
          ·have:=ih _ b h
           simp at this ⊢
           omega
          ·cases h
       have h3:=h2 _ _ _ HACC.out
       have h4 : ∀ l : List Exp,l.length ≤ nodesL l:=by
        intro l
        induction l with
        | nil=>exact Nat.le_refl _
        | cons x r ih=>
         rw [nodesL,List.length_cons]
         have : 1 ≤ x.nodes:=by cases x;rw [Exp.nodes];omega
         omega
       have h5:=h4 kids
       rw [h1,h3]
       simp only [List.length_nil,List.length_take]
       omega
      clear hxp hw5 hI5 hkid5 hqb5 htest5
      go_upto_region 23 with fail
      refine Rt.wp_region_rt (by kernel_rfl) [0,1,2,3,4,5,6,7] [5,6,7] [1,0,0,0,0] [0,0,2,6,14,30,63,127] (by kernel_rfl) (TapI w5 w.heap.size (.slice tp tvs.length tc) tvs (.func (.func tg) #[] tlb)) ?_ ?_
      ·exact (below_drawn (ext_refl _) _ : Ext _ _)
      (refine Rt.rs_rd rfl rfl rfl ?_;apply Exists.intro;refine ⟨fun us' W hp hl hI=>?_,?_⟩;· (have hE:=hI.pre hl;have g1 : W.cell? ⟨w.heap.size + 3,0,none⟩ = some (.slice tp tvs.length tc):=cell_of (hE.obj HI5.out.t10) 0;go_simp;rfl));simp only [Act.put,zA,zB,zC,zD,zE,zF]
      iterate 3 (refine Rt.rs_sil rfl rfl rfl (fun K hK=>?_);go_simp;refine hK _ ?_;clear hK K)
      (refine Rt.rs_rd rfl rfl rfl ?_;apply Exists.intro;refine ⟨fun us' W hp hl hI=>?_,?_⟩;· (have hE:=hI.pre (Nat.le_trans hl (by decide));have g1 : W.cell? ⟨qb,0,none⟩ = some (.func (.func tg) #[] tlb):=cell_of (hE.obj HQB5.out) 0;go_simp;rfl));simp only [Act.put,zA,zB,zC,zD,zE,zF]
      refine Rt.rs_eff rfl rfl rfl (fun W hI=>?_) (fun v hv=>?_)
      ·have hE:=hI.pre (Nat.zero_le _)
       refine Rt.gives_val ?_
       apply Exists.intro
       apply Exists.intro
       refine ⟨by go_simp;exact ⟨rfl,rfl⟩,?_⟩
       refine ⟨_,rfl,?_,?_⟩
       ·simp only [heap_drawn_get,heap_drew_get,heap_setCell_get,heap_alloc_get,World.size_alloc,World.size_setCell,size_drawn,putObj_get,putObj_size];(repeat (first | rw [if_pos trivial] | rw [if_pos rfl] | rw [if_neg (by omega)] | rw [if_pos (by omega)]))
       ·exact hE.trans' (by exact bel)
      obtain ⟨ab,rfl⟩ : ∃ ab,v = .slice (some ⟨ab,0,none⟩) 1 1:=let ⟨W,hI⟩:=hv;let ⟨ab,h,_⟩:=hI;⟨ab,h⟩
      clear hv
      simp only [Act.put,zA,zB,zC,zD,zE,zF]
      refine Rt.rs_eff rfl rfl rfl (fun W hI=>?_) (fun v hv=>?_)
      ·obtain ⟨ab',e,hc,hE⟩:=hI
       simp only [Value.slice.injEq,Option.some.injEq,Addr.mk.injEq,and_true] at e
       subst e
       have hW:=HI5.out.ext hE
       obtain ⟨v',w',q1,q2,q3,q4⟩:=append_tests (row:=[.func (.func tg) #[] tlb]) hW.rows ab 1 rfl (fun j u hj=>by rw [Nat.zero_add,cell_of hc j,List.getElem?_toArray];exact hj) (fun u hu=>by simp at hu;subst hu;rfl) (by omega) hW.size 1
       exact gives_append_run _ _ 183 rfl rfl rfl q1 ⟨W,hE,q3,q2,q4⟩
      obtain ⟨tp',tc',rfl⟩ : ∃ p c,v = .slice p (tvs.length + 1) c:=let ⟨W,hI⟩:=hv;let ⟨_,_,_,hr,_⟩:=hI;owns_form hr
      clear hv
      simp only [Act.put,zA,zB,zC,zD,zE,zF]
      refine Rt.rs_eff rfl rfl rfl (fun W hI=>?_) (fun v hv=>?_)
      ·obtain ⟨W0,hE,hg,hr,hat⟩:=hI
       have hW:=HI5.out.ext hE
       have hb:=(frm_grown hW.rows hg).cells hW.t10 (by decide)
       have g1:=cell_of hb 0
       have g2:=frozen_of hb 0
       refine Rt.gives_skp ?_
       apply Exists.intro
       refine ⟨by go_simp;rfl,?_⟩
       exact ⟨W0,W,hE,hg,hr,hat,rfl⟩
      clear hv
      simp only [Act.put,zA,zB,zC,zD,zE,zF]
      refine Rt.rs_nil (fun w6 hI=>?_)
      obtain ⟨Wa,Wb,hxa,hga,hra,hata,hw6⟩:=hI
      have hIa:=HI5.out.ext hxa
      have hsa:=hxa.size
      have hbelowW3 : ∀ g,(Value.slice tp tvs.length tc).ownBlock = some g → g < W3.heap.size ∨ w4.heap.size ≤ g:=fun g hgg=>by
       have:=(HI.out.rows.lt g hgg).2
       omega
      have hlmlt : ∀ c v g,look lm c = some v → v.ownBlock = some g → g < W3.heap.size ∨ w4.heap.size ≤ g:=fun c v g hv hgg=>by
       obtain ⟨l',_,h2⟩:=HI.out.marks.some_ c v hv
       have:=(h2.lt g hgg).2
       omega
      obtain ⟨hI6,hb6⟩:=hIa.testStep (φ:=q.φ) hga hra hata (by omega) (by omega) (HTEST5.out.move (btw_ext hs5 hxa)) hbelowW3 hlmlt
      rw [← hw6] at hI6
      have hkid6 : Btw W3.heap.size w4.heap.size w4 w6:=by
       refine (HKID5.out.trans (btw_ext hs5 hxa)).trans ?_
       rw [hw6]
       refine ⟨by rw [World.size_setCell];have:=hga.size;omega,fun b h1 h2=>?_⟩
       rw [heap_setCell_get,if_neg (by omega)]
       refine hga.block b (by omega) (fun e=>?_)
       rcases hbelowW3 b e.symm with e | e <;> omega
      have hs6 : Wa.heap.size ≤ w6.heap.size:=by rw [hw6,World.size_setCell];exact hga.size
      have hqb6 : w6.heap[qb]? = some (.cells #[.func (.func tg) #[] tlb,.int .i64 (q.size : Int),.map (some mb)] 168 (0,0)):=(hkid6.2 qb HQ.out.bk.1 HQ.out.bk.2.1).trans HQ.out.blk
      have y2 : w6.cell? ⟨qb,2,none⟩ = some (.map (some mb)):=cell_of hqb6 2
      have hmk6:=HQ.out.marks.btw ⟨HQ.out.bk.2.2.1,HQ.out.bk.2.2.2⟩ (Nat.le_refl _) hkid6
      have hrg:=range_law (T:=166) (K:=101) (E:=35) (by kernel_rfl) hmk6.map
      obtain ⟨w7,hw7⟩ : ∃ w7,w7 = w6.alloc (.mapIter (some mb) lk'.length #[] lk'.length):=⟨_,rfl⟩
      rw [← hw7] at hrg
      have hx7 : Ext w6 w7:=by rw [hw7];exact bel
      have hit7 : IterAt w7 w6.heap.size mb lk'.length []:=by unfold IterAt;rw [hw7];simp only [heap_drawn_get,heap_drew_get,heap_setCell_get,heap_alloc_get,World.size_alloc,World.size_setCell,size_drawn,putObj_get,putObj_size];(repeat (first | rw [if_pos trivial] | rw [if_pos rfl] | rw [if_neg (by omega)] | rw [if_pos (by omega)]))
      have HI7:=Lib.hid (hI6.ext hx7)
      have HKID7:=Lib.hid (hkid6.trans (btw_ext (by have:=hkid6.1;omega) hx7))
      have HIT7:=Lib.hid hit7
      have HLM:=Lib.hid hlmlt
      have hM6 : Wa.heap.size ≤ w6.heap.size:=hs6
      have hlit : w4.heap.size ≤ w6.heap.size:=hkid6.1
      clear hxa hga hra hata hw6 hIa hI6 hb6 hkid6 hqb6 hmk6 hw7 hx7 hit7 hbelowW3 hlmlt hs6
      go_wp2_with fail
      go_loopw [15,16] (fun _ _ wr=>∃ (seen : List Nat) (lm2 : List (Nat × Value)),AskI w.heap.size Wa.heap.size w R #[.int .u8 op,.string ⟨#[]⟩,.slice sp 0 scap,.int .i64 0,.int .i64 0,.slice (some ⟨kb,koff,none⟩) kids.length kcap] (acc.size + q.size) (mseen acc.marks q.marks lk' seen) (acc.φs ++ [q.φ]) (tvs ++ [.func (.func tg) #[] tlb]) (.slice tp' (tvs.length + 1) tc') lm2 wr ∧ Btw W3.heap.size w4.heap.size w4 wr ∧ IterAt wr w6.heap.size mb lk'.length seen ∧ seen.Nodup ∧ (∀ j ∈ seen,j < lk'.length) ∧ (∀ c v g,look lm2 c = some v → v.ownBlock = some g → g < W3.heap.size ∨ w4.heap.size ≤ g)) (fun _ _ wr=>lk'.length - (wr.iterSeen w6.heap.size).size)
      case atStart=>exact ⟨[],lm,HI7.out,HKID7.out,HIT7.out,List.nodup_nil,fun j h=>(by cases h),HLM.out⟩
      case round=>
       obtain ⟨seen,lm2,hA,hB,hit,hnd,hfew,hlow⟩:=hrel
       have hmkr:=HQ.out.marks.btw ⟨HQ.out.bk.2.2.1,HQ.out.bk.2.2.2⟩ (Nat.le_refl _) hB
       rcases next_law hmkr.map hit 0 with ⟨hall,hn⟩ | ⟨i,c,v,hl,hni,w1,hw1,hn⟩
       ·have hn' : ∀ ty,(Instr.next (.pointer (some ⟨w6.heap.size,0,none⟩)) false ty).run Tryz.prog wr = _:=fun ty=>hn
        rw [mseen_done hmkr.none_ hall] at hA
        have HA:=Lib.hid hA
        clear hA hB hit hnd hfew hlow hmkr hall hn hrg y2
        go_wp2_with fail
        exact ⟨⟨j + 1,_,_,_,_,lm2,by omega,rfl,HSN2.out,HA.out⟩,by simp [intOf];omega⟩
       ·have hil : i < lk'.length:=(List.getElem?_eq_some_iff.1 hl).1
        have hlt2:=seen_lt hnd hfew hil hni
        obtain ⟨WN,hWN⟩ : ∃ WN,WN = w1.putObj w6.heap.size (.mapIter (some mb) lk'.length (seen ++ [i]).toArray lk'.length):=⟨_,rfl⟩
        rw [← hWN] at hn
        have hn' : ∀ ty,(Instr.next (.pointer (some ⟨w6.heap.size,0,none⟩)) false ty).run Tryz.prog wr = .ok (.tuple #[.bool true,.pointer (some ⟨c,0,none⟩),v]) WN:=fun ty=>hn
        have hits : wr.iterSeen w6.heap.size = seen.toArray:=by
         unfold IterAt at hit
         unfold World.iterSeen
         rw [hit]
        have hitl : w6.heap.size < wr.heap.size:=heap_lt hit
        have hx1 : Ext wr w1:=by
         rcases hw1 with rfl | rfl
         ·exact ext_refl _
         ·exact bel
        have hh1 : w1.heap.size = wr.heap.size:=by rcases hw1 with rfl | rfl <;> rfl
        have hit1:=hx1.obj hit
        have hA2:=(hA.ext hx1).put (o':=.mapIter (some mb) lk'.length (seen ++ [i]).toArray lk'.length) (by omega) hit1 (by simp) hM6
        rw [← hWN] at hA2
        have hit2 : IterAt WN w6.heap.size mb lk'.length (seen ++ [i]):=by unfold IterAt;rw [hWN,putObj_get,if_pos rfl,if_pos (by omega)]
        have hB2 : Btw W3.heap.size w4.heap.size w4 WN:=by
         refine (hB.trans (btw_ext hB.1 hx1)).trans ?_
         rw [hWN]
         exact ⟨by rw [putObj_size];have:=hB.1;omega,fun b h1 h2=>by rw [putObj_get,if_neg (by omega)]⟩
        have hmk2:=HQ.out.marks.btw ⟨HQ.out.bk.2.2.1,HQ.out.bk.2.2.2⟩ (Nat.le_refl _) hB2
        have hent : (Instr.entry (.pointer (some ⟨w6.heap.size,0,none⟩))).run Tryz.prog WN = .ok (.tuple #[.pointer (some ⟨c,0,none⟩),v]) WN:=entry_law (enc:=encP) hmk2.map hit2 hl
        have hlk : look lk' c = some v:=look_mem hmk2.nodup (List.mem_of_getElem? hl)
        obtain ⟨l,hνc,hrowv⟩:=hmk2.some_ c v hlk
        obtain ⟨a,hcm⟩:=hmk2.cols (c,v) (List.mem_of_getElem? hl)
        obtain ⟨hms1,hms2⟩:=mseen_snoc (μ:=acc.marks) hmk2.nodup hl hni hνc
        have hl1 : l.length ≤ 2000:=by have:=HQM.out c l hνc;omega
        have hμ1 : ((mseen acc.marks q.marks lk' seen c).getD []).length ≤ 2000:=by
         rw [hms1]
         obtain ⟨_,hsh⟩:=askL_ok R _ _ _ HACC.out
         have hsh:=hsh (fun c l h=>by cases h)
         cases hac : acc.marks c with
         | none=>simp
         | some x=>have:=hsh c x hac;simp only [Option.getD_some];omega
        obtain ⟨vp,vc,rfl⟩:=owns_form hrowv
        obtain ⟨μc,hμc⟩ : ∃ μc,mseen acc.marks q.marks lk' seen = μc:=⟨_,rfl⟩
        rw [hμc] at hA2 hμ1 hms2
        obtain ⟨old,hold⟩ : ∃ old,(look lm2 c).getD (.slice none 0 0) = old:=⟨_,rfl⟩
        have hrowo:=hA2.marks.rowOld c
        rw [hold] at hrowo
        have hlowo : ∀ g,old.ownBlock = some g → g < W3.heap.size ∨ w4.heap.size ≤ g:=fun g hgg=>by
         rw [← hold] at hgg
         cases hq : look lm2 c with
         | none=>rw [hq] at hgg;cases hgg
         | some u=>rw [hq] at hgg;exact hlow c u g hq hgg
        have HA2:=Lib.hid hA2
        have HIT2:=Lib.hid hit2
        have HB2:=Lib.hid hB2
        have HITS:=Lib.hid hits
        have HCM:=Lib.hid hcm
        have HMS2:=Lib.hid hms2
        have HOLD:=Lib.hid hold
        have HROWO:=Lib.hid hrowo
        have HROWV:=Lib.hid hrowv
        have HLOWO:=Lib.hid hlowo
        have HLOW:=Lib.hid hlow
        have HNI:=Lib.hid hni
        have HND:=Lib.hid hnd
        have HFEW:=Lib.hid hfew
        have hs7 : w4.heap.size ≤ WN.heap.size:=hB2.1
        clear hA hB hit hnd hfew hlow hmkr hn hrg y2 hits hx1 hh1 hit1 hA2 hit2 hB2 hmk2 hlk hνc hrowv hcm hms1 hms2 hold hrowo hlowo hWN hw1 hμc hl hni
        go_upto_region 27 with fail
        clear hn' hent
        refine Rt.wp_region_rt (by kernel_rfl) [0,1,2,3,4,5,6,7,8,9,10,11,12,13] [12,13] [1,1,1,1,1,0,0,0,0,0,0,0] [0,1,3,7,0,0,32,96,224,0,992,0,4064,8191] (by kernel_rfl) (MkI WN w.heap.size old ((μc c).getD []).length (((μc c).getD []).map (Value.int .i64)) (l.map (Value.int .i64)) l.length (fun W=>∃ lm3,AskI w.heap.size Wa.heap.size w R #[.int .u8 op,.string ⟨#[]⟩,.slice sp 0 scap,.int .i64 0,.int .i64 0,.slice (some ⟨kb,koff,none⟩) kids.length kcap] (acc.size + q.size) (fun c'=>if c' = c then some ((μc c).getD [] ++ l) else μc c') (acc.φs ++ [q.φ]) (tvs ++ [.func (.func tg) #[] tlb]) (.slice tp' (tvs.length + 1) tc') lm3 W ∧ Btw W3.heap.size w4.heap.size w4 W ∧ IterAt W w6.heap.size mb lk'.length (seen ++ [i]) ∧ (∀ c v g,look lm3 c = some v → v.ownBlock = some g → g < W3.heap.size ∨ w4.heap.size ≤ g))) ?_ ?_
        ·exact (below_drawn (ext_refl _) _ : Ext _ _)
        iterate 3 (refine Rt.rs_sil rfl rfl rfl (fun K hK=>?_);go_simp;refine hK _ ?_;clear hK K)
        (refine Rt.rs_rd rfl rfl rfl ?_;apply Exists.intro;refine ⟨fun us' W hp hl hI=>?_,?_⟩;· (have hk:=hI.keep hl HROWO.out HA2.out.q (by simp);have g1 : W.cell? ⟨w.heap.size + 2,2,none⟩ = some (.map (some (w.heap.size + 1))):=cell_of hk 2;go_simp;rfl));simp only [Act.put,zA,zB,zC,zD,zE,zF]
        iterate 4 (refine Rt.rs_sil rfl rfl rfl (fun K hK=>?_);go_simp;refine hK _ ?_;clear hK K)
        (refine Rt.rs_rd rfl rfl rfl ?_;apply Exists.intro;refine ⟨fun us' W hp hl hI=>?_,?_⟩;· (have hE:=hI.pre hl;have g1 : W.cell? ⟨w.heap.size + 2,2,none⟩ = some (.map (some (w.heap.size + 1))):=cell_of (hE.obj HA2.out.q) 2;go_simp;rfl));simp only [Act.put,zA,zB,zC,zD,zE,zF]
        (refine Rt.rs_sil rfl rfl rfl (fun K hK=>?_);go_simp;refine hK _ ?_;clear hK K)
        (refine Rt.rs_rd rfl rfl rfl ?_;apply Exists.intro;refine ⟨fun us' W hp hl hI=>?_,?_⟩;· (have hE:=hI.pre hl;have hco:=HCO.out W (HA2.out.ext hE).below;have hq0:=run_lookup1 (P:=Tryz.prog) (T:=166) (K:=101) (E:=35) (z:=.slice none 0 0) (k:=c) (by kernel_rfl) (HA2.out.ext hE).marks.map (finds_ptr W lm2 c (hco (a,c) HCM.out) (fun x hx=>let ⟨a',ha'⟩:=(HA2.out.ext hE).marks.cols x hx;hco (a',x.1) ha')) (by kernel_rfl);rw [HOLD.out] at hq0;replace hq0 : (Instr.lookup 166 (.map (some (w.heap.size + 1))) (.pointer (some ⟨c,0,none⟩)) false).run Tryz.prog W = _:=hq0;go_simp;rfl));simp only [Act.put,zA,zB,zC,zD,zE,zF]
        (refine Rt.rs_sil rfl rfl rfl (fun K hK=>?_);go_simp;refine hK _ ?_;clear hK K)
        refine Rt.rs_eff rfl rfl rfl (fun W hI=>?_) (fun v hv=>?_)
        ·have hE:=hI.pre (Nat.le_refl _)
         have hW:=HA2.out.ext hE
         have hown : W.ownsRow w.heap.size 3 1 old ((μc c).getD []).length (((μc c).getD []).map (Value.int .i64)):=owns_keep HROWO.out fun g _ _ hgg=>hE.block g (heap_lt hgg)
         have hu : W.ownsRow W3.heap.size 3 1 (.slice vp l.length vc) l.length (l.map (Value.int .i64)):=owns_keep HROWV.out fun g _ _ hgg=>hE.block g (heap_lt hgg)
         obtain ⟨v',w',q1,q2,q3,q4⟩:=append_marks hown hu (one_ints l) (by omega) (by have:=hW.size;omega)
         exact gives_append_run _ _ 35 rfl rfl rfl q1 ⟨W,hE,q3,q2,q4⟩
        obtain ⟨np,nc,rfl⟩ : ∃ p c',v = .slice p (((μc c).getD []).length + l.length) c':=let ⟨W,hI⟩:=hv;let ⟨_,_,_,hr,_⟩:=hI;owns_form hr
        clear hv
        simp only [Act.put,zA,zB,zC,zD,zE,zF]
        refine Rt.rs_eff rfl rfl rfl (fun W hI=>?_) (fun v hv=>?_)
        ·obtain ⟨W0,hE,hg,hr,hat⟩:=hI
         have hW:=HA2.out.ext hE
         have hg':=hg
         have hat':=hat
         rw [← HOLD.out] at hg' hat'
         obtain ⟨hA3,hmap⟩:=hW.markStep c HCM.out l hg' hr hat'
         have hown : W0.ownsRow w.heap.size 3 1 old _ _:=owns_keep HROWO.out fun g _ _ hgg=>hE.block g (heap_lt hgg)
         have hwW : Below w.heap.size w W:=hW.below.grown hg (by have:=hW.size;omega) fun k hk=>(owns_block hown hk).1
         have hco:=HCO.out W hwW
         have hup:=run_mapUpdate (P:=Tryz.prog) (T:=166) (K:=101) (E:=35) (k:=c) (v:=.slice np (((μc c).getD []).length + l.length) nc) (by kernel_rfl) hmap (finds_ptr W lm2 c (hco (a,c) HCM.out) (fun x hx=>let ⟨a',ha'⟩:=hW.marks.cols x hx;hco (a',x.1) ha'))
         replace hup : (Instr.mapUpdate 166 (.map (some (w.heap.size + 1))) (.pointer (some ⟨c,0,none⟩)) (.slice np (((μc c).getD []).length + l.length) nc)).run Tryz.prog W = _:=hup
         refine Rt.gives_skp ?_
         apply Exists.intro
         refine ⟨by go_simp;rfl,?_⟩
         have hm':=hmap
         unfold MapIs at hm'
         refine ⟨_,hA3,?_,?_,?_⟩
         ·refine (HB2.out.trans (btw_ext hs7 hE)).trans ⟨by unfold wput;rw [putObj_size];have h1:=hE.size;have h2:=hg.size;omega,fun b h1 h2=>?_⟩
          unfold wput
          rw [putObj_get,if_neg (by omega)]
          refine hg.block b (by have:=hE.size;omega) (fun e=>?_)
          rcases HLOWO.out b e.symm with e | e <;> omega
         ·have hq:=(frm_grown hown hg) _ _ (hE.obj HIT2.out) (by simp)
          exact (show (wput encP W (w.heap.size + 1) _).heap[w6.heap.size]? = _ by unfold wput;rw [putObj_get,if_neg (by omega)];exact hq)
         ·intro c' u g hu hgg
          rw [lookNat_set] at hu
          split at hu
          ·obtain rfl:=Option.some.inj hu
           rcases hat with e | e
           ·exact HLOWO.out g (by rw [← e];exact hgg)
           ·rw [e] at hgg
            obtain rfl:=Option.some.inj hgg
            right;have:=hE.size;omega
          ·exact HLOW.out c' u g hu hgg
        clear hv
        simp only [Act.put,zA,zB,zC,zD,zE,zF]
        refine Rt.rs_nil (fun W4 hI=>?_)
        obtain ⟨lm3,hA4,hB4,hit4,hlow4⟩:=hI
        rw [← HMS2.out] at hA4
        have HA4:=Lib.hid hA4
        have HB4:=Lib.hid hB4
        have HIT4:=Lib.hid hit4
        have HLOW4:=Lib.hid hlow4
        clear hA4 hB4 hit4 hlow4
        go_wp2_with fail
        refine ⟨⟨seen ++ [i],lm3,HA4.out,HB4.out,HIT4.out,?_,?_,HLOW4.out⟩,?_⟩
        ·rw [List.nodup_append]
         exact ⟨HND.out,by simp,fun x hx y hy=>by rw [List.mem_singleton.1 hy];rintro rfl;exact HNI.out hx⟩
        ·intro j hj
         rcases List.mem_append.1 hj with hj | hj
         ·exact HFEW.out j hj
         ·rw [List.mem_singleton.1 hj];exact hil
        ·have e1 : W4.iterSeen w6.heap.size = (seen ++ [i]).toArray:=by
          have hq:=HIT4.out
          unfold IterAt at hq
          unfold World.iterSeen
          rw [hq]
         rw [e1,HITS.out]
         simp
         omega
   ·obtain rfl : j = kids.length:=by omega
    rw [List.take_length] at hacc
    obtain ⟨wE,rfl⟩ : ∃ wE,wE = wr:=⟨wr,rfl⟩
    have hask:=askF_node (R:=R) (lo:=0) (hi:=0) (attr:=⟨#[]⟩) (values:=[]) (kids:=kids) hop HGOOD.out
    rw [hacc] at hask
    have HASK:=Lib.hid (show askF R (.mk op ⟨#[]⟩ [] 0 0 kids) = closeQ op acc from hask)
    have HI:=Lib.hid hI
    clear hI hacc hask hlt hj d5
    go_upto_region 31 with fail
    obtain ⟨W5,hW5⟩ : ∃ W5,W5 = (wE.alloc (.cells #[.func (.func 80) #[] #[]] 185 (0,0))).alloc (.cells #[.func (.func 82) #[] #[]] 185 (0,0)):=⟨_,rfl⟩
    rw [← hW5]
    have hx5 : Ext wE W5:=by rw [hW5];exact bel
    have hb17 : W5.heap[wE.heap.size]? = some (.cells #[.func (.func 80) #[] #[]] 185 (0,0)):=by rw [hW5];simp only [heap_drawn_get,heap_drew_get,heap_setCell_get,heap_alloc_get,World.size_alloc,World.size_setCell,size_drawn,putObj_get,putObj_size];(repeat (first | rw [if_pos trivial] | rw [if_pos rfl] | rw [if_neg (by omega)] | rw [if_pos (by omega)]))
    have hb18 : W5.heap[wE.heap.size + 1]? = some (.cells #[.func (.func 82) #[] #[]] 185 (0,0)):=by rw [hW5];simp only [heap_drawn_get,heap_drew_get,heap_setCell_get,heap_alloc_get,World.size_alloc,World.size_setCell,size_drawn,putObj_get,putObj_size];(repeat (first | rw [if_pos trivial] | rw [if_pos rfl] | rw [if_neg (by omega)] | rw [if_pos (by omega)]))
    have hI5:=HI.out.ext hx5
    have hsE:=HI.out.size
    have o0 : W5.cell? ⟨w.heap.size,0,none⟩ = some (.int .u8 op):=cell_of hI5.b3 0
    have o1:=cell_of hI5.q 0
    have o2:=frozen_of hI5.q 0
    have HI5:=Lib.hid hI5
    have HB17:=Lib.hid hb17
    have HB18:=Lib.hid hb18
    clear hW5 hx5 hb17 hb18 hI5
    by_cases h3 : op = 3
    ·have e3 : (op == 3) = true:=by simp [h3]
     go_wp2_with fail
     obtain ⟨WF,hWF⟩ : ∃ WF,WF = W5.setCell ⟨w.heap.size + 2,0,none⟩ (.func (.func 84) #[] #[.pointer (some ⟨w.heap.size + 3,0,none⟩),.pointer (some ⟨wE.heap.size + 1,0,none⟩)]):=⟨_,rfl⟩
     try rw [← hWF]
     obtain ⟨hnode,hblk,hmk,hbe⟩:=HI5.out.node (.func (.func 84) #[] #[.pointer (some ⟨w.heap.size + 3,0,none⟩),.pointer (some ⟨wE.heap.size + 1,0,none⟩)])
     have hfr : Frm 168 W5 WF:=by rw [hWF];exact frm_set HI5.out.q _
     rw [← hWF] at hnode hblk hmk hbe
     refine bodyPost_ret (v:=.tuple #[.pointer (some ⟨w.heap.size + 2,0,none⟩),.bool true]) (by simp [results,Tryz.results64,go_sem]) rfl ?_
     refine ⟨hbe,.inr ⟨⟨acc.size,acc.marks,fun ρ=>acc.φs.all fun φ=>φ ρ⟩,w.heap.size + 2,.func (.func 84) #[] #[.pointer (some ⟨w.heap.size + 3,0,none⟩),.pointer (some ⟨wE.heap.size + 1,0,none⟩)],w.heap.size + 1,lm,?_,rfl,⟨hblk,node_all hnode (hfr.cells HB18.out (by decide)) (by omega),Nat.le_refl _,⟨Nat.le_add_right _ _,heap_lt hblk,Nat.le_add_right _ _,heap_lt hmk.map⟩,hmk⟩⟩⟩
     rw [HASK.out];unfold closeQ;rw [if_neg (by simpa using hb2),if_pos h3]
    have e3 : (op == 3) = false:=by simp [h3]
    by_cases h4 : op = 4
    ·have e4 : (op == 4) = true:=by simp [h4]
     go_wp2_with fail
     obtain ⟨WF,hWF⟩ : ∃ WF,WF = W5.setCell ⟨w.heap.size + 2,0,none⟩ (.func (.func 87) #[] #[.pointer (some ⟨w.heap.size + 3,0,none⟩),.pointer (some ⟨wE.heap.size,0,none⟩)]):=⟨_,rfl⟩
     try rw [← hWF]
     obtain ⟨hnode,hblk,hmk,hbe⟩:=HI5.out.node (.func (.func 87) #[] #[.pointer (some ⟨w.heap.size + 3,0,none⟩),.pointer (some ⟨wE.heap.size,0,none⟩)])
     have hfr : Frm 168 W5 WF:=by rw [hWF];exact frm_set HI5.out.q _
     rw [← hWF] at hnode hblk hmk hbe
     refine bodyPost_ret (v:=.tuple #[.pointer (some ⟨w.heap.size + 2,0,none⟩),.bool true]) (by simp [results,Tryz.results64,go_sem]) rfl ?_
     refine ⟨hbe,.inr ⟨⟨acc.size,acc.marks,fun ρ=>acc.φs.any fun φ=>φ ρ⟩,w.heap.size + 2,.func (.func 87) #[] #[.pointer (some ⟨w.heap.size + 3,0,none⟩),.pointer (some ⟨wE.heap.size,0,none⟩)],w.heap.size + 1,lm,?_,rfl,⟨hblk,node_any hnode (hfr.cells HB17.out (by decide)) (by omega),Nat.le_refl _,⟨Nat.le_add_right _ _,heap_lt hblk,Nat.le_add_right _ _,heap_lt hmk.map⟩,hmk⟩⟩⟩
     rw [HASK.out];unfold closeQ;rw [if_neg (by simpa using hb2),if_neg h3,if_pos h4]
    have e4 : (op == 4) = false:=by simp [h4]
    go_wp2_with fail
    refine bodyPost_ret (v:=.tuple #[.pointer none,.bool false]) (by simp [results,Tryz.results64,go_sem]) rfl ?_
    refine ⟨HI5.out.below,.inl ⟨?_,_,rfl⟩⟩
    rw [HASK.out];unfold closeQ;rw [if_neg (by simpa using hb2),if_neg h3,if_neg h4]
 | true=>
  have hk1':=hk1 rfl
  go_upto_region 16 with fail
  rw [← hW2]
  clear hW2 hs3 hk1 c0 c1 c2 c3 c4 c5
  go_wp2_with fail
  go_loopw [121] (fun i wr=>∃ (j M : Nat) (acc : Acc) (tvs : List Value) (tsv : Value) (lm : List (Nat × Value)),j ≤ kids.length ∧ i = .int .i64 j ∧ askL R (kids.take j) ⟨1,fun _=>none,[]⟩ = some acc ∧ AskI w.heap.size M w R #[.int .u8 op,.string ⟨#[]⟩,.slice sp 0 scap,.int .i64 0,.int .i64 0,.slice kp kids.length kcap] acc.size acc.marks acc.φs tvs tsv lm wr) (fun i _=>kids.length - (intOf i).toNat)
  case atStart=>exact ⟨0,_,⟨1,fun _=>none,[]⟩,[],_,[],Nat.zero_le _,rfl,by rw [List.take_zero,askL],HI0.out⟩
  case round=>
   obtain ⟨j,M,acc,tvs,tsv,lm,hj,rfl,hacc,hI⟩:=hrel
   by_cases hlt : j < kids.length
   ·obtain ⟨k,hkj⟩ : ∃ k,kids[j]? = some k:=⟨_,List.getElem?_eq_getElem hlt⟩
    obtain ⟨cs,hcj⟩ : ∃ cs,css[j]? = some cs:=⟨_,List.getElem?_eq_getElem (by rw [HLEN.out];exact hlt)⟩
    obtain ⟨yo,ya,yp,yn,yc,yl,yh,zp,zn,zc,rfl⟩:=HFORM.out cs (List.mem_of_getElem? hcj)
    have hcell : ∀ (q : Nat) (u : Value),([.int .u8 yo,.string ya,.slice yp yn yc,.int .i64 yl,.int .i64 yh,.slice zp zn zc] : List Value)[q]? = some u → ∃ b off,kp = some ⟨b,off,none⟩ ∧ w.cell? ⟨b,off + (j * 6 + q),none⟩ = some u:=fun q u hu=>by
     have hq : q < 6:=(List.getElem?_eq_some_iff.1 hu).1
     have h2:=flatten_get 6 css H6.out j q _ hcj hq
     rw [hu] at h2
     exact HKC.out _ u h2
    obtain ⟨kb,koff,rfl,hc0⟩:=hcell 0 (.int .u8 yo) rfl
    have hx : Ext w wr:=hI.below
    have hcell' : ∀ (q : Nat) (u : Value),([.int .u8 yo,.string ya,.slice yp yn yc,.int .i64 yl,.int .i64 yh,.slice zp zn zc] : List Value)[q]? = some u → wr.cell? ⟨kb,koff + (j * 6 + q),none⟩ = some u:=fun q u hu=>by
     obtain ⟨b,off,e,hc⟩:=hcell q u hu
     simp only [Option.some.injEq,Addr.mk.injEq] at e
     obtain ⟨rfl,rfl,_⟩:=e
     exact hx.cell' hc
    have g0 : wr.cell? ⟨kb,koff + j * 6,none⟩ = some (.int .u8 yo):=hcell' 0 _ rfl
    have g1 : wr.cell? ⟨kb,koff + j * 6 + 1,none⟩ = some (.string ya):=hcell' 1 _ rfl
    have g2 : wr.cell? ⟨kb,koff + j * 6 + 2,none⟩ = some (.slice yp yn yc):=hcell' 2 _ rfl
    have g3 : wr.cell? ⟨kb,koff + j * 6 + 3,none⟩ = some (.int .i64 yl):=hcell' 3 _ rfl
    have g4 : wr.cell? ⟨kb,koff + j * 6 + 4,none⟩ = some (.int .i64 yh):=hcell' 4 _ rfl
    have g5 : wr.cell? ⟨kb,koff + j * 6 + 5,none⟩ = some (.slice zp zn zc):=hcell' 5 _ rfl
    have HI:=Lib.hid hI
    have HX:=Lib.hid hx
    have HACC:=Lib.hid hacc
    have HKJ:=Lib.hid hkj
    have HCJ:=Lib.hid hcj
    clear hI hx hacc hkj hcj hcell hcell' hc0 d5
    obtain ⟨tp,tc,rfl⟩:=owns_form HI.out.rows
    go_upto_region 19 with fail
    obtain ⟨W3,hW3⟩ : ∃ W3,W3 = wr.alloc (.cells #[.int .u8 yo,.string ya,.slice yp yn yc,.int .i64 yl,.int .i64 yh,.slice zp zn zc] 29 (0,0)):=⟨_,rfl⟩
    rw [← hW3]
    have hx3 : Ext wr W3:=by rw [hW3];exact bel
    have hb12 : W3.heap[wr.heap.size]? = some (.cells #[.int .u8 yo,.string ya,.slice yp yn yc,.int .i64 yl,.int .i64 yh,.slice zp zn zc] 29 (0,0)):=by rw [hW3];simp only [heap_drawn_get,heap_drew_get,heap_setCell_get,heap_alloc_get,World.size_alloc,World.size_setCell,size_drawn,putObj_get,putObj_size];(repeat (first | rw [if_pos trivial] | rw [if_pos rfl] | rw [if_neg (by omega)] | rw [if_pos (by omega)]))
    have g0:=cell_of hb12 0
    have g1:=cell_of hb12 1
    have g2:=cell_of hb12 2
    have g3:=cell_of hb12 3
    have g4:=cell_of hb12 4
    have g5:=cell_of hb12 5
    have hszr:=HI.out.size
    have hs3' : wr.heap.size < W3.heap.size:=heap_lt hb12
    have HX3:=Lib.hid hx3
    have HXW3:=Lib.hid (HX.out.trans' hx3)
    clear hW3 hx3 hb12
    go_wp2_with fail
    refine (HIH.out j _ k W3 HCJ.out HKJ.out HXW3.out).mono ?_
    rintro e w4 ⟨hx4,hpost⟩
    have HI4:=Lib.hid (HI.out.ext (HX3.out.trans' hx4))
    have HXW4:=Lib.hid (HXW3.out.trans' hx4)
    have HX34:=Lib.hid hx4
    have hs4:=hx4.size
    have q1 : w4.cell? ⟨w.heap.size + 2,1,none⟩ = some (.int .i64 (acc.size : Int)):=cell_of HI4.out.q 1
    have htk : kids.take (j + 1) = kids.take j ++ [k]:=by rw [List.take_add_one,HKJ.out];rfl
    have hsn:=askL_snoc R (kids.take j) k ⟨1,fun _=>none,[]⟩
    rw [← htk,HACC.out] at hsn
    have HSN:=Lib.hid hsn
    clear hx4 htk hsn g0 g1 g2 g3 g4 g5
    rcases hpost with ⟨hno,v,rfl⟩ | ⟨q,qb,tv,mb,lk',hq,rfl,hQ⟩
    ·have hask : askF R (.mk op ⟨#[]⟩ [] 0 0 kids) = none:=by
      rw [askF_node hop HGOOD.out,askL_none (j:=j + 1)]
      rw [HSN.out,hno]
     have HASK:=Lib.hid hask
     clear hask hno
     go_wp2_with fail
     refine bodyPost_ret (v:=.tuple #[.pointer none,.bool false]) (by simp [results,Tryz.results64,go_sem]) rfl ?_
     exact ⟨HXW4.out,.inl ⟨HASK.out,_,rfl⟩⟩
    ·obtain ⟨hqs,hqm⟩:=askF_ok R k q hq
     have hk1000 : q.size ≤ 1000:=by
      rw [hqs]
      have hmem : k ∈ kids:=List.mem_of_getElem? HKJ.out
      have hle : ∀ l : List Exp,k ∈ l → k.nodes ≤ nodesL l:=by
       intro l
       induction l with
       | nil=>intro h;cases h
       | cons a r ih=>
        intro h
        rw [nodesL]
        rcases List.mem_cons.1 h with rfl | h
        ·omega
        ·have:=ih h;omega
      have:=hle kids hmem
      omega
     have hsn2:=HSN.out
     rw [hq] at hsn2
     have HQ:=Lib.hid hQ
     have HQM:=Lib.hid hqm
     have y1 : w4.cell? ⟨qb,1,none⟩ = some (.int .i64 (q.size : Int)):=cell_of hQ.blk 1
     clear hQ hqm hqs hq
     by_cases h30 : acc.size ≤ 30
     rotate_left
     ·have hask : askF R (.mk op ⟨#[]⟩ [] 0 0 kids) = none:=by
       rw [askF_node hop HGOOD.out,askL_none (j:=j + 1)]
       rw [hsn2]
       exact if_neg h30
      have HASK:=Lib.hid hask
      have h30' : (30 : Int) < (acc.size : Int):=by omega
      clear hask hsn2
      go_wp2_with fail
      refine bodyPost_ret (v:=.tuple #[.pointer none,.bool false]) (by simp [results,Tryz.results64,go_sem]) rfl ?_
      exact ⟨HXW4.out,.inl ⟨HASK.out,_,rfl⟩⟩
     ·have h30' : ¬ (30 : Int) < (acc.size : Int):=by omega
      have hsn3 : askL R (kids.take (j + 1)) ⟨1,fun _=>none,[]⟩ = some ⟨acc.size + q.size,mergeM acc.marks q.marks,acc.φs ++ [q.φ]⟩:=hsn2.trans (if_pos h30)
      have HSN2:=Lib.hid hsn3
      have HWR:=Lib.hid (show IntKind.i64.wrap ((acc.size : Int) + (q.size : Int)) = ((acc.size + q.size : Nat) : Int) by rw [wrap_id (by omega) (by omega)];rfl)
      clear hsn2 hsn3
      go_upto_region 22 with fail
      clear q1 y1 h30'
      refine Rt.wp_region_rt (by kernel_rfl) [0,1,2,3,4,5,6,7,8,9,10,11] [11] [0,0,0,0,0,0,0,0,0,0,0] [0,1,3,7,0,16,48,112,255,511,1023,2047] (by kernel_rfl) (UpI w4 (fun W=>∃ Wp,Ext w4 Wp ∧ W = Wp.setCell ⟨w.heap.size + 2,1,none⟩ (.int .i64 ((acc.size + q.size : Nat) : Int)))) ?_ ?_
      ·exact (below_drawn (ext_refl _) _ : Ext _ _)
      iterate 3 (refine Rt.rs_sil rfl rfl rfl (fun K hK=>?_);go_simp;refine hK _ ?_;clear hK K)
      (refine Rt.rs_rd rfl rfl rfl ?_;apply Exists.intro;refine ⟨fun us' W hp hl hI=>?_,?_⟩;· (have hE:=hI.pre hl;have g1 : W.cell? ⟨w.heap.size + 2,1,none⟩ = some (.int .i64 (acc.size : Int)):=cell_of (hE.obj HI4.out.q) 1;go_simp;rfl));simp only [Act.put,zA,zB,zC,zD,zE,zF]
      iterate 3 (refine Rt.rs_sil rfl rfl rfl (fun K hK=>?_);go_simp;refine hK _ ?_;clear hK K)
      (refine Rt.rs_rd rfl rfl rfl ?_;apply Exists.intro;refine ⟨fun us' W hp hl hI=>?_,?_⟩;· (have hE:=hI.pre hl;have g1 : W.cell? ⟨qb,1,none⟩ = some (.int .i64 (q.size : Int)):=cell_of (hE.obj HQ.out.blk) 1;go_simp;rfl));simp only [Act.put,zA,zB,zC,zD,zE,zF]
      iterate 3 (refine Rt.rs_sil rfl rfl rfl (fun K hK=>?_);go_simp;refine hK _ ?_;clear hK K)
      refine Rt.rs_eff rfl rfl rfl (fun W hI=>?_) (fun v hv=>?_)
      ·have hE:=hI.pre (Nat.le_refl _)
       have hb:=hE.obj HI4.out.q
       have g1:=cell_of hb 1
       have g2:=frozen_of hb 1
       refine Rt.gives_skp ?_
       apply Exists.intro
       refine ⟨by go_simp;rfl,?_⟩
       exact ⟨W,hE,by rw [HWR.out]⟩
      clear hv
      simp only [Act.put,zA,zB,zC,zD,zE,zF]
      refine Rt.rs_nil (fun w5 hI=>?_)
      obtain ⟨Wp,hxp,hw5⟩:=hI
      have hI5:=(HI4.out.ext hxp).sizeStep (acc.size + q.size)
      rw [← hw5] at hI5
      have hkid5 : Btw W3.heap.size w4.heap.size w4 w5:=by
       rw [hw5]
       exact ⟨by rw [World.size_setCell];exact hxp.size,fun b h1 h2=>by rw [heap_setCell_get,if_neg (by omega)];exact hxp.block b h2⟩
      have hs5 : w4.heap.size ≤ w5.heap.size:=hkid5.1
      have hqb5 : w5.heap[qb]? = some (.cells #[tv,.int .i64 (q.size : Int),.map (some mb)] 168 (0,0)):=(hkid5.2 qb HQ.out.bk.1 HQ.out.bk.2.1).trans HQ.out.blk
      have htest5:=HQ.out.test.move hkid5
      obtain ⟨tg,tlb,rfl,hten⟩ : ∃ g lb,tv = .func (.func g) #[] lb ∧ True:=let ⟨g,lb,h,_⟩:=htest5;⟨g,lb,h,trivial⟩
      clear hten
      have HI5:=Lib.hid hI5
      have HKID5:=Lib.hid hkid5
      have HQB5:=Lib.hid hqb5
      have HTEST5:=Lib.hid htest5
      have htl : tvs.length ≤ 1000:=by
       have h1:=HI5.out.len
       have h2 : ∀ (l : List Exp) (a b : Acc),askL R l a = some b → b.φs.length = a.φs.length + l.length:=by
        intro l
        induction l with
        | nil=>intro a b h;rw [askL] at h;simp only [Option.some.injEq] at h;subst h;rfl
        | cons x r ih=>
         intro a b h
         rw [askL] at h
         cases hx : askF R x with
         | none=>rw [hx] at h;cases h
         | some qq=>
          rw [hx] at h
          simp only at h
          split at h
          ·have:=ih _ b h
           simp at this ⊢
           omega
          ·cases h
       have h3:=h2 _ _ _ HACC.out
       have h4 : ∀ l : List Exp,l.length ≤ nodesL l:=by
        intro l
        induction l with
        | nil=>exact Nat.le_refl _
        | cons x r ih=>
         rw [nodesL,List.length_cons]
         have : 1 ≤ x.nodes:=by cases x;rw [Exp.nodes];omega
         omega
       have h5:=h4 kids
       rw [h1,h3]
       simp only [List.length_nil,List.length_take]
       omega
      clear hxp hw5 hI5 hkid5 hqb5 htest5
      go_upto_region 23 with fail
      refine Rt.wp_region_rt (by kernel_rfl) [0,1,2,3,4,5,6,7] [5,6,7] [1,0,0,0,0] [0,0,2,6,14,30,63,127] (by kernel_rfl) (TapI w5 w.heap.size (.slice tp tvs.length tc) tvs (.func (.func tg) #[] tlb)) ?_ ?_
      ·exact (below_drawn (ext_refl _) _ : Ext _ _)
      (refine Rt.rs_rd rfl rfl rfl ?_;apply Exists.intro;refine ⟨fun us' W hp hl hI=>?_,?_⟩;· (have hE:=hI.pre hl;have g1 : W.cell? ⟨w.heap.size + 3,0,none⟩ = some (.slice tp tvs.length tc):=cell_of (hE.obj HI5.out.t10) 0;go_simp;rfl));simp only [Act.put,zA,zB,zC,zD,zE,zF]
      iterate 3 (refine Rt.rs_sil rfl rfl rfl (fun K hK=>?_);go_simp;refine hK _ ?_;clear hK K)
      (refine Rt.rs_rd rfl rfl rfl ?_;apply Exists.intro;refine ⟨fun us' W hp hl hI=>?_,?_⟩;· (have hE:=hI.pre (Nat.le_trans hl (by decide));have g1 : W.cell? ⟨qb,0,none⟩ = some (.func (.func tg) #[] tlb):=cell_of (hE.obj HQB5.out) 0;go_simp;rfl));simp only [Act.put,zA,zB,zC,zD,zE,zF]
      refine Rt.rs_eff rfl rfl rfl (fun W hI=>?_) (fun v hv=>?_)
      ·have hE:=hI.pre (Nat.zero_le _)
       refine Rt.gives_val ?_
       apply Exists.intro
       apply Exists.intro
       refine ⟨by go_simp;exact ⟨rfl,rfl⟩,?_⟩
       refine ⟨_,rfl,?_,?_⟩
       ·simp only [heap_drawn_get,heap_drew_get,heap_setCell_get,heap_alloc_get,World.size_alloc,World.size_setCell,size_drawn,putObj_get,putObj_size];(repeat (first | rw [if_pos trivial] | rw [if_pos rfl] | rw [if_neg (by omega)] | rw [if_pos (by omega)]))
       ·exact hE.trans' (by exact bel)
      obtain ⟨ab,rfl⟩ : ∃ ab,v = .slice (some ⟨ab,0,none⟩) 1 1:=let ⟨W,hI⟩:=hv;let ⟨ab,h,_⟩:=hI;⟨ab,h⟩
      clear hv
      simp only [Act.put,zA,zB,zC,zD,zE,zF]
      refine Rt.rs_eff rfl rfl rfl (fun W hI=>?_) (fun v hv=>?_)
      ·obtain ⟨ab',e,hc,hE⟩:=hI
       simp only [Value.slice.injEq,Option.some.injEq,Addr.mk.injEq,and_true] at e
       subst e
       have hW:=HI5.out.ext hE
       obtain ⟨v',w',q1,q2,q3,q4⟩:=append_tests (row:=[.func (.func tg) #[] tlb]) hW.rows ab 1 rfl (fun j u hj=>by rw [Nat.zero_add,cell_of hc j,List.getElem?_toArray];exact hj) (fun u hu=>by simp at hu;subst hu;rfl) (by omega) hW.size 1
       exact gives_append_run _ _ 183 rfl rfl rfl q1 ⟨W,hE,q3,q2,q4⟩
      obtain ⟨tp',tc',rfl⟩ : ∃ p c,v = .slice p (tvs.length + 1) c:=let ⟨W,hI⟩:=hv;let ⟨_,_,_,hr,_⟩:=hI;owns_form hr
      clear hv
      simp only [Act.put,zA,zB,zC,zD,zE,zF]
      refine Rt.rs_eff rfl rfl rfl (fun W hI=>?_) (fun v hv=>?_)
      ·obtain ⟨W0,hE,hg,hr,hat⟩:=hI
       have hW:=HI5.out.ext hE
       have hb:=(frm_grown hW.rows hg).cells hW.t10 (by decide)
       have g1:=cell_of hb 0
       have g2:=frozen_of hb 0
       refine Rt.gives_skp ?_
       apply Exists.intro
       refine ⟨by go_simp;rfl,?_⟩
       exact ⟨W0,W,hE,hg,hr,hat,rfl⟩
      clear hv
      simp only [Act.put,zA,zB,zC,zD,zE,zF]
      refine Rt.rs_nil (fun w6 hI=>?_)
      obtain ⟨Wa,Wb,hxa,hga,hra,hata,hw6⟩:=hI
      have hIa:=HI5.out.ext hxa
      have hsa:=hxa.size
      have hbelowW3 : ∀ g,(Value.slice tp tvs.length tc).ownBlock = some g → g < W3.heap.size ∨ w4.heap.size ≤ g:=fun g hgg=>by
       have:=(HI.out.rows.lt g hgg).2
       omega
      have hlmlt : ∀ c v g,look lm c = some v → v.ownBlock = some g → g < W3.heap.size ∨ w4.heap.size ≤ g:=fun c v g hv hgg=>by
       obtain ⟨l',_,h2⟩:=HI.out.marks.some_ c v hv
       have:=(h2.lt g hgg).2
       omega
      obtain ⟨hI6,hb6⟩:=hIa.testStep (φ:=q.φ) hga hra hata (by omega) (by omega) (HTEST5.out.move (btw_ext hs5 hxa)) hbelowW3 hlmlt
      rw [← hw6] at hI6
      have hkid6 : Btw W3.heap.size w4.heap.size w4 w6:=by
       refine (HKID5.out.trans (btw_ext hs5 hxa)).trans ?_
       rw [hw6]
       refine ⟨by rw [World.size_setCell];have:=hga.size;omega,fun b h1 h2=>?_⟩
       rw [heap_setCell_get,if_neg (by omega)]
       refine hga.block b (by omega) (fun e=>?_)
       rcases hbelowW3 b e.symm with e | e <;> omega
      have hs6 : Wa.heap.size ≤ w6.heap.size:=by rw [hw6,World.size_setCell];exact hga.size
      have hqb6 : w6.heap[qb]? = some (.cells #[.func (.func tg) #[] tlb,.int .i64 (q.size : Int),.map (some mb)] 168 (0,0)):=(hkid6.2 qb HQ.out.bk.1 HQ.out.bk.2.1).trans HQ.out.blk
      have y2 : w6.cell? ⟨qb,2,none⟩ = some (.map (some mb)):=cell_of hqb6 2
      have hmk6:=HQ.out.marks.btw ⟨HQ.out.bk.2.2.1,HQ.out.bk.2.2.2⟩ (Nat.le_refl _) hkid6
      have hrg:=range_law (T:=166) (K:=101) (E:=35) (by kernel_rfl) hmk6.map
      obtain ⟨w7,hw7⟩ : ∃ w7,w7 = w6.alloc (.mapIter (some mb) lk'.length #[] lk'.length):=⟨_,rfl⟩
      rw [← hw7] at hrg
      have hx7 : Ext w6 w7:=by rw [hw7];exact bel
      have hit7 : IterAt w7 w6.heap.size mb lk'.length []:=by unfold IterAt;rw [hw7];simp only [heap_drawn_get,heap_drew_get,heap_setCell_get,heap_alloc_get,World.size_alloc,World.size_setCell,size_drawn,putObj_get,putObj_size];(repeat (first | rw [if_pos trivial] | rw [if_pos rfl] | rw [if_neg (by omega)] | rw [if_pos (by omega)]))
      have HI7:=Lib.hid (hI6.ext hx7)
      have HKID7:=Lib.hid (hkid6.trans (btw_ext (by have:=hkid6.1;omega) hx7))
      have HIT7:=Lib.hid hit7
      have HLM:=Lib.hid hlmlt
      have hM6 : Wa.heap.size ≤ w6.heap.size:=hs6
      have hlit : w4.heap.size ≤ w6.heap.size:=hkid6.1
      clear hxa hga hra hata hw6 hIa hI6 hb6 hkid6 hqb6 hmk6 hw7 hx7 hit7 hbelowW3 hlmlt hs6
      go_wp2_with fail
      go_loopw [15,16] (fun _ _ wr=>∃ (seen : List Nat) (lm2 : List (Nat × Value)),AskI w.heap.size Wa.heap.size w R #[.int .u8 op,.string ⟨#[]⟩,.slice sp 0 scap,.int .i64 0,.int .i64 0,.slice (some ⟨kb,koff,none⟩) kids.length kcap] (acc.size + q.size) (mseen acc.marks q.marks lk' seen) (acc.φs ++ [q.φ]) (tvs ++ [.func (.func tg) #[] tlb]) (.slice tp' (tvs.length + 1) tc') lm2 wr ∧ Btw W3.heap.size w4.heap.size w4 wr ∧ IterAt wr w6.heap.size mb lk'.length seen ∧ seen.Nodup ∧ (∀ j ∈ seen,j < lk'.length) ∧ (∀ c v g,look lm2 c = some v → v.ownBlock = some g → g < W3.heap.size ∨ w4.heap.size ≤ g)) (fun _ _ wr=>lk'.length - (wr.iterSeen w6.heap.size).size)
      case atStart=>exact ⟨[],lm,HI7.out,HKID7.out,HIT7.out,List.nodup_nil,fun j h=>(by cases h),HLM.out⟩
      case round=>
       obtain ⟨seen,lm2,hA,hB,hit,hnd,hfew,hlow⟩:=hrel
       have hmkr:=HQ.out.marks.btw ⟨HQ.out.bk.2.2.1,HQ.out.bk.2.2.2⟩ (Nat.le_refl _) hB
       rcases next_law hmkr.map hit 0 with ⟨hall,hn⟩ | ⟨i,c,v,hl,hni,w1,hw1,hn⟩
       ·have hn' : ∀ ty,(Instr.next (.pointer (some ⟨w6.heap.size,0,none⟩)) false ty).run Tryz.prog wr = _:=fun ty=>hn
        rw [mseen_done hmkr.none_ hall] at hA
        have HA:=Lib.hid hA
        clear hA hB hit hnd hfew hlow hmkr hall hn hrg y2
        go_wp2_with fail
        exact ⟨⟨j + 1,_,_,_,_,lm2,by omega,rfl,HSN2.out,HA.out⟩,by simp [intOf];omega⟩
       ·have hil : i < lk'.length:=(List.getElem?_eq_some_iff.1 hl).1
        have hlt2:=seen_lt hnd hfew hil hni
        obtain ⟨WN,hWN⟩ : ∃ WN,WN = w1.putObj w6.heap.size (.mapIter (some mb) lk'.length (seen ++ [i]).toArray lk'.length):=⟨_,rfl⟩
        rw [← hWN] at hn
        have hn' : ∀ ty,(Instr.next (.pointer (some ⟨w6.heap.size,0,none⟩)) false ty).run Tryz.prog wr = .ok (.tuple #[.bool true,.pointer (some ⟨c,0,none⟩),v]) WN:=fun ty=>hn
        have hits : wr.iterSeen w6.heap.size = seen.toArray:=by
         unfold IterAt at hit
         unfold World.iterSeen
         rw [hit]
        have hitl : w6.heap.size < wr.heap.size:=heap_lt hit
        have hx1 : Ext wr w1:=by
         rcases hw1 with rfl | rfl
         ·exact ext_refl _
         ·exact bel
        have hh1 : w1.heap.size = wr.heap.size:=by rcases hw1 with rfl | rfl <;> rfl
        have hit1:=hx1.obj hit
        have hA2:=(hA.ext hx1).put (o':=.mapIter (some mb) lk'.length (seen ++ [i]).toArray lk'.length) (by omega) hit1 (by simp) hM6
        rw [← hWN] at hA2
        have hit2 : IterAt WN w6.heap.size mb lk'.length (seen ++ [i]):=by unfold IterAt;rw [hWN,putObj_get,if_pos rfl,if_pos (by omega)]
        have hB2 : Btw W3.heap.size w4.heap.size w4 WN:=by
         refine (hB.trans (btw_ext hB.1 hx1)).trans ?_
         rw [hWN]
         exact ⟨by rw [putObj_size];have:=hB.1;omega,fun b h1 h2=>by rw [putObj_get,if_neg (by omega)]⟩
        have hmk2:=HQ.out.marks.btw ⟨HQ.out.bk.2.2.1,HQ.out.bk.2.2.2⟩ (Nat.le_refl _) hB2
        have hent : (Instr.entry (.pointer (some ⟨w6.heap.size,0,none⟩))).run Tryz.prog WN = .ok (.tuple #[.pointer (some ⟨c,0,none⟩),v]) WN:=entry_law (enc:=encP) hmk2.map hit2 hl
        have hlk : look lk' c = some v:=look_mem hmk2.nodup (List.mem_of_getElem? hl)
        obtain ⟨l,hνc,hrowv⟩:=hmk2.some_ c v hlk
        obtain ⟨a,hcm⟩:=hmk2.cols (c,v) (List.mem_of_getElem? hl)
        obtain ⟨hms1,hms2⟩:=mseen_snoc (μ:=acc.marks) hmk2.nodup hl hni hνc
        have hl1 : l.length ≤ 2000:=by have:=HQM.out c l hνc;omega
        have hμ1 : ((mseen acc.marks q.marks lk' seen c).getD []).length ≤ 2000:=by
         rw [hms1]
         obtain ⟨_,hsh⟩:=askL_ok R _ _ _ HACC.out
         have hsh:=hsh (fun c l h=>by cases h)
         cases hac : acc.marks c with
         | none=>simp
         | some x=>have:=hsh c x hac;simp only [Option.getD_some];omega
        obtain ⟨vp,vc,rfl⟩:=owns_form hrowv
        obtain ⟨μc,hμc⟩ : ∃ μc,mseen acc.marks q.marks lk' seen = μc:=⟨_,rfl⟩
        rw [hμc] at hA2 hμ1 hms2
        obtain ⟨old,hold⟩ : ∃ old,(look lm2 c).getD (.slice none 0 0) = old:=⟨_,rfl⟩
        have hrowo:=hA2.marks.rowOld c
        rw [hold] at hrowo
        have hlowo : ∀ g,old.ownBlock = some g → g < W3.heap.size ∨ w4.heap.size ≤ g:=fun g hgg=>by
         rw [← hold] at hgg
         cases hq : look lm2 c with
         | none=>rw [hq] at hgg;cases hgg
         | some u=>rw [hq] at hgg;exact hlow c u g hq hgg
        have HA2:=Lib.hid hA2
        have HIT2:=Lib.hid hit2
        have HB2:=Lib.hid hB2
        have HITS:=Lib.hid hits
        have HCM:=Lib.hid hcm
        have HMS2:=Lib.hid hms2
        have HOLD:=Lib.hid hold
        have HROWO:=Lib.hid hrowo
        have HROWV:=Lib.hid hrowv
        have HLOWO:=Lib.hid hlowo
        have HLOW:=Lib.hid hlow
        have HNI:=Lib.hid hni
        have HND:=Lib.hid hnd
        have HFEW:=Lib.hid hfew
        have hs7 : w4.heap.size ≤ WN.heap.size:=hB2.1
        clear hA hB hit hnd hfew hlow hmkr hn hrg y2 hits hx1 hh1 hit1 hA2 hit2 hB2 hmk2 hlk hνc hrowv hcm hms1 hms2 hold hrowo hlowo hWN hw1 hμc hl hni
        go_upto_region 27 with fail
        clear hn' hent
        refine Rt.wp_region_rt (by kernel_rfl) [0,1,2,3,4,5,6,7,8,9,10,11,12,13] [12,13] [1,1,1,1,1,0,0,0,0,0,0,0] [0,1,3,7,0,0,32,96,224,0,992,0,4064,8191] (by kernel_rfl) (MkI WN w.heap.size old ((μc c).getD []).length (((μc c).getD []).map (Value.int .i64)) (l.map (Value.int .i64)) l.length (fun W=>∃ lm3,AskI w.heap.size Wa.heap.size w R #[.int .u8 op,.string ⟨#[]⟩,.slice sp 0 scap,.int .i64 0,.int .i64 0,.slice (some ⟨kb,koff,none⟩) kids.length kcap] (acc.size + q.size) (fun c'=>if c' = c then some ((μc c).getD [] ++ l) else μc c') (acc.φs ++ [q.φ]) (tvs ++ [.func (.func tg) #[] tlb]) (.slice tp' (tvs.length + 1) tc') lm3 W ∧ Btw W3.heap.size w4.heap.size w4 W ∧ IterAt W w6.heap.size mb lk'.length (seen ++ [i]) ∧ (∀ c v g,look lm3 c = some v → v.ownBlock = some g → g < W3.heap.size ∨ w4.heap.size ≤ g))) ?_ ?_
        ·exact (below_drawn (ext_refl _) _ : Ext _ _)
        iterate 3 (refine Rt.rs_sil rfl rfl rfl (fun K hK=>?_);go_simp;refine hK _ ?_;clear hK K)
        (refine Rt.rs_rd rfl rfl rfl ?_;apply Exists.intro;refine ⟨fun us' W hp hl hI=>?_,?_⟩;· (have hk:=hI.keep hl HROWO.out HA2.out.q (by simp);have g1 : W.cell? ⟨w.heap.size + 2,2,none⟩ = some (.map (some (w.heap.size + 1))):=cell_of hk 2;go_simp;rfl));simp only [Act.put,zA,zB,zC,zD,zE,zF]
        iterate 4 (refine Rt.rs_sil rfl rfl rfl (fun K hK=>?_);go_simp;refine hK _ ?_;clear hK K)
        (refine Rt.rs_rd rfl rfl rfl ?_;apply Exists.intro;refine ⟨fun us' W hp hl hI=>?_,?_⟩;· (have hE:=hI.pre hl;have g1 : W.cell? ⟨w.heap.size + 2,2,none⟩ = some (.map (some (w.heap.size + 1))):=cell_of (hE.obj HA2.out.q) 2;go_simp;rfl));simp only [Act.put,zA,zB,zC,zD,zE,zF]
        (refine Rt.rs_sil rfl rfl rfl (fun K hK=>?_);go_simp;refine hK _ ?_;clear hK K)
        (refine Rt.rs_rd rfl rfl rfl ?_;apply Exists.intro;refine ⟨fun us' W hp hl hI=>?_,?_⟩;· (have hE:=hI.pre hl;have hco:=HCO.out W (HA2.out.ext hE).below;have hq0:=run_lookup1 (P:=Tryz.prog) (T:=166) (K:=101) (E:=35) (z:=.slice none 0 0) (k:=c) (by kernel_rfl) (HA2.out.ext hE).marks.map (finds_ptr W lm2 c (hco (a,c) HCM.out) (fun x hx=>let ⟨a',ha'⟩:=(HA2.out.ext hE).marks.cols x hx;hco (a',x.1) ha')) (by kernel_rfl);rw [HOLD.out] at hq0;replace hq0 : (Instr.lookup 166 (.map (some (w.heap.size + 1))) (.pointer (some ⟨c,0,none⟩)) false).run Tryz.prog W = _:=hq0;go_simp;rfl));simp only [Act.put,zA,zB,zC,zD,zE,zF]
        (refine Rt.rs_sil rfl rfl rfl (fun K hK=>?_);go_simp;refine hK _ ?_;clear hK K)
        refine Rt.rs_eff rfl rfl rfl (fun W hI=>?_) (fun v hv=>?_)
        ·have hE:=hI.pre (Nat.le_refl _)
         have hW:=HA2.out.ext hE
         have hown : W.ownsRow w.heap.size 3 1 old ((μc c).getD []).length (((μc c).getD []).map (Value.int .i64)):=owns_keep HROWO.out fun g _ _ hgg=>hE.block g (heap_lt hgg)
         have hu : W.ownsRow W3.heap.size 3 1 (.slice vp l.length vc) l.length (l.map (Value.int .i64)):=owns_keep HROWV.out fun g _ _ hgg=>hE.block g (heap_lt hgg)
         obtain ⟨v',w',q1,q2,q3,q4⟩:=append_marks hown hu (one_ints l) (by omega) (by have:=hW.size;omega)
         exact gives_append_run _ _ 35 rfl rfl rfl q1 ⟨W,hE,q3,q2,q4⟩
        obtain ⟨np,nc,rfl⟩ : ∃ p c',v = .slice p (((μc c).getD []).length + l.length) c':=let ⟨W,hI⟩:=hv;let ⟨_,_,_,hr,_⟩:=hI;owns_form hr
        clear hv
        simp only [Act.put,zA,zB,zC,zD,zE,zF]
        refine Rt.rs_eff rfl rfl rfl (fun W hI=>?_) (fun v hv=>?_)
        ·obtain ⟨W0,hE,hg,hr,hat⟩:=hI
         have hW:=HA2.out.ext hE
         have hg':=hg
         have hat':=hat
         rw [← HOLD.out] at hg' hat'
         obtain ⟨hA3,hmap⟩:=hW.markStep c HCM.out l hg' hr hat'
         have hown : W0.ownsRow w.heap.size 3 1 old _ _:=owns_keep HROWO.out fun g _ _ hgg=>hE.block g (heap_lt hgg)
         have hwW : Below w.heap.size w W:=hW.below.grown hg (by have:=hW.size;omega) fun k hk=>(owns_block hown hk).1
         have hco:=HCO.out W hwW
         have hup:=run_mapUpdate (P:=Tryz.prog) (T:=166) (K:=101) (E:=35) (k:=c) (v:=.slice np (((μc c).getD []).length + l.length) nc) (by kernel_rfl) hmap (finds_ptr W lm2 c (hco (a,c) HCM.out) (fun x hx=>let ⟨a',ha'⟩:=hW.marks.cols x hx;hco (a',x.1) ha'))
         replace hup : (Instr.mapUpdate 166 (.map (some (w.heap.size + 1))) (.pointer (some ⟨c,0,none⟩)) (.slice np (((μc c).getD []).length + l.length) nc)).run Tryz.prog W = _:=hup
         refine Rt.gives_skp ?_
         apply Exists.intro
         refine ⟨by go_simp;rfl,?_⟩
         have hm':=hmap
         unfold MapIs at hm'
         refine ⟨_,hA3,?_,?_,?_⟩
         ·refine (HB2.out.trans (btw_ext hs7 hE)).trans ⟨by unfold wput;rw [putObj_size];have h1:=hE.size;have h2:=hg.size;omega,fun b h1 h2=>?_⟩
          unfold wput
          rw [putObj_get,if_neg (by omega)]
          refine hg.block b (by have:=hE.size;omega) (fun e=>?_)
          rcases HLOWO.out b e.symm with e | e <;> omega
         ·have hq:=(frm_grown hown hg) _ _ (hE.obj HIT2.out) (by simp)
          exact (show (wput encP W (w.heap.size + 1) _).heap[w6.heap.size]? = _ by unfold wput;rw [putObj_get,if_neg (by omega)];exact hq)
         ·intro c' u g hu hgg
          rw [lookNat_set] at hu
          split at hu
          ·obtain rfl:=Option.some.inj hu
           rcases hat with e | e
           ·exact HLOWO.out g (by rw [← e];exact hgg)
           ·rw [e] at hgg
            obtain rfl:=Option.some.inj hgg
            right;have:=hE.size;omega
          ·exact HLOW.out c' u g hu hgg
        clear hv
        simp only [Act.put,zA,zB,zC,zD,zE,zF]
        refine Rt.rs_nil (fun W4 hI=>?_)
        obtain ⟨lm3,hA4,hB4,hit4,hlow4⟩:=hI
        rw [← HMS2.out] at hA4
        have HA4:=Lib.hid hA4
        have HB4:=Lib.hid hB4
        have HIT4:=Lib.hid hit4
        have HLOW4:=Lib.hid hlow4
        clear hA4 hB4 hit4 hlow4
        go_wp2_with fail
        refine ⟨⟨seen ++ [i],lm3,HA4.out,HB4.out,HIT4.out,?_,?_,HLOW4.out⟩,?_⟩
        ·rw [List.nodup_append]
         exact ⟨HND.out,by simp,fun x hx y hy=>by rw [List.mem_singleton.1 hy];rintro rfl;exact HNI.out hx⟩
        ·intro j hj
         rcases List.mem_append.1 hj with hj | hj
         ·exact HFEW.out j hj
         ·rw [List.mem_singleton.1 hj];exact hil
        ·have e1 : W4.iterSeen w6.heap.size = (seen ++ [i]).toArray:=by
          have hq:=HIT4.out
          unfold IterAt at hq
          unfold World.iterSeen
          rw [hq]
         rw [e1,HITS.out]
         simp
         omega
   ·obtain rfl : j = kids.length:=by omega
    rw [List.take_length] at hacc
    obtain ⟨wE,rfl⟩ : ∃ wE,wE = wr:=⟨wr,rfl⟩
    have hask:=askF_node (R:=R) (lo:=0) (hi:=0) (attr:=⟨#[]⟩) (values:=[]) (kids:=kids) hop HGOOD.out
    rw [hacc] at hask
    have HASK:=Lib.hid (show askF R (.mk op ⟨#[]⟩ [] 0 0 kids) = closeQ op acc from hask)
    have HI:=Lib.hid hI
    have HACCE:=Lib.hid hacc
    clear hI hacc hask hlt hj d5
    go_upto_region 31 with fail
    obtain ⟨W5,hW5⟩ : ∃ W5,W5 = (wE.alloc (.cells #[.func (.func 80) #[] #[]] 185 (0,0))).alloc (.cells #[.func (.func 82) #[] #[]] 185 (0,0)):=⟨_,rfl⟩
    rw [← hW5]
    have hx5 : Ext wE W5:=by rw [hW5];exact bel
    have hb17 : W5.heap[wE.heap.size]? = some (.cells #[.func (.func 80) #[] #[]] 185 (0,0)):=by rw [hW5];simp only [heap_drawn_get,heap_drew_get,heap_setCell_get,heap_alloc_get,World.size_alloc,World.size_setCell,size_drawn,putObj_get,putObj_size];(repeat (first | rw [if_pos trivial] | rw [if_pos rfl] | rw [if_neg (by omega)] | rw [if_pos (by omega)]))
    have hb18 : W5.heap[wE.heap.size + 1]? = some (.cells #[.func (.func 82) #[] #[]] 185 (0,0)):=by rw [hW5];simp only [heap_drawn_get,heap_drew_get,heap_setCell_get,heap_alloc_get,World.size_alloc,World.size_setCell,size_drawn,putObj_get,putObj_size];(repeat (first | rw [if_pos trivial] | rw [if_pos rfl] | rw [if_neg (by omega)] | rw [if_pos (by omega)]))
    have hI5:=HI.out.ext hx5
    have hsE:=HI.out.size
    have o0 : W5.cell? ⟨w.heap.size,0,none⟩ = some (.int .u8 op):=cell_of hI5.b3 0
    have o1:=cell_of hI5.q 0
    have o2:=frozen_of hI5.q 0
    have HI5:=Lib.hid hI5
    have HB17:=Lib.hid hb17
    have HB18:=Lib.hid hb18
    clear hW5 hx5 hb17 hb18 hI5
    have hlen1 : kids.length = 1:=by
     rw [bne_eq_false_iff_eq] at hk1'
     omega
    obtain ⟨φ1,hφ1⟩ : ∃ φ1,acc.φs = [φ1]:=by
     have hL : askL R kids ⟨1,fun _=>none,[]⟩ = some acc:=HACCE.out
     have h1:=askL_len R kids _ _ hL
     rw [hlen1] at h1
     match acc.φs,h1 with
     | [φ],_=>exact ⟨φ,rfl⟩
    have HPHI:=Lib.hid hφ1
    clear hlen1 hφ1
    go_wp2_with fail
    obtain ⟨WF,hWF⟩ : ∃ WF,WF = W5.setCell ⟨w.heap.size + 2,0,none⟩ (.func (.func 86) #[] #[.pointer (some ⟨w.heap.size + 3,0,none⟩)]):=⟨_,rfl⟩
    rw [setCell_twice,← hWF]
    obtain ⟨hnode,hblk,hmk,hbe⟩:=HI5.out.node (.func (.func 86) #[] #[.pointer (some ⟨w.heap.size + 3,0,none⟩)])
    rw [← hWF] at hnode hblk hmk hbe
    refine bodyPost_ret (v:=.tuple #[.pointer (some ⟨w.heap.size + 2,0,none⟩),.bool true]) (by simp [results,Tryz.results64,go_sem]) rfl ?_
    refine ⟨hbe,.inr ⟨⟨acc.size,acc.marks,fun ρ=>!φ1 ρ⟩,w.heap.size + 2,.func (.func 86) #[] #[.pointer (some ⟨w.heap.size + 3,0,none⟩)],w.heap.size + 1,lm,?_,rfl,⟨hblk,node_not hnode HPHI.out,Nat.le_refl _,⟨Nat.le_add_right _ _,heap_lt hblk,Nat.le_add_right _ _,heap_lt hmk.map⟩,hmk⟩⟩⟩
    rw [HASK.out];unfold closeQ;rw [if_pos (by simpa using hb2),HPHI.out]
end Go.Proofs.YtihfcjioilmmjaaGreat
