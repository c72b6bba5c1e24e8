/- Lemmas: Commit. -/
import Derived.Test.YtihfcjioilmmjaaGreatRm1
import Derived.Test.YtihfcjioilmmjaaGreatRm3
set_option linter.all false
namespace Go.Proofs.YtihfcjioilmmjaaGreat
open Go Go.RowKit
open Go.Lib Go.Sort Go.Maps Go.Shelf Go.Proofs
set_option maxHeartbeats 4000000 in
set_option maxRecDepth 100000 in
theorem commit_try {B : Nat} {w : World} {rb : Nat} {R : Rec} {cm : Nat} {vv fv : Value} {os : List (Option Nat × Option Nat)} {xs : List (List Value)} (h : RecAt B w rb R cm vv fv os xs) (hg : Glob w) (pv av wv : Value) (ps : List Int) (hps : IntsAt w pv ps) (hpl : ps.length ≤ 1000000) (adds : List Fct) (hadds : FactsAt w av adds) (hal : adds.length ≤ 1000) (hok : ∀ f ∈ adds,f.subject.size < 4294967281 ∧ f.values.length * 16 ≤ 140737488355328) (wds : List Int) (hwds : IntsAt w wv wds) (Q : Ending → World → Prop)
  (hargs : ∀ W,Ext w W → parOk ps = false → Q (.returned (.tuple #[.int .i64 0,.int .i64 2])) W)
  (hver : ∀ W,Ext w W → parOk ps = true → (∃ p ∈ ps,hasV R p = false) → Q (.returned (.tuple #[.int .i64 0,.int .i64 110])) W)
  (hfact : ∀ W,Ext w W → parOk ps = true → (∀ p ∈ ps,hasV R p = true) → rowsF R adds = none → Q (.returned (.tuple #[.int .i64 0,.int .i64 112])) W)
  (hnone : ∀ W,Ext w W → wds ≠ [] → Q (.returned (.tuple #[.int .i64 0,.int .i64 7])) W)
  (hfull : ∀ W,Ext w W → (200 ≤ R.vers.length ∨ 300 < R.facts.length + adds.length) → Q (.returned (.tuple #[.int .i64 0,.int .i64 8])) W)
  (hdone : ∀ W frs la lw v' f' os' xs',ComOk R ps adds wds frs la lw → RecAt B W rb (commitR R frs la lw) cm v' f' os' xs' → Keep B w W → Q (.returned (.tuple #[.int .i64 (R.vers.length : Int),.int .i64 0])) W) :
  Calls Tryz.prog 12 #[encP rb,pv,av,wv] w Q:=by
 obtain ⟨a,cap,rfl,hcap,hml,hel⟩:=hps.form
 have hpv:=hps.vals
 have HPS:=Lib.hid hps
 obtain ⟨wa,wcap,rfl,hwcap,hwml,hwel⟩:=hwds.form
 have HWEL:=Lib.hid hwel
 unfold maxLen at hwml
 have HEL:=Lib.hid hel
 have HREC:=Lib.hid h
 have HPV:=Lib.hid hpv
 have HARGS:=Lib.hid hargs
 have HVER:=Lib.hid hver
 have HFACT:=Lib.hid hfact
 have HNONE7:=Lib.hid hnone
 have HFULL:=Lib.hid hfull
 have HDONE:=Lib.hid hdone
 have HOK:=Lib.hid hok
 obtain ⟨fa,fcap,rfl,hfcap,hfat⟩:=RowsAt.at (cells:=factCells) (ok:=FactAt) (k:=5) (by decide) (fun _ _=>rfl) hadds
 have hfl : adds.length ≤ maxLen:=by obtain ⟨_,_,h,_⟩:=hadds;exact h.len
 have HFAT:=Lib.hid hfat
 clear hel hwel hwds h hps hpv hfat hadds hargs hver hfact hok hnone hfull hdone
 obtain ⟨W0,hW0⟩ : ∃ W0,W0 = w.alloc (.cells #[.pointer (some ⟨rb,0,none⟩)] 41 (0,0)):=⟨_,rfl⟩
 have hx0 : Ext w W0:=by rw [hW0];exact bel
 have hb4 : W0.heap[w.heap.size]? = some (.cells #[.pointer (some ⟨rb,0,none⟩)] 41 (0,0)):=by rw [hW0];simp only [heap_drawn_get,heap_drew_get,heap_setCell_get,heap_alloc_get,World.size_alloc,World.size_setCell,size_drawn,putObj_get,putObj_size];(repeat (first | rw [if_pos trivial] | rw [if_pos rfl] | rw [if_neg (by omega)] | rw [if_pos (by omega)]))
 have c4 : W0.cell? ⟨w.heap.size,0,none⟩ = some (.pointer (some ⟨rb,0,none⟩)):=cell_of hb4 0
 unfold encP
 go_enter Tryz.func12,Tryz.ntmps12
 go_upto_region 1 with fail
 rw [← hW0]
 clear hW0
 go_wp2_with fail
 refine (values_any a ps.length cap W0).mono ?_
 rintro e w1 ⟨rfl,hw1⟩
 have hx1 : Ext W0 w1:=by rw [hw1];exact bel
 have c1 : w1.cell? ⟨W0.heap.size,0,none⟩ = some (.slice a ps.length cap):=by
  have : w1.heap[W0.heap.size]? = some (.cells #[.slice a ps.length cap] 35 (0,0)):=by rw [hw1];simp only [heap_drawn_get,heap_drew_get,heap_setCell_get,heap_alloc_get,World.size_alloc,World.size_setCell,size_drawn,putObj_get,putObj_size];(repeat (first | rw [if_pos trivial] | rw [if_pos rfl] | rw [if_neg (by omega)] | rw [if_pos (by omega)]))
  exact cell_of this 0
 have hs1 : W0.heap.size < w1.heap.size:=by rw [hw1,World.size_alloc];omega
 clear hw1
 go_wp2_with fail
 refine (sorted_vals W0.heap.size (.slice a ps.length cap) ps hpl w1 hs1 c1 (HPV.out.up (hx0.trans' hx1) (hx0.trans' hx1).size)).mono ?_
 rintro e w2 ⟨sv,rfl,hrow,hx2⟩
 have hlen : (sortedP ps).length = ps.length:=List.length_mergeSort _
 have hrow' : w2.ownsRow w1.heap.size 3 1 sv (sortedP ps).length ((sortedP ps).map (Value.int .i64)):=by rw [hlen];exact hrow
 have hcomp:=compact_any w1.heap.size sv (sortedP ps) w2 hrow' hx2.size (by omega)
 obtain ⟨sp,sc,rfl⟩:=owns_form hrow
 have HCOMP:=Lib.hid hcomp
 have hx02 : Ext w w2:=(hx0.trans' hx1).trans' hx2
 have HX:=Lib.hid hx02
 have HB4:=Lib.hid (hx2.obj (hx1.obj hb4))
 have hs02 : w.heap.size < w1.heap.size:=Nat.lt_of_lt_of_le (heap_lt hb4) hx1.size
 clear hcomp hrow hrow' hx0 hx1 hx02 hb4 c4 c1 hs1 hlen hx2
 by_cases hl1 : ps.length < 1
 ·go_wp2_with fail
  exact HARGS.out _ HX.out (by unfold parOk;rw [decide_eq_false (by omega)];rfl)
 by_cases hl4 : 4 < ps.length
 ·go_wp2_with fail
  exact HARGS.out _ HX.out (by unfold parOk;rw [decide_eq_false (p:=ps.length ≤ 4) (by omega)];simp)
 go_wp2_with fail
 refine HCOMP.out.mono ?_
 rintro e w3 ⟨ca,cc,rfl,hx3⟩
 have hxe : Ext w w3:=Below.trans HX.out (Below.mono hx3 (by omega))
 have HB3:=Lib.hid ((hx3.block w.heap.size hs02).trans HB4.out)
 have HX3:=Lib.hid hxe
 clear hxe hx3 HB4
 by_cases hnd : ps.Nodup
 rotate_left
 ·have hne : (((Lib.compact (sortedP ps)).length : Int) != (ps.length : Int)) = true:=by
   rw [bne_iff_ne]
   intro e
   exact hnd ((sortedP_len ps).1 (by omega))
  go_wp2_with fail
  exact HARGS.out _ HX3.out (by unfold parOk;rw [decide_eq_false (p:=ps.Nodup) hnd];simp)
 have hne : (((Lib.compact (sortedP ps)).length : Int) != (ps.length : Int)) = false:=by
  rw [bne_eq_false_iff_eq]
  have:=(sortedP_len ps).2 hnd
  omega
 have hpok : parOk ps = true:=by unfold parOk;rw [decide_eq_true (by omega),decide_eq_true (by omega),decide_eq_true hnd];rfl
 have HPOK:=Lib.hid hpok
 have HND:=Lib.hid hnd
 have hmm : ∀ t w,(Instr.makeMap t none).run Tryz.prog w = .ok (.map (some w.heap.size)) (w.alloc (.map #[] 0)):=fun _ _=>rfl
 go_upto_region 7 with fail
 obtain ⟨W4,hW4⟩ : ∃ W4,W4 = ((w3.alloc (.map #[] 0)).alloc (.map #[] 0)).alloc (.cells #[.map (some w3.heap.size),.map (some (w3.heap.size + 1))] 96 (0,0)):=⟨_,rfl⟩
 rw [← hW4]
 have hb3:=HB3.out
 have hx4 : Ext w3 W4:=by rw [hW4];exact bel
 have hm1 : MapIs (Value.int .i64) W4 w3.heap.size []:=by rw [hW4];unfold MapIs;simp only [heap_drawn_get,heap_drew_get,heap_setCell_get,heap_alloc_get,World.size_alloc,World.size_setCell,size_drawn,putObj_get,putObj_size];(repeat (first | rw [if_pos trivial] | rw [if_pos rfl] | rw [if_neg (by omega)] | rw [if_pos (by omega)]));rfl
 have hm2 : MapIs (Value.int .i64) W4 (w3.heap.size + 1) []:=by rw [hW4];unfold MapIs;simp only [heap_drawn_get,heap_drew_get,heap_setCell_get,heap_alloc_get,World.size_alloc,World.size_setCell,size_drawn,putObj_get,putObj_size];(repeat (first | rw [if_pos trivial] | rw [if_pos rfl] | rw [if_neg (by omega)] | rw [if_pos (by omega)]));rfl
 have hb11 : W4.heap[w3.heap.size + 1 + 1]? = some (.cells #[.map (some w3.heap.size),.map (some (w3.heap.size + 1))] 96 (0,0)):=by rw [hW4];simp only [heap_drawn_get,heap_drew_get,heap_setCell_get,heap_alloc_get,World.size_alloc,World.size_setCell,size_drawn,putObj_get,putObj_size];(repeat (first | rw [if_pos trivial] | rw [if_pos rfl] | rw [if_neg (by omega)] | rw [if_pos (by omega)]))
 have hb4:=hx4.obj hb3
 have hxw4:=HX3.out.trans' hx4
 have HX4:=Lib.hid hxw4
 have HX34:=Lib.hid hx4
 have HM1:=Lib.hid hm1
 have HM2:=Lib.hid hm2
 have HB11:=Lib.hid hb11
 have HB4:=Lib.hid hb4
 have c4 : W4.cell? ⟨w.heap.size,0,none⟩ = some (.pointer (some ⟨rb,0,none⟩)):=cell_of hb4 0
 obtain ⟨vp,vc,rfl⟩:=owns_form HREC.out.vers
 have hr1 : W4.cell? ⟨rb,1,none⟩ = some (.slice vp R.vers.length vc):=hxw4.cell' (cell_of HREC.out.blk 1)
 clear hW4 hm1 hm2 hb11 hb4 hb3 hx4 hxw4 hne hnd hpok
 go_wp2_with fail
 go_loopw [13,53] (fun _ i wr=>wr = W4 ∧ ∃ k : Nat,k ≤ ps.length ∧ i = .int .i64 k ∧ Hid (∀ p ∈ ps.take k,hasV R p = true)) (fun _ i _=>ps.length - (intOf i).toNat)
 case atStart=>exact ⟨rfl,0,Nat.zero_le _,rfl,Lib.hid (fun p hp=>by simp at hp)⟩
 case round=>
  obtain ⟨rfl,k,hk,rfl,hall⟩:=hrel
  by_cases hlt : k < ps.length
  ·obtain ⟨p,hp⟩ : ∃ p,ps[k]? = some p:=⟨_,List.getElem?_eq_getElem hlt⟩
   obtain ⟨eb,eo,rfl,hc⟩:=HEL.out k p hp
   have c0:=Ext.cell' HX4.out hc
   have HP:=Lib.hid hp
   have htk : ps.take (k + 1) = ps.take k ++ [p]:=by rw [List.take_add_one,hp];rfl
   have HTK:=Lib.hid htk
   clear hc hp htk
   go_wp2_with fail
   refine (has_any rb vp R.vers.length vc p wr hr1).mono ?_
   rintro e w5 ⟨rfl,rfl⟩
   obtain ⟨hb,hhb⟩ : ∃ b,hasV R p = b:=⟨_,rfl⟩
   have hhb' : (decide (0 ≤ p) && decide (p < (R.vers.length : Int))) = hb:=hhb
   rw [hhb']
   have HHB:=Lib.hid hhb
   clear hhb hhb'
   cases hb with
   | false=>
    go_wp2_with fail
    exact HVER.out _ HX4.out HPOK.out ⟨p,List.mem_of_getElem? HP.out,HHB.out⟩
   | true=>
    go_wp2_with fail
    refine ⟨⟨trivial,k + 1,by omega,rfl,Lib.hid ?_⟩,by simp [intOf];omega⟩
    intro q hq
    rw [HTK.out] at hq
    rcases List.mem_append.1 hq with hq | hq
    ·exact hall.out q hq
    ·rw [List.mem_singleton.1 hq];exact HHB.out
  ·obtain rfl : k = ps.length:=by omega
   rw [List.take_length] at hall
   go_upto_region 13 with fail
   obtain ⟨W5,rfl⟩ : ∃ W5,W5 = wr:=⟨wr,rfl⟩
   have hC0 : ComC w3 R ps 0 [] [] W5:=by
    refine ⟨HX34.out,HB11.out,HM1.out,HM2.out,List.nodup_nil,List.nodup_nil,fun n=>?_,fun n=>?_⟩
    ·simp [look]
    ·simp [look]
   have HC0:=Lib.hid hC0
   clear hC0 c4 hr1 hlt hk
   go_wp2_with fail
   go_loopw [15,64] (fun _ i wr=>∃ (k : Nat) (la lw : List (Int × Value)),k ≤ ps.length ∧ i = .int .i64 k ∧ ComC w3 R ps k la lw wr) (fun _ i _=>ps.length - (intOf i).toNat)
   case atStart=>exact ⟨0,[],[],Nat.zero_le _,rfl,HC0.out⟩
   case round=>
    obtain ⟨k,la,lw,hk,rfl,hC⟩:=hrel
    by_cases hlt : k < ps.length
    ·obtain ⟨p,hp⟩ : ∃ p,ps[k]? = some p:=⟨_,List.getElem?_eq_getElem hlt⟩
     obtain ⟨iv,ver,rfl,hver1,hver2⟩:=verOf_has (hall.out p (List.mem_of_getElem? hp))
     obtain ⟨eb,eo,rfl,hc⟩:=HEL.out k _ hp
     have hxr : Ext w wr:=HX3.out.trans' hC.below
     have c0:=Ext.cell' hxr hc
     obtain ⟨vb,vcap,oa,ow,hvv,_,hvc,_,ha,hd,hma,hmd⟩:=HREC.out.version hver1
     simp only [Value.slice.injEq,true_and] at hvv
     obtain ⟨rfl,rfl⟩:=hvv
     have hil : iv < R.vers.length:=(List.getElem?_eq_some_iff.1 hver1).1
     have HC:=Lib.hid hC
     have hb4r : wr.heap[w.heap.size]? = some (.cells #[.pointer (some ⟨rb,0,none⟩)] 41 (0,0)):=(hC.below.block _ (heap_lt HB3.out)).trans HB3.out
     have HB4R16:=Lib.hid hb4r
     have HXR16:=Lib.hid hxr
     have hr1 : w.cell? ⟨rb,1,none⟩ = some (.slice (some ⟨vb,0,none⟩) R.vers.length vc):=cell_of HREC.out.blk 1
     have HR1:=Lib.hid hr1
     have HA:=Lib.hid ha
     have HD:=Lib.hid hd
     have HP:=Lib.hid hp
     have HV2:=Lib.hid hver2
     have hw3 : w.heap.size ≤ w3.heap.size:=HX3.out.size
     have hoa : oa ≠ some w3.heap.size:=by
      rcases hma with ⟨rfl,_⟩ | ⟨b,rfl,hb⟩
      ·simp
      ·have:=heap_lt hb;simp;omega
     have how : ow ≠ some (w3.heap.size + 1):=by
      rcases hmd with ⟨rfl,_⟩ | ⟨b,rfl,hb⟩
      ·simp
      ·have:=heap_lt hb;simp;omega
     clear hC hxr hr1 ha hd hp hver1 hver2 hb4r hc
     go_upto_region 16 with fail
     refine Rt.wp_region_rt (by kernel_rfl) [0,1,2,3,4,5,6,7,8,9,10] [10] [0,0,0,0,0,0,0,0,0,0] [0,1,0,4,12,28,0,124,252,508,1023] (by kernel_rfl) (CpI wr w3.heap.size la ver.added) ?_ ?_
     ·exact (below_drawn (ext_refl _) _ : Ext _ _)
     (refine Rt.rs_sil rfl rfl rfl (fun K hK=>?_);go_simp;refine hK _ ?_;clear hK K)
     (refine Rt.rs_rd rfl rfl rfl ?_;apply Exists.intro;refine ⟨fun us' W hp hl hI=>?_,?_⟩;· (have hE:=CpI.pre hI hl;have c : W.cell? ⟨w3.heap.size + 1 + 1,0,none⟩ = some (.map (some (w3.heap.size))):=cell_of (hE.obj HC.out.box) 0;go_simp;rfl));simp only [Act.put,zA,zB,zC,zD,zE,zF]
     (refine Rt.rs_rd rfl rfl rfl ?_;apply Exists.intro;refine ⟨fun us' W hp hl hI=>?_,?_⟩;· (have hE:=CpI.pre hI hl;have c : W.cell? ⟨w.heap.size,0,none⟩ = some (.pointer (some ⟨rb,0,none⟩)):=cell_of (hE.obj HB4R16.out) 0;go_simp;rfl));simp only [Act.put,zA,zB,zC,zD,zE,zF]
     iterate 2 (refine Rt.rs_sil rfl rfl rfl (fun K hK=>?_);go_simp;refine hK _ ?_;clear hK K)
     (refine Rt.rs_rd rfl rfl rfl ?_;apply Exists.intro;refine ⟨fun us' W hp hl hI=>?_,?_⟩;· (have hE:=CpI.pre hI hl;have c:=Ext.cell' (HXR16.out.trans' hE) HR1.out;go_simp;rfl));simp only [Act.put,zA,zB,zC,zD,zE,zF]
     (refine Rt.rs_sil rfl rfl rfl (fun K hK=>?_);go_simp;refine hK _ ?_;clear hK K)
     (refine Rt.rs_rd rfl rfl rfl ?_;apply Exists.intro;refine ⟨fun us' W hp hl hI=>?_,?_⟩;· (skip;go_simp;rfl));simp only [Act.put,zA,zB,zC,zD,zE,zF]
     (refine Rt.rs_sil rfl rfl rfl (fun K hK=>?_);go_simp;refine hK _ ?_;clear hK K)
     (refine Rt.rs_rd rfl rfl rfl ?_;apply Exists.intro;refine ⟨fun us' W hp hl hI=>?_,?_⟩;· (have hE:=CpI.pre hI hl;have c:=Ext.cell' (HXR16.out.trans' hE) HA.out;go_simp;rfl));simp only [Act.put,zA,zB,zC,zD,zE,zF]
     refine Rt.rs_eff rfl rfl rfl (fun W hI=>?_) (fun v hv=>?_)
     ·have hE:=CpI.pre hI (Nat.le_refl _)
      refine Rt.gives_cal ?_
      apply Exists.intro
      apply Exists.intro
      apply Exists.intro
      refine ⟨by go_simp;exact ⟨⟨rfl,rfl⟩,rfl⟩,?_⟩
      refine (copy_any (w3.heap.size) oa la ver.added W (MapIs.ext HC.out.m1 hE) ((hma.ext HXR16.out).ext hE) hoa).mono ?_
      rintro e w7 ⟨rfl,hbut,l',q1,q2,q3⟩
      exact ⟨_,rfl,(But.ext hE).trans hbut,l',q1,q2,q3⟩
     clear hv
     simp only [Act.put,zA,zB,zC,zD,zE,zF]
     refine Rt.rs_nil (fun W6 hI=>?_)
     obtain ⟨hbut,la',q1,q2,q3⟩:=hI
     have hC6 : Below w3.heap.size w3 W6:=Below.trans HC.out.below (hbut.below (Nat.le_refl _) (HC.out.below.size))
     have hbox6 : W6.heap[w3.heap.size + 1 + 1]? = some (.cells #[.map (some w3.heap.size),.map (some (w3.heap.size + 1))] 96 (0,0)):=(hbut.block _ (heap_lt HC.out.box) (by omega)).trans HC.out.box
     have hm6 : MapIs (Value.int .i64) W6 (w3.heap.size + 1) lw:=(hbut.block _ (heap_lt HC.out.m2) (by omega)).trans HC.out.m2
     have HBOX6:=Lib.hid hbox6
     have HM6:=Lib.hid hm6
     have HC6:=Lib.hid hC6
     have HB4R17:=Lib.hid ((hC6.block _ (heap_lt HB3.out)).trans HB3.out)
     have HXR17:=Lib.hid (HX3.out.trans' hC6)
     have Q1:=Lib.hid q1
     have Q2:=Lib.hid q2
     have Q3:=Lib.hid q3
     clear hbut q1 q2 q3 hC6 hbox6 hm6
     go_upto_region 17 with fail
     refine Rt.wp_region_rt (by kernel_rfl) [0,1,2,3,4,5,6,7,8,9,10] [10] [0,0,0,0,0,0,0,0,0,0] [0,1,0,4,12,28,0,124,252,508,1023] (by kernel_rfl) (CpI W6 (w3.heap.size + 1) lw ver.wd) ?_ ?_
     ·exact (below_drawn (ext_refl _) _ : Ext _ _)
     (refine Rt.rs_sil rfl rfl rfl (fun K hK=>?_);go_simp;refine hK _ ?_;clear hK K)
     (refine Rt.rs_rd rfl rfl rfl ?_;apply Exists.intro;refine ⟨fun us' W hp hl hI=>?_,?_⟩;· (have hE:=CpI.pre hI hl;have c : W.cell? ⟨w3.heap.size + 1 + 1,1,none⟩ = some (.map (some ((w3.heap.size + 1)))):=cell_of (hE.obj HBOX6.out) 1;go_simp;rfl));simp only [Act.put,zA,zB,zC,zD,zE,zF]
     (refine Rt.rs_rd rfl rfl rfl ?_;apply Exists.intro;refine ⟨fun us' W hp hl hI=>?_,?_⟩;· (have hE:=CpI.pre hI hl;have c : W.cell? ⟨w.heap.size,0,none⟩ = some (.pointer (some ⟨rb,0,none⟩)):=cell_of (hE.obj HB4R17.out) 0;go_simp;rfl));simp only [Act.put,zA,zB,zC,zD,zE,zF]
     iterate 2 (refine Rt.rs_sil rfl rfl rfl (fun K hK=>?_);go_simp;refine hK _ ?_;clear hK K)
     (refine Rt.rs_rd rfl rfl rfl ?_;apply Exists.intro;refine ⟨fun us' W hp hl hI=>?_,?_⟩;· (have hE:=CpI.pre hI hl;have c:=Ext.cell' (HXR17.out.trans' hE) HR1.out;go_simp;rfl));simp only [Act.put,zA,zB,zC,zD,zE,zF]
     (refine Rt.rs_sil rfl rfl rfl (fun K hK=>?_);go_simp;refine hK _ ?_;clear hK K)
     (refine Rt.rs_rd rfl rfl rfl ?_;apply Exists.intro;refine ⟨fun us' W hp hl hI=>?_,?_⟩;· (skip;go_simp;rfl));simp only [Act.put,zA,zB,zC,zD,zE,zF]
     (refine Rt.rs_sil rfl rfl rfl (fun K hK=>?_);go_simp;refine hK _ ?_;clear hK K)
     (refine Rt.rs_rd rfl rfl rfl ?_;apply Exists.intro;refine ⟨fun us' W hp hl hI=>?_,?_⟩;· (have hE:=CpI.pre hI hl;have c:=Ext.cell' (HXR17.out.trans' hE) HD.out;go_simp;rfl));simp only [Act.put,zA,zB,zC,zD,zE,zF]
     refine Rt.rs_eff rfl rfl rfl (fun W hI=>?_) (fun v hv=>?_)
     ·have hE:=CpI.pre hI (Nat.le_refl _)
      refine Rt.gives_cal ?_
      apply Exists.intro
      apply Exists.intro
      apply Exists.intro
      refine ⟨by go_simp;exact ⟨⟨rfl,rfl⟩,rfl⟩,?_⟩
      refine (copy_any ((w3.heap.size + 1)) ow lw ver.wd W (MapIs.ext HM6.out hE) ((hmd.ext HXR17.out).ext hE) how).mono ?_
      rintro e w7 ⟨rfl,hbut,l',q1,q2,q3⟩
      exact ⟨_,rfl,(But.ext hE).trans hbut,l',q1,q2,q3⟩
     clear hv
     simp only [Act.put,zA,zB,zC,zD,zE,zF]
     refine Rt.rs_nil (fun W7 hI=>?_)
     obtain ⟨hbut,lw',r1,r2,r3⟩:=hI
     have htk : ps.take (k + 1) = ps.take k ++ [((iv : Nat) : Int)]:=by rw [List.take_add_one,HP.out];rfl
     have hC7 : ComC w3 R ps (k + 1) la' lw' W7:=by
      refine ⟨Below.trans HC6.out (hbut.below (by omega) HC6.out.size),(hbut.block _ (heap_lt HBOX6.out) (by omega)).trans HBOX6.out,(hbut.block _ (heap_lt Q1.out) (by omega)).trans Q1.out,r1,Q3.out HC.out.n1,r3 HC.out.n2,fun n=>?_,fun n=>?_⟩
      ·rw [Q2.out n,Bool.or_eq_true,HC.out.k1 n,htk]
       constructor
       ·rintro (⟨p,hp,v,h1,h2⟩ | h)
        ·exact ⟨p,List.mem_append_left _ hp,v,h1,h2⟩
        ·exact ⟨_,List.mem_append_right _ (List.mem_singleton.2 rfl),ver,HV2.out,h⟩
       ·rintro ⟨p,hp,v,h1,h2⟩
        rcases List.mem_append.1 hp with hp | hp
        ·exact .inl ⟨p,hp,v,h1,h2⟩
        ·rw [List.mem_singleton.1 hp,HV2.out] at h1
         obtain rfl:=Option.some.inj h1
         exact .inr h2
      ·rw [r2 n,Bool.or_eq_true,HC.out.k2 n,htk]
       constructor
       ·rintro (⟨p,hp,v,h1,h2⟩ | h)
        ·exact ⟨p,List.mem_append_left _ hp,v,h1,h2⟩
        ·exact ⟨_,List.mem_append_right _ (List.mem_singleton.2 rfl),ver,HV2.out,h⟩
       ·rintro ⟨p,hp,v,h1,h2⟩
        rcases List.mem_append.1 hp with hp | hp
        ·exact .inl ⟨p,hp,v,h1,h2⟩
        ·rw [List.mem_singleton.1 hp,HV2.out] at h1
         obtain rfl:=Option.some.inj h1
         exact .inr h2
     have HC7:=Lib.hid hC7
     clear hbut r1 r2 r3 hC7 htk
     go_wp2_with fail
     exact ⟨⟨k + 1,la',lw',by omega,rfl,HC7.out⟩,by simp [intOf];omega⟩
    ·obtain rfl : k = ps.length:=by omega
     obtain ⟨W6,rfl⟩ : ∃ W6,W6 = wr:=⟨wr,rfl⟩
     have HC:=Lib.hid hC
     have HB4R:=Lib.hid ((hC.below.block _ (heap_lt HB3.out)).trans HB3.out)
     have HXR:=Lib.hid (HX3.out.trans' hC.below)
     have c4 : W6.cell? ⟨w.heap.size,0,none⟩ = some (.pointer (some ⟨rb,0,none⟩)):=cell_of HB4R.out 0
     have hr1 : W6.cell? ⟨rb,1,none⟩ = some (.slice vp R.vers.length vc):=HXR.out.cell' (cell_of HREC.out.blk 1)
     clear hC hlt hk
     go_upto_region 21 with fail
     clear c4 hr1
     have hF0 : ComF w3 R adds la lw 0 [] [] la (.slice none 0 0) W6:=
      ⟨HC.out.below,heap_lt HC.out.box,HC.out.box,HC.out.m1,HC.out.m2,HC.out.n1,World.ownsRow_nil _ _ _ _,rfl,rfl,fun x hx=>(by cases hx),rfl,fun n=>(by
       constructor
       ·exact .inl
       ·rintro (h | h)
        ·exact h
        ·omega)⟩
     have HF0:=Lib.hid hF0
     clear hF0
     go_wp2_with fail
     go_loopw [17,18,19,20,21,98] (fun s17 _ _ _ _ i wr=>∃ (k : Nat) (frs : List FR) (xs' : List (List Value)) (la' : List (Int × Value)),k ≤ adds.length ∧ i = .int .i64 k ∧ ComF w3 R adds la lw k frs xs' la' s17 wr) (fun _ _ _ _ _ i _=>adds.length - (intOf i).toNat)
     case atStart=>exact ⟨0,[],[],la,Nat.zero_le _,rfl,HF0.out⟩
     case round=>
      obtain ⟨k,frs,xs',la',hk,rfl,hF⟩:=hrel
      by_cases hlt : k < adds.length
      ·obtain ⟨f,hf⟩ : ∃ f,adds[k]? = some f:=⟨_,List.getElem?_eq_getElem hlt⟩
       obtain ⟨fb,fo,u,rfl,hfu,hcell⟩:=HFAT.out k f hf
       obtain ⟨up,ucap,rfl⟩ : ∃ up ucap,u = .slice up f.values.length ucap:=let ⟨⟨p,c,h,_⟩,_⟩:=hfu.1;⟨p,c,h⟩
       have hxr : Ext w wr:=HX3.out.trans' hF.below
       have e0 : wr.cell? ⟨fb,fo + k * 5,none⟩ = some (.string f.subject):=Ext.cell' hxr (hcell 0 _ rfl)
       have e1 : wr.cell? ⟨fb,fo + k * 5 + 1,none⟩ = some (.string f.attr):=Ext.cell' hxr (hcell 1 _ rfl)
       have e2 : wr.cell? ⟨fb,fo + k * 5 + 2,none⟩ = some (.slice up f.values.length ucap):=Ext.cell' hxr (hcell 2 _ rfl)
       have e3 : wr.cell? ⟨fb,fo + k * 5 + 3,none⟩ = some (.int .i64 f.low):=Ext.cell' hxr (hcell 3 _ rfl)
       have e4 : wr.cell? ⟨fb,fo + k * 5 + 4,none⟩ = some (.int .i64 f.high):=Ext.cell' hxr (hcell 4 _ rfl)
       have hfok:=HOK.out f (List.mem_of_getElem? hf)
       have hvl : f.values.length ≤ maxLen:=let ⟨⟨_,_,_,_,h,_⟩,_⟩:=hfu.1;h
       have HFO:=Lib.hid hfok
       have HFU:=Lib.hid hfu
       have HF1:=Lib.hid hf
       have HF:=Lib.hid hF
       have HXR1:=Lib.hid hxr
       have hb4 : wr.heap[w.heap.size]? = some (.cells #[.pointer (some ⟨rb,0,none⟩)] 41 (0,0)):=(hF.below.block _ (heap_lt HB3.out)).trans HB3.out
       have HB4K:=Lib.hid hb4
       clear hcell hxr hfu hf hF hfok hb4
       go_upto_region 24 with fail
       obtain ⟨W7,hW7⟩ : ∃ W7,W7 = wr.alloc (.cells #[.string f.subject,.string f.attr,.slice up f.values.length ucap,.int .i64 f.low,.int .i64 f.high] 46 (0,0)):=⟨_,rfl⟩
       try rw [← hW7]
       have hx7 : Ext wr W7:=by rw [hW7];exact bel
       have hb7 : W7.heap[wr.heap.size]? = some (.cells #[.string f.subject,.string f.attr,.slice up f.values.length ucap,.int .i64 f.low,.int .i64 f.high] 46 (0,0)):=by rw [hW7];simp only [heap_drawn_get,heap_drew_get,heap_setCell_get,heap_alloc_get,World.size_alloc,World.size_setCell,size_drawn,putObj_get,putObj_size];(repeat (first | rw [if_pos trivial] | rw [if_pos rfl] | rw [if_neg (by omega)] | rw [if_pos (by omega)]))
       have HX7:=Lib.hid hx7
       have c0 : W7.cell? ⟨wr.heap.size,0,none⟩ = some (.string f.subject):=cell_of hb7 0
       have c1 : W7.cell? ⟨wr.heap.size,1,none⟩ = some (.string f.attr):=cell_of hb7 1
       have c2 : W7.cell? ⟨wr.heap.size,2,none⟩ = some (.slice up f.values.length ucap):=cell_of hb7 2
       have c3 : W7.cell? ⟨wr.heap.size,3,none⟩ = some (.int .i64 f.low):=cell_of hb7 3
       have c4 : W7.cell? ⟨wr.heap.size,4,none⟩ = some (.int .i64 f.high):=cell_of hb7 4
       have d4 : W7.cell? ⟨w.heap.size,0,none⟩ = some (.pointer (some ⟨rb,0,none⟩)):=cell_of (hx7.obj HB4K.out) 0
       clear hW7 hb7 hx7 e0 e1 e2 e3 e4
       go_wp2_with fail
       have hxw7:=HXR1.out.trans' HX7.out
       refine (check_any (HREC.out.ext hxw7) (hg.ext hxw7) f (.slice up f.values.length ucap) (HFU.out.1.ext hxw7) HFO.out.1 HFO.out.2).mono ?_
       rintro e w8 ⟨hx8,⟨hno,rfl⟩ | ⟨fr,p',c',hfr,rfl⟩⟩
       ·unfold noFR
        have hxw8 : Below w.heap.size w w8:=hxw7.trans' hx8
        have hnone : rowsF R adds = none:=by
         refine rowsF_take_none (k:=k + 1) ?_
         have htk : adds.take (k + 1) = adds.take k ++ [f]:=by rw [List.take_add_one,HF1.out];rfl
         rw [htk,rowsF_snoc,HF.out.eq,hno];rfl
        have HNONE:=Lib.hid hnone
        have HXW8:=Lib.hid hxw8
        clear hnone hxw8 hno hx8 hxw7 c0 c1 c2 c3 c4 d4
        go_wp2_with fail
        simp only [Array.getD_eq_getD_getElem?,List.getElem?_toArray,List.getElem?_cons_succ,List.getElem?_cons_zero,Option.getD_some]
        refine HFACT.out _ ?_ HPOK.out hall.out HNONE.out
        exact Below.alloc HXW8.out HXW8.out.size _
       ·have e9 : (frCells fr [.string f.attr,.slice p' f.values.length c',.int .i64 f.low,.int .i64 f.high]).toArray = #[.string fr.subject,.string f.attr,.slice p' f.values.length c',.int .i64 f.low,.int .i64 f.high,.pointer (some ⟨fr.col,0,none⟩),.int .u64 fr.st.bits,.int .i64 fr.st.low,.int .i64 fr.st.high]:=rfl
        rw [e9]
        have HX8:=Lib.hid hx8
        have HFR:=Lib.hid hfr
        clear e9 hx8 hfr hxw7 c0 c1 c2 c3 c4 d4
        go_upto_region 27 with fail
        obtain ⟨W9,hW9⟩ : ∃ W9,W9 = w8.alloc (.cells #[.string fr.subject,.string f.attr,.slice p' f.values.length c',.int .i64 f.low,.int .i64 f.high,.pointer (some ⟨fr.col,0,none⟩),.int .u64 fr.st.bits,.int .i64 fr.st.low,.int .i64 fr.st.high] 122 (0,0)):=⟨_,rfl⟩
        rw [← hW9]
        have hx9 : Ext w8 W9:=by rw [hW9];exact bel
        have hb9 : W9.heap[w8.heap.size]? = some (.cells #[.string fr.subject,.string f.attr,.slice p' f.values.length c',.int .i64 f.low,.int .i64 f.high,.pointer (some ⟨fr.col,0,none⟩),.int .u64 fr.st.bits,.int .i64 fr.st.low,.int .i64 fr.st.high] 122 (0,0)):=by rw [hW9];simp only [heap_drawn_get,heap_drew_get,heap_setCell_get,heap_alloc_get,World.size_alloc,World.size_setCell,size_drawn,putObj_get,putObj_size];(repeat (first | rw [if_pos trivial] | rw [if_pos rfl] | rw [if_neg (by omega)] | rw [if_pos (by omega)]))
        obtain ⟨W10,hW10⟩ : ∃ W10,W10 = W9.alloc (.cells #[.string fr.subject,.string f.attr,.slice p' f.values.length c',.int .i64 f.low,.int .i64 f.high,.pointer (some ⟨fr.col,0,none⟩),.int .u64 fr.st.bits,.int .i64 fr.st.low,.int .i64 fr.st.high] 122 (0,0)):=⟨_,rfl⟩
        have hx10 : Ext W9 W10:=by rw [hW10];exact bel
        have hb10 : W10.heap[W9.heap.size]? = some (.cells #[.string fr.subject,.string f.attr,.slice p' f.values.length c',.int .i64 f.low,.int .i64 f.high,.pointer (some ⟨fr.col,0,none⟩),.int .u64 fr.st.bits,.int .i64 fr.st.low,.int .i64 fr.st.high] 122 (0,0)):=by rw [hW10];simp only [heap_drawn_get,heap_drew_get,heap_setCell_get,heap_alloc_get,World.size_alloc,World.size_setCell,size_drawn,putObj_get,putObj_size];(repeat (first | rw [if_pos trivial] | rw [if_pos rfl] | rw [if_neg (by omega)] | rw [if_pos (by omega)]))
        have hF10:=HF.out.ext (((HX7.out.trans' HX8.out).trans' hx9).trans' hx10)
        obtain ⟨v',w11,happ,hrow,hgrow⟩:=append_fact (row:=frCells fr [.string f.attr,.slice p' f.values.length c',.int .i64 f.low,.int .i64 f.high]) hF10.rows W9.heap.size 1 rfl (fun j u hj=>by rw [Nat.zero_add,cell_of hb10 j,List.getElem?_toArray];exact hj) (fun u hu=>by
         unfold frCells encP at hu
         simp at hu
         rcases hu with rfl | rfl | rfl | rfl | rfl | rfl | rfl | rfl | rfl <;> rfl) (by omega) hF10.below.size 1
        have c0 : W9.cell? ⟨w8.heap.size,0,none⟩ = some (.string fr.subject):=cell_of hb9 0
        have c1 : W9.cell? ⟨w8.heap.size,1,none⟩ = some (.string f.attr):=cell_of hb9 1
        have c2 : W9.cell? ⟨w8.heap.size,2,none⟩ = some ((.slice p' f.values.length c')):=cell_of hb9 2
        have c3 : W9.cell? ⟨w8.heap.size,3,none⟩ = some (.int .i64 f.low):=cell_of hb9 3
        have c4 : W9.cell? ⟨w8.heap.size,4,none⟩ = some (.int .i64 f.high):=cell_of hb9 4
        have c5 : W9.cell? ⟨w8.heap.size,5,none⟩ = some (.pointer (some ⟨fr.col,0,none⟩)):=cell_of hb9 5
        have c6 : W9.cell? ⟨w8.heap.size,6,none⟩ = some (.int .u64 fr.st.bits):=cell_of hb9 6
        have c7 : W9.cell? ⟨w8.heap.size,7,none⟩ = some (.int .i64 fr.st.low):=cell_of hb9 7
        have c8 : W9.cell? ⟨w8.heap.size,8,none⟩ = some (.int .i64 fr.st.high):=cell_of hb9 8
        rw [hW10] at happ
        have HF10:=Lib.hid hF10
        have HROW:=Lib.hid hrow
        have HGROW:=Lib.hid hgrow
        have HX10:=Lib.hid (((HX7.out.trans' HX8.out).trans' hx9).trans' hx10)
        obtain ⟨vp',vc',rfl⟩:=owns_form hrow
        have hs9 : w8.heap.size < W9.heap.size:=heap_lt hb9
        have HAPP:=Lib.hid happ
        clear hW9 hb9 hb10 hF10 hx9 hx10 hrow hgrow hW10 happ
        go_upto_region 28 with (at_builtin;refine wpList_append_run rfl _ _ 98 rfl rfl rfl HAPP.out ?_)
        obtain ⟨fp,fcp,rfl⟩:=owns_form HREC.out.facts
        have hb11 : Below w3.heap.size w3 w11:=HF10.out.below.grown HGROW.out HF10.out.below.size fun k hk=>(owns_block HF10.out.rows hk).1
        have hxr11 : Ext w w11:=HX3.out.trans' hb11
        have hbox11:=grown_keep HF10.out.rows HGROW.out HF10.out.box (by simp)
        have hm11 : MapIs (Value.int .i64) w11 w3.heap.size la':=grown_keep HF10.out.rows HGROW.out HF10.out.m1 (by simp)
        have HBOX11:=Lib.hid hbox11
        have HB4_11:=Lib.hid ((hb11.block _ (heap_lt HB3.out)).trans HB3.out)
        have HFC11:=Lib.hid (hxr11.cell' (cell_of HREC.out.blk 2))
        have HM11:=Lib.hid hm11
        have hnf : R.facts.length ≤ 300:=HREC.out.ok.facts
        have h4 : FourOk (List.cons (Value.string f.attr) [.slice p' f.values.length c',.int .i64 f.low,.int .i64 f.high]):=⟨_,_,_,_,_,_,rfl⟩
        have H4:=Lib.hid h4
        have HWR:=Lib.hid (show IntKind.i64.wrap ((R.facts.length : Int) + 1) = (R.facts.length : Int) + 1 from wrap_id (by omega) (by omega))
        have HWR2:=Lib.hid (show IntKind.i64.wrap ((R.facts.length : Int) + 1 + (k : Int)) = (R.facts.length : Int) + 1 + (k : Int) from wrap_id (by omega) (by omega))
        clear c0 c1 c2 c3 c4 c5 c6 c7 c8 hb11 hxr11 hbox11 hm11 hs9 h4
        refine Rt.wp_region_rt (by kernel_rfl) [0,1,2,3,4,5,6,7,8,9,10,11] [11] [0,0,0,0,0,0,0,0,0,0,0] [0,1,0,4,12,28,60,124,0,508,0,2047] (by kernel_rfl) (F28 w3 R adds la lw k (frs ++ [fr]) (xs' ++ [[Value.string f.attr,.slice p' f.values.length c',.int .i64 f.low,.int .i64 f.high]]) (mput la' ((R.facts.length : Int) + 1 + (k : Int)) (.int .i64 (R.vers.length : Int))) (.slice vp' (k + 1) vc') w11) ?_ ?_
        ·exact (below_drawn (ext_refl _) _ : Ext _ _)
        (refine Rt.rs_sil rfl rfl rfl (fun K hK=>?_);go_simp;refine hK _ ?_;clear hK K)
        (refine Rt.rs_rd rfl rfl rfl ?_;apply Exists.intro;refine ⟨fun us' W hp hl hI=>?_,?_⟩;· (have hE:=F28.pre hI hl;have c : W.cell? ⟨w3.heap.size + 1 + 1,0,none⟩ = some (.map (some (w3.heap.size))):=cell_of (hE.obj HBOX11.out) 0;go_simp;rfl));simp only [Act.put,zA,zB,zC,zD,zE,zF]
        (refine Rt.rs_rd rfl rfl rfl ?_;apply Exists.intro;refine ⟨fun us' W hp hl hI=>?_,?_⟩;· (have hE:=F28.pre hI hl;have c : W.cell? ⟨w.heap.size,0,none⟩ = some (.pointer (some ⟨rb,0,none⟩)):=cell_of (hE.obj HB4_11.out) 0;go_simp;rfl));simp only [Act.put,zA,zB,zC,zD,zE,zF]
        iterate 2 (refine Rt.rs_sil rfl rfl rfl (fun K hK=>?_);go_simp;refine hK _ ?_;clear hK K)
        (refine Rt.rs_rd rfl rfl rfl ?_;apply Exists.intro;refine ⟨fun us' W hp hl hI=>?_,?_⟩;· (have hE:=F28.pre hI hl;have c:=Ext.cell' hE HFC11.out;go_simp;rfl));simp only [Act.put,zA,zB,zC,zD,zE,zF]
        iterate 5 (refine Rt.rs_sil rfl rfl rfl (fun K hK=>?_);go_simp;refine hK _ ?_;clear hK K)
        refine Rt.rs_eff rfl rfl rfl (fun W hI=>?_) (fun v hv=>?_)
        ·have hE:=F28.pre hI (Nat.le_refl _)
         have hup:=run_mapUpdate (P:=Tryz.prog) (T:=94) (K:=3) (E:=3) (k:=((R.facts.length : Int) + 1 + (k : Int))) (v:=.int .i64 (R.vers.length : Int)) (by kernel_rfl) (HM11.out.ext hE) (finds_int (by kernel_rfl) W _ _)
         refine Rt.gives_skp ?_
         apply Exists.intro
         refine ⟨by go_simp;rw [HWR.out,HWR2.out,hup];rfl,?_⟩
         exact HF10.out.step (.int .i64 (R.vers.length : Int)) HF1.out HFR.out H4.out HGROW.out HROW.out hE
        clear hv
        simp only [Act.put,zA,zB,zC,zD,zE,zF]
        refine Rt.rs_nil (fun W12 hI=>?_)
        have HF12:=Lib.hid (show ComF w3 R adds la lw (k + 1) _ _ _ _ W12 from hI)
        clear hI
        go_wp2_with fail
        exact ⟨⟨k + 1,_,_,_,by omega,rfl,HF12.out⟩,by simp [intOf];omega⟩
      ·obtain rfl : k = adds.length:=by omega
       obtain ⟨W8,rfl⟩ : ∃ W8,W8 = wr:=⟨wr,rfl⟩
       have HF:=Lib.hid hF
       clear hF hlt hk
       go_upto_region 31 with fail
       obtain ⟨W9,hW9⟩ : ∃ W9,W9 = W8.alloc (.map #[] 0):=⟨_,rfl⟩
       rw [← hW9]
       have hx9 : Ext W8 W9:=by rw [hW9];exact bel
       have hm9 : MapIs (Value.int .i64) W9 W8.heap.size []:=by rw [hW9];unfold MapIs;simp only [heap_drawn_get,heap_drew_get,heap_setCell_get,heap_alloc_get,World.size_alloc,World.size_setCell,size_drawn,putObj_get,putObj_size];(repeat (first | rw [if_pos trivial] | rw [if_pos rfl] | rw [if_neg (by omega)] | rw [if_pos (by omega)]));rfl
       have hC9 : ComW w3 R adds la lw wds frs xs' la' u17 W8.heap.size 0 [] lw W9:=⟨HF.out.ext hx9,HF.out.size,hm9,HC.out.n2,fun n=>by simp⟩
       have HC9:=Lib.hid hC9
       clear hC9 hW9 hm9 hx9
       go_wp2_with fail
       go_loopw [131] (fun i wr=>∃ (k : Nat) (seen lw' : List (Int × Value)),k ≤ wds.length ∧ i = .int .i64 k ∧ ComW w3 R adds la lw wds frs xs' la' u17 W8.heap.size k seen lw' wr) (fun i _=>wds.length - (intOf i).toNat)
       case atStart=>exact ⟨0,[],lw,Nat.zero_le _,rfl,HC9.out⟩
       case round=>
        obtain ⟨k,seen,lw',hk,rfl,hCW⟩:=hrel
        by_cases hlt : k < wds.length
        ·obtain ⟨n,hn⟩ : ∃ n,wds[k]? = some n:=⟨_,List.getElem?_eq_getElem hlt⟩
         obtain ⟨wb,wo,rfl,hc⟩:=HWEL.out k n hn
         have hxr : Ext w wr:=HX3.out.trans' hCW.f.below
         have c0:=Ext.cell' hxr hc
         have HB4K:=Lib.hid ((hCW.f.below.block _ (heap_lt HB3.out)).trans HB3.out)
         have HXR1:=Lib.hid hxr
         have HCW:=Lib.hid hCW
         have HN:=Lib.hid hn
         have hne : wds ≠ []:=by rintro rfl;simp at hlt
         have HNE:=Lib.hid hne
         clear hc hxr hCW hn hne
         go_upto_region 34 with fail
         obtain ⟨W10,hW10⟩ : ∃ W10,W10 = wr.alloc (.cells #[.int .i64 n] 3 (0,0)):=⟨_,rfl⟩
         rw [← hW10]
         have hx10 : Ext wr W10:=by rw [hW10];exact bel
         have hb10 : W10.heap[wr.heap.size]? = some (.cells #[.int .i64 n] 3 (0,0)):=by rw [hW10];simp only [heap_drawn_get,heap_drew_get,heap_setCell_get,heap_alloc_get,World.size_alloc,World.size_setCell,size_drawn,putObj_get,putObj_size];(repeat (first | rw [if_pos trivial] | rw [if_pos rfl] | rw [if_neg (by omega)] | rw [if_pos (by omega)]))
         have hC10:=HCW.out.ext hx10
         have hxw10:=HXR1.out.trans' hx10
         have d4 : W10.cell? ⟨w.heap.size,0,none⟩ = some (.pointer (some ⟨rb,0,none⟩)):=cell_of (hx10.obj HB4K.out) 0
         have d24 : W10.cell? ⟨wr.heap.size,0,none⟩ = some (.int .i64 n):=cell_of hb10 0
         have hlk:=MapV.lookup (.inr ⟨_,rfl,hC10.seen⟩ : MapV W10 (some W8.heap.size) seen) n
         have HP:=Lib.hid (commit1_pred HREC.out hxw10 d4 d24)
         have HX10:=Lib.hid hxw10
         have HC10:=Lib.hid hC10
         have HB10:=Lib.hid hb10
         have HB4W:=Lib.hid (hx10.obj HB4K.out)
         clear hW10 hx10 hb10 hC10 hxw10 c0
         obtain ⟨tw,htw⟩ : ∃ b,(look seen n).isSome = b:=⟨_,rfl⟩
         rw [htw] at hlk
         clear htw
         cases tw with
         | true=>
          go_wp2_with fail
          simp only [Array.getD_eq_getD_getElem?,List.getElem?_toArray,List.getElem?_cons_succ,List.getElem?_cons_zero,Option.getD_some]
          exact HNONE7.out _ HX10.out HNE.out
         | false=>
          go_wp2_with fail
          refine (containsFunc_any W10.heap.size W10 W10 (.slice a ps.length cap) ps 41 _ (fun p=>anyHolds R p n) hall.out (HPS.out.ext HX10.out) HP.out (Below.refl _ _) (Nat.le_refl _)).mono ?_
          rintro e w11 ⟨rfl,hx11⟩
          have HX11:=Lib.hid hx11
          have HX11w:=Lib.hid (HX10.out.trans' hx11)
          obtain ⟨ay,hay⟩ : ∃ b,(ps.any fun p=>anyHolds R p n) = b:=⟨_,rfl⟩
          rw [hay]
          clear hay hx11 hlk d4 d24
          cases ay with
          | false=>
           go_wp2_with fail
           simp only [Array.getD_eq_getD_getElem?,List.getElem?_toArray,List.getElem?_cons_succ,List.getElem?_cons_zero,Option.getD_some]
           exact HNONE7.out _ HX11w.out HNE.out
          | true=>
           have hC11:=HC10.out.ext HX11.out
           have d24 : w11.cell? ⟨wr.heap.size,0,none⟩ = some (.int .i64 n):=cell_of (HX11.out.obj HB10.out) 0
           go_upto_region 37 with fail
           have hup:=run_mapUpdate (P:=Tryz.prog) (T:=94) (K:=3) (E:=3) (k:=n) (v:=.int .i64 (k : Int)) (by kernel_rfl) hC11.seen (finds_int (by kernel_rfl) w11 _ _)
           have hC12:=hC11.step HN.out (.int .i64 (k : Int)) (.int .i64 (R.vers.length : Int))
           obtain ⟨W12,hW12⟩ : ∃ W12,W12 = wput (Value.int .i64) w11 W8.heap.size (mput seen n (.int .i64 (k : Int))):=⟨_,rfl⟩
           rw [← hW12] at hup hC12
           have hq3 : w3.heap.size + 3 ≤ W8.heap.size:=HC9.out.hq
           have hq8 : W8.heap.size < wr.heap.size:=heap_lt HCW.out.seen
           have e24 : W12.cell? ⟨wr.heap.size,0,none⟩ = some (.int .i64 n):=by
            refine cell_of (cs:=#[.int .i64 n]) (T:=3) (fr:=(0,0)) ?_ 0
            rw [hW12];unfold wput;rw [putObj_get,if_neg (by omega)];exact HX11.out.obj HB10.out
           have e11 : W12.cell? ⟨w3.heap.size + 1 + 1,1,none⟩ = some (.map (some (w3.heap.size + 1))):=by
            refine cell_of (cs:=#[.map (some w3.heap.size),.map (some (w3.heap.size + 1))]) (T:=96) (fr:=(0,0)) ?_ 1
            rw [hW12];unfold wput;rw [putObj_get,if_neg (by omega)];exact hC11.f.box
           have hm12 : MapIs (Value.int .i64) W12 (w3.heap.size + 1) lw':=by
            rw [hW12];unfold MapIs wput;rw [putObj_get,if_neg (by omega)];exact hC11.f.m2
           have hup2:=run_mapUpdate (P:=Tryz.prog) (T:=94) (K:=3) (E:=3) (k:=n) (v:=.int .i64 (R.vers.length : Int)) (by kernel_rfl) hm12 (finds_int (by kernel_rfl) W12 _ _)
           have HC12:=Lib.hid hC12
           clear hC11 hC12 hW12 hm12 hq3 hq8
           go_wp2_with fail
           exact ⟨⟨k + 1,_,_,by omega,rfl,HC12.out⟩,by simp [intOf];omega⟩
        ·obtain rfl : k = wds.length:=by omega
         obtain ⟨W13,rfl⟩ : ∃ W13,W13 = wr:=⟨wr,rfl⟩
         obtain ⟨np,nc,rfl⟩:=owns_form hCW.f.rows
         obtain ⟨fp,fcp,rfl⟩:=owns_form HREC.out.facts
         have hxr : Ext w W13:=HX3.out.trans' hCW.f.below
         have hadd : ∀ f ∈ adds,f.subject.size < 4294967281 ∧ i64ok f.low ∧ i64ok f.high:=fun f hf=>by
          obtain ⟨i,hi⟩:=List.mem_iff_getElem?.1 hf
          obtain ⟨_,_,u,_,hfu,_⟩:=HFAT.out i f hi
          exact ⟨(HOK.out f hf).1,hfu.2.2.2.1,hfu.2.2.2.2⟩
         have HB413:=Lib.hid ((hCW.f.below.block _ (heap_lt HB3.out)).trans HB3.out)
         have HADD:=Lib.hid hadd
         have HCW:=Lib.hid hCW
         have HXR:=Lib.hid hxr
         have c4 : W13.cell? ⟨w.heap.size,0,none⟩ = some (.pointer (some ⟨rb,0,none⟩)):=cell_of HB413.out 0
         have hr2 : W13.cell? ⟨rb,2,none⟩ = some (.slice fp R.facts.length fcp):=hxr.cell' (cell_of HREC.out.blk 2)
         have hv200 : R.vers.length ≤ 200:=HREC.out.ok.vers
         have hf300 : R.facts.length ≤ 300:=HREC.out.ok.facts
         have HWR:=Lib.hid (show IntKind.i64.wrap ((R.facts.length : Int) + (adds.length : Int)) = (R.facts.length : Int) + (adds.length : Int) from wrap_id (by omega) (by omega))
         clear hCW hxr hadd hlt hk
         by_cases h200 : 200 ≤ R.vers.length
         ·have h200' : (200 : Int) ≤ (R.vers.length : Int):=by omega
          go_wp2_with fail
          simp only [Array.getD_eq_getD_getElem?,List.getElem?_toArray,List.getElem?_cons_succ,List.getElem?_cons_zero,Option.getD_some]
          exact HFULL.out _ HXR.out (.inl h200)
         by_cases h300 : 300 < R.facts.length + adds.length
         ·have h300' : (300 : Int) < (R.facts.length : Int) + (adds.length : Int):=by omega
          have h200' : ¬ (200 : Int) ≤ (R.vers.length : Int):=by omega
          go_wp2_with fail
          (try simp only [Array.getD_eq_getD_getElem?,List.getElem?_toArray,List.getElem?_cons_succ,List.getElem?_cons_zero,Option.getD_some])
          exact HFULL.out _ HXR.out (.inr h300)
         have h300' : ¬ (300 : Int) < (R.facts.length : Int) + (adds.length : Int):=by omega
         have h200' : ¬ (200 : Int) ≤ (R.vers.length : Int):=by omega
         have hcom:=comOk_of HREC.out.ok HPOK.out hall.out HC.out HCW.out (by omega) (by omega) HADD.out
         have HCOM:=Lib.hid hcom
         have hvr : W13.ownsRow B 96 2 (.slice vp R.vers.length vc) R.vers.length (os.flatMap fun o=>[.map o.1,.map o.2]):=(HREC.out.ext HXR.out).vers
         have HVR:=Lib.hid hvr
         have hrb13:=HXR.out.obj HREC.out.blk
         have HRB13:=Lib.hid hrb13
         have HBOX13:=Lib.hid HCW.out.f.box
         have hBs : B ≤ W13.heap.size:=Nat.le_trans HREC.out.base (Nat.le_of_lt (heap_lt hrb13))
         clear hcom hvr hrb13
         go_upto_region 42 with fail
         clear c4 h300' h200' hr2
         refine Rt.wp_region_rt (by kernel_rfl) [0,1,2,3,4,5,6,7,8,9,10] [6,7,10] [2,1,1,1,1,0,1000,1000,2,2] [0,0,2,6,14,0,32,126,255,511,1023] (by kernel_rfl) (V42 W13 B rb (.slice vp R.vers.length vc) R.vers.length (os.flatMap fun o=>[.map o.1,.map o.2]) (.map (some w3.heap.size)) (.map (some (w3.heap.size + 1)))) ?_ ?_
         ·exact (below_drawn (ext_refl _) _ : Ext _ _)
         (refine Rt.rs_rd rfl rfl rfl ?_;apply Exists.intro;refine ⟨fun us' W hp hl hI=>?_,?_⟩;· (have hk:=hI.keep hl HVR.out HB413.out (by simp);have c : W.cell? ⟨w.heap.size,0,none⟩ = some (.pointer (some ⟨rb,0,none⟩)):=cell_of hk 0;go_simp;rfl));simp only [Act.put,zA,zB,zC,zD,zE,zF]
         (refine Rt.rs_rd rfl rfl rfl ?_;apply Exists.intro;refine ⟨fun us' W hp hl hI=>?_,?_⟩;· (have hE:=hI.pre hl;have c : W.cell? ⟨w.heap.size,0,none⟩ = some (.pointer (some ⟨rb,0,none⟩)):=cell_of (hE.obj HB413.out) 0;go_simp;rfl));simp only [Act.put,zA,zB,zC,zD,zE,zF]
         iterate 2 (refine Rt.rs_sil rfl rfl rfl (fun K hK=>?_);go_simp;refine hK _ ?_;clear hK K)
         (refine Rt.rs_rd rfl rfl rfl ?_;apply Exists.intro;refine ⟨fun us' W hp hl hI=>?_,?_⟩;· (have hE:=hI.pre hl;have c : W.cell? ⟨rb,1,none⟩ = some (.slice vp R.vers.length vc):=cell_of (hE.obj HRB13.out) 1;go_simp;rfl));simp only [Act.put,zA,zB,zC,zD,zE,zF]
         (refine Rt.rs_rd rfl rfl rfl ?_;apply Exists.intro;refine ⟨fun us' W hp hl hI=>?_,?_⟩;· (have hE:=hI.pre (Nat.le_trans hl (by decide));have c : W.cell? ⟨w3.heap.size + 1 + 1,0,none⟩ = some (.map (some w3.heap.size)):=cell_of (hE.obj HBOX13.out) 0;have d : W.cell? ⟨w3.heap.size + 1 + 1,1,none⟩ = some (.map (some (w3.heap.size + 1))):=cell_of (hE.obj HBOX13.out) 1;go_simp;rfl));simp only [Act.put,zA,zB,zC,zD,zE,zF]
         refine Rt.rs_eff rfl rfl rfl (fun W hI=>?_) (fun v hv=>?_)
         ·have hE:=hI.pre (Nat.zero_le _)
          refine Rt.gives_val ?_
          apply Exists.intro
          apply Exists.intro
          refine ⟨by go_simp;exact ⟨rfl,rfl⟩,?_⟩
          refine ⟨_,rfl,?_,?_⟩
          ·simp only [heap_drawn_get,heap_drew_get,heap_setCell_get,heap_alloc_get,World.size_alloc,World.size_setCell,size_drawn,putObj_get,putObj_size];(repeat (first | rw [if_pos trivial] | rw [if_pos rfl] | rw [if_neg (by omega)] | rw [if_pos (by omega)]))
          ·exact hE.trans' (by exact bel)
         obtain ⟨ab,rfl⟩ : ∃ ab,v = .slice (some ⟨ab,0,none⟩) 1 1:=let ⟨W,hI⟩:=hv;let ⟨ab,h,_⟩:=hI;⟨ab,h⟩
         clear hv
         simp only [Act.put,zA,zB,zC,zD,zE,zF]
         refine Rt.rs_eff rfl rfl rfl (fun W hI=>?_) (fun v hv=>?_)
         ·obtain ⟨ab',e,hc,hE⟩:=hI
          simp only [Value.slice.injEq,Option.some.injEq,Addr.mk.injEq,and_true] at e
          subst e
          obtain ⟨v',w',q1,q2,q3⟩:=append_ver (row:=[.map (some w3.heap.size),.map (some (w3.heap.size + 1))]) (owns_keep HVR.out fun g _ _ hgg=>hE.block g (heap_lt hgg)) ab 1 rfl (fun j u hj=>by rw [Nat.zero_add,cell_of hc j,List.getElem?_toArray];exact hj) (fun u hu=>by simp at hu;rcases hu with rfl | rfl <;> rfl) (by omega) (Nat.le_trans hBs hE.size) 1
          exact gives_append_run _ _ 97 rfl rfl rfl q1 ⟨W,hE,q3,q2⟩
         obtain ⟨vp',vc',rfl⟩ : ∃ p c,v = .slice p (R.vers.length + 1) c:=let ⟨W,hI⟩:=hv;let ⟨_,_,_,hr⟩:=hI;owns_form hr
         clear hv
         simp only [Act.put,zA,zB,zC,zD,zE,zF]
         iterate 2 (refine Rt.rs_sil rfl rfl rfl (fun K hK=>?_);go_simp;refine hK _ ?_;clear hK K)
         refine Rt.rs_eff rfl rfl rfl (fun W hI=>?_) (fun v hv=>?_)
         ·have hk:=hI.keep (Nat.le_refl _) HVR.out HRB13.out (by simp)
          have c:=cell_of hk 1
          have f:=frozen_of hk 1
          obtain ⟨W0,hE,hg,hr⟩:=hI
          refine Rt.gives_skp ?_
          apply Exists.intro
          refine ⟨by go_simp;rfl,?_⟩
          exact ⟨W0,W,hE,hg,hr,rfl⟩
         clear hv
         simp only [Act.put,zA,zB,zC,zD,zE,zF]
         refine Rt.rs_nil (fun W14 hI=>?_)
         obtain ⟨Wa,Wb,hxa,hga,hra,hWb⟩:=hI
         have hM:=mid_of HREC.out HX3.out (HCW.out.f.ext hxa) hga hra
         rw [← hWb] at hM
         have hbox14 : W14.heap[w.heap.size]? = some (.cells #[.pointer (some ⟨rb,0,none⟩)] 41 (0,0)):=by
          have h1:=frm_grown ((HREC.out.ext (HXR.out.trans' hxa)).vers) hga
          have h2:=h1.cells (hxa.obj HB413.out) (by decide)
          have h3:=h1.cells (hxa.obj HRB13.out) (by decide)
          have h4:=(frm_set (off:=1) h3 (.slice vp' (R.vers.length + 1) vc')) _ _ h2 (by simp)
          rw [hWb];exact h4
         have HM:=Lib.hid hM
         have HB414:=Lib.hid hbox14
         have hBs14 : B ≤ W14.heap.size:=Nat.le_trans (Nat.le_trans hBs hxa.size) (by rw [hWb,World.size_setCell];exact hga.size)
         clear hxa hga hra hWb hM hbox14
         go_upto_region 43 with fail
         refine Rt.wp_region_rt (by kernel_rfl) [0,1,2,3,4,5,6,7,8,9] [6,9] [1,0,0,0,0,0,1000,1,1] [0,0,2,6,14,0,62,127,255,511] (by kernel_rfl) (V43 W14 B rb (.slice fp R.facts.length fcp) (R.facts.length + adds.length) (((R.facts.zip xs).flatMap fun x=>frCells x.1 x.2) ++ ((frs.zip xs').flatMap fun x=>frCells x.1 x.2))) ?_ ?_
         ·exact (below_drawn (ext_refl _) _ : Ext _ _)
         (refine Rt.rs_rd rfl rfl rfl ?_;apply Exists.intro;refine ⟨fun us' W hp hl hI=>?_,?_⟩;· (have hk:=hI.keep hl HM.out.facts HB414.out (by simp);have c : W.cell? ⟨w.heap.size,0,none⟩ = some (.pointer (some ⟨rb,0,none⟩)):=cell_of hk 0;go_simp;rfl));simp only [Act.put,zA,zB,zC,zD,zE,zF]
         (refine Rt.rs_rd rfl rfl rfl ?_;apply Exists.intro;refine ⟨fun us' W hp hl hI=>?_,?_⟩;· (have hE:=hI.pre hl;have c : W.cell? ⟨w.heap.size,0,none⟩ = some (.pointer (some ⟨rb,0,none⟩)):=cell_of (hE.obj HB414.out) 0;go_simp;rfl));simp only [Act.put,zA,zB,zC,zD,zE,zF]
         iterate 2 (refine Rt.rs_sil rfl rfl rfl (fun K hK=>?_);go_simp;refine hK _ ?_;clear hK K)
         (refine Rt.rs_rd rfl rfl rfl ?_;apply Exists.intro;refine ⟨fun us' W hp hl hI=>?_,?_⟩;· (have hE:=hI.pre hl;have c : W.cell? ⟨rb,2,none⟩ = some (.slice fp R.facts.length fcp):=cell_of (hE.obj HM.out.blk) 2;go_simp;rfl));simp only [Act.put,zA,zB,zC,zD,zE,zF]
         (refine Rt.rs_sil rfl rfl rfl (fun K hK=>?_);go_simp;refine hK _ ?_;clear hK K)
         refine Rt.rs_eff rfl rfl rfl (fun W hI=>?_) (fun v hv=>?_)
         ·have hE:=hI.pre (Nat.le_refl _)
          have hM:=HM.out.ext hE
          obtain ⟨v',w',q1,q2,q3⟩:=append_facts hM.facts hM.news (one_frCells HCW.out.f.four) (by omega) (Nat.le_trans hBs14 hE.size)
          exact gives_append_run _ _ 98 rfl rfl rfl q1 ⟨W,hE,q3,q2⟩
         obtain ⟨fp',fc',rfl⟩ : ∃ p c,v = .slice p (R.facts.length + adds.length) c:=let ⟨W,hI⟩:=hv;let ⟨_,_,_,hr⟩:=hI;owns_form hr
         clear hv
         simp only [Act.put,zA,zB,zC,zD,zE,zF]
         iterate 2 (refine Rt.rs_sil rfl rfl rfl (fun K hK=>?_);go_simp;refine hK _ ?_;clear hK K)
         refine Rt.rs_eff rfl rfl rfl (fun W hI=>?_) (fun v hv=>?_)
         ·have hk:=hI.keep (Nat.le_refl _) HM.out.facts HM.out.blk (by simp)
          have c:=cell_of hk 2
          have f:=frozen_of hk 2
          obtain ⟨W0,hE,hg,hr⟩:=hI
          refine Rt.gives_skp ?_
          apply Exists.intro
          refine ⟨by go_simp;rfl,?_⟩
          exact ⟨W0,W,hE,hg,hr,rfl⟩
         clear hv
         simp only [Act.put,zA,zB,zC,zD,zE,zF]
         refine Rt.rs_nil (fun W15 hI=>?_)
         obtain ⟨Wa,Wb,hxa,hga,hra,hWb⟩:=hI
         obtain ⟨hrec,hkeep⟩:=mid_done (HM.out.ext hxa) (Nat.le_trans hBs14 hxa.size) HREC.out.verLen HREC.out.factLen HREC.out.four HCOM.out.1.len HCW.out.f.xlen HCW.out.f.four hga hra HCOM.out.2
         rw [← hWb] at hrec hkeep
         have HREC15:=Lib.hid hrec
         have HKEEP:=Lib.hid hkeep
         clear hxa hga hra hWb hrec hkeep
         go_wp2_with fail
         (try simp only [Array.getD_eq_getD_getElem?,List.getElem?_toArray,List.getElem?_cons_succ,List.getElem?_cons_zero,Option.getD_some])
         exact HDONE.out _ _ _ _ _ _ _ _ HCOM.out.1 HREC15.out HKEEP.out
end Go.Proofs.YtihfcjioilmmjaaGreat
