/- Lemmas: law. -/
import Derived.Test.YtihfcjioilmmjaaGreatRm1
import Derived.Test.YtihfcjioilmmjaaGreatRm20
import Derived.Test.YtihfcjioilmmjaaGreatRm19
set_option linter.all false
namespace Go.Proofs.YtihfcjioilmmjaaGreat
open Go Go.RowKit
open Go.Lib Go.Sort Go.Maps Go.Shelf Go.Proofs
set_option maxHeartbeats 16000000 in
set_option maxRecDepth 100000 in
theorem knows_any (w : World) (hg : Glob w) : Calls Tryz.prog 9 #[] w fun e w'=>e = .returned (.bool true) ∧ Ext w w':=by
 obtain ⟨W0,hW0⟩ : ∃ W0,W0 = (w.alloc (.cells #[.string tSteel,.string tIron,.string tWood] 9 (0,0))).alloc (.cells #[.string tMat,.slice (some ⟨w.heap.size,0,none⟩) 3 3,.int .i64 0,.int .i64 0,.string tBuilt,.slice none 0 0,.int .i64 1800,.int .i64 2030] 90 (0,0)):=⟨_,rfl⟩
 have hx0 : Ext w W0:=by rw [hW0];exact bel
 have hb0 : W0.heap[w.heap.size]? = some (.cells #[.string tSteel,.string tIron,.string tWood] 9 (0,0)):=by rw [hW0];simp only [heap_drawn_get,heap_drew_get,heap_setCell_get,heap_alloc_get,World.size_alloc,World.size_setCell,size_drawn,putObj_get,putObj_size];(repeat (first | rw [if_pos trivial] | rw [if_pos rfl] | rw [if_neg (by omega)] | rw [if_pos (by omega)]))
 have hb1 : W0.heap[w.heap.size + 1]? = some (.cells #[.string tMat,.slice (some ⟨w.heap.size,0,none⟩) 3 3,.int .i64 0,.int .i64 0,.string tBuilt,.slice none 0 0,.int .i64 1800,.int .i64 2030] 90 (0,0)):=by rw [hW0];simp only [heap_drawn_get,heap_drew_get,heap_setCell_get,heap_alloc_get,World.size_alloc,World.size_setCell,size_drawn,putObj_get,putObj_size];(repeat (first | rw [if_pos trivial] | rw [if_pos rfl] | rw [if_neg (by omega)] | rw [if_pos (by omega)]))
 have hat:=k_schemaAt hb0 hb1
 have hnew:=new_any _ [kMat,kBuilt] W0 hat (fun a ha=>by
  rcases List.mem_cons.1 ha with rfl | ha
  ·decide
  ·rw [List.mem_singleton.1 ha];decide)
 have HNEW:=Lib.hid hnew
 have HX0:=Lib.hid hx0
 have HGLB:=Lib.hid hg
 clear hnew hx0 hb0 hb1 hat hg
 unfold tSteel tIron tWood tMat tBuilt at hW0
 go_enter Tryz.func9,Tryz.ntmps9
 go_wp2_with fail
 rw [← hW0]
 clear hW0
 refine HNEW.out.mono ?_
 rintro e w1 ⟨hx1,⟨hno,_⟩ | ⟨_,rb,cm,vv,cols,hcm,rfl,hrec⟩⟩
 ·exact absurd k_new hno
 obtain ⟨c1,c2,rfl⟩ : ∃ c1 c2,cols = kCols c1 c2:=by
  match cols,hcm with
  | [(a,c1),(b,c2)],hcm=>
   simp only [List.map_cons,List.map_nil,List.cons.injEq,and_true] at hcm
   obtain ⟨rfl,rfl⟩:=hcm
   exact ⟨c1,c2,rfl⟩
 have hc : c1 ≠ c2:=fun e=>by
  subst e
  have:=cols_unique hrec (a:=kMat) (a':=kBuilt) (c:=c1) (by simp [kCols]) (by simp [kCols])
  exact absurd (congrArg Attr.low this) (by decide)
 have HC:=Lib.hid hc
 have HX1:=Lib.hid (HX0.out.trans' hx1)
 have HREC:=Lib.hid hrec
 clear hx1 hrec hc hcm
 obtain ⟨W2,hW2⟩ : ∃ W2,W2 = (((w1.alloc (.cells #[.int .i64 0] 3 (0,0))).alloc (.cells #[.string tIron,.string tWood] 9 (0,0))).alloc (.cells #[.string tSteel,.string tIron] 9 (0,0))).alloc (.cells #[.string tTay,.string tMat,.slice (some ⟨w1.heap.size + 1,0,none⟩) 2 2,.int .i64 0,.int .i64 0,.string tTay,.string tMat,.slice (some ⟨w1.heap.size + 1 + 1,0,none⟩) 2 2,.int .i64 0,.int .i64 0,.string tTay,.string tBuilt,.slice none 0 0,.int .i64 1870,.int .i64 1880] 46 (0,0)):=⟨_,rfl⟩
 have hx2 : Ext w1 W2:=by rw [hW2];exact bel
 have hb1 : W2.heap[w1.heap.size]? = some (.cells #[.int .i64 0] 3 (0,0)):=by rw [hW2];simp only [heap_drawn_get,heap_drew_get,heap_setCell_get,heap_alloc_get,World.size_alloc,World.size_setCell,size_drawn,putObj_get,putObj_size];(repeat (first | rw [if_pos trivial] | rw [if_pos rfl] | rw [if_neg (by omega)] | rw [if_pos (by omega)]))
 have hb2 : W2.heap[w1.heap.size + 1]? = some (.cells #[.string tIron,.string tWood] 9 (0,0)):=by rw [hW2];simp only [heap_drawn_get,heap_drew_get,heap_setCell_get,heap_alloc_get,World.size_alloc,World.size_setCell,size_drawn,putObj_get,putObj_size];(repeat (first | rw [if_pos trivial] | rw [if_pos rfl] | rw [if_neg (by omega)] | rw [if_pos (by omega)]))
 have hb3 : W2.heap[w1.heap.size + 1 + 1]? = some (.cells #[.string tSteel,.string tIron] 9 (0,0)):=by rw [hW2];simp only [heap_drawn_get,heap_drew_get,heap_setCell_get,heap_alloc_get,World.size_alloc,World.size_setCell,size_drawn,putObj_get,putObj_size];(repeat (first | rw [if_pos trivial] | rw [if_pos rfl] | rw [if_neg (by omega)] | rw [if_pos (by omega)]))
 have hb4 : W2.heap[w1.heap.size + 1 + 1 + 1]? = some (.cells #[.string tTay,.string tMat,.slice (some ⟨w1.heap.size + 1,0,none⟩) 2 2,.int .i64 0,.int .i64 0,.string tTay,.string tMat,.slice (some ⟨w1.heap.size + 1 + 1,0,none⟩) 2 2,.int .i64 0,.int .i64 0,.string tTay,.string tBuilt,.slice none 0 0,.int .i64 1870,.int .i64 1880] 46 (0,0)):=by rw [hW2];simp only [heap_drawn_get,heap_drew_get,heap_setCell_get,heap_alloc_get,World.size_alloc,World.size_setCell,size_drawn,putObj_get,putObj_size];(repeat (first | rw [if_pos trivial] | rw [if_pos rfl] | rw [if_neg (by omega)] | rw [if_pos (by omega)]))
 have hadds:=k_addsAt hb2 hb3 hb4
 have hps : IntsAt W2 (.slice (some ⟨w1.heap.size,0,none⟩) 1 1) [0]:=sl_one hb1
 have hwd : IntsAt W2 (.slice none 0 0) []:=⟨none,0,rfl,Nat.le_refl _,Nat.zero_le _,rfl,fun j u hu=>by simp at hu⟩
 have HX2:=Lib.hid (HX1.out.trans' hx2)
 have HREC2:=Lib.hid (HREC.out.ext hx2)
 have HAD:=Lib.hid hadds
 have HPS:=Lib.hid hps
 have HWD:=Lib.hid hwd
 clear hadds hps hwd hx2 hb1 hb2 hb3 hb4
 unfold tSteel tIron tWood tMat tBuilt tTay at hW2
 unfold encP
 go_wp2_with fail
 rw [← hW2]
 clear hW2
 refine commit_try HREC2.out (HGLB.out.ext HX2.out) _ _ _ [0] HPS.out (by decide) kAdds HAD.out (by decide) (fun f hf=>by
  rcases List.mem_cons.1 hf with rfl | hf
  ·decide
  ·rcases List.mem_cons.1 hf with rfl | hf
   ·decide
   ·rw [List.mem_singleton.1 hf];decide) [] HWD.out _ ?_ ?_ ?_ ?_ ?_ ?_
 ·intro W _ h;exact absurd h (by decide)
 ·rintro W _ _ ⟨p,hp,h⟩;rw [List.mem_singleton.1 hp] at h;exact absurd h (by simp [hasV])
 ·intro W _ _ _ h;rw [k_rows] at h;cases h
 ·intro W _ h;exact absurd rfl h
 ·rintro W _ (h | h)
  ·exact absurd h (by show ¬ 200 ≤ 1;decide)
  ·exact absurd h (by show ¬ 300 < 0 + 3;decide)
 intro W3 frs la lw v' f' os' xs' hC hR3 hK
 obtain rfl : frs = kRows c1 c2:=by
  have:=hC.rows
  rw [k_rows] at this
  exact (Option.some.inj this).symm
 have hx3 : Ext w W3:=by
  have h1:=HX2.out
  have hs : w.heap.size ≤ W0.heap.size:=HX0.out.size
  refine ⟨hK.os.trans h1.os,hK.tape.trans h1.tape,hK.output.trans h1.output,Nat.le_trans h1.size hK.size,fun k hk=>?_⟩
  obtain ⟨o,ho⟩ : ∃ o,w.heap[k]? = some o:=⟨_,Array.getElem?_eq_getElem hk⟩
  rw [ho]
  exact hK.block k o (h1.obj ho) (.inl (by omega))
 obtain ⟨R,hRe⟩ : ∃ R,commitR ⟨kCols c1 c2,[⟨[],[]⟩],[]⟩ (kRows c1 c2) la lw = R:=⟨_,rfl⟩
 have hv1 : R.vers[1]? = some ⟨la,lw⟩:=by rw [← hRe];rfl
 have hcm1 : colOf R tMat = some (kMat,c1):=by rw [← hRe];exact k_col1 _ _ _ _
 have hhf : heldF R ⟨la,lw⟩ = kHeld c1 c2:=by
  rw [← hRe]
  exact k_held hC (by rw [hRe] at hR3;exact (hR3.ok.keys ⟨la,lw⟩ (List.mem_of_getElem? hv1)).1)
 rw [hRe] at hR3
 have hkn:=known_any hR3 (HGLB.out.ext hx3) hv1 tTay tMat (by decide) (by kernel_rfl) hcm1
 rw [hhf,k_of1 HC.out,k_doubt HC.out,k_facts HC.out] at hkn
 replace hkn : Calls Tryz.prog 13 #[encP rb,.int .i64 1,.string tTay,.string tMat] W3 fun e w'=>∃ xv fvs,e = .returned (.tuple #[.agg #[xv,.int .i64 0,.int .i64 0,fvs,.bool false],.int .i64 0]) ∧
   w'.ownsRow W3.heap.size 9 1 xv (valsB 2 kMat.values.zipIdx).length ((valsB 2 kMat.values.zipIdx).map Value.string) ∧ w'.ownsRow W3.heap.size 3 1 fvs 2 [.int .i64 1,.int .i64 2] ∧ Ext W3 w':=hkn
 rw [k_vals] at hkn
 have HKN:=Lib.hid hkn
 have HREC3:=Lib.hid hR3
 have HX3:=Lib.hid hx3
 have HHF:=Lib.hid hhf
 have HV1:=Lib.hid hv1
 have HCOL:=Lib.hid (show R.cols = kCols c1 c2 by rw [← hRe];rfl)
 clear hkn hR3 hx3 hhf hv1 hRe hcm1 hC hK HREC HREC2
 unfold encP at HKN
 rw [show (((({ cols:=kCols c1 c2,vers:=[{ added:=[],wd:=[] }],facts:=[] } : Rec).vers.length : Nat)) : Int) = 1 from rfl]
 go_wp2_with fail
 refine HKN.out.mono ?_
 rintro e w4 ⟨xv,fvs,rfl,hxr,hfr,hx4⟩
 obtain ⟨g,xc,rfl,hxc⟩ : ∃ g xc,xv = .slice (some ⟨g,0,none⟩) 1 xc ∧ w4.cell? ⟨g,0,none⟩ = some (.string tIron):=by
  rcases hxr.2 with ⟨_,h0⟩ | ⟨g,cap,cur,he,_,hgg,_,_,_,ht⟩
  ·cases h0
  ·refine ⟨g,cap,he,?_⟩
   rw [cell_of hgg]
   have h2 : (cur.toList.take (1 * 1))[0]? = some (.string tIron):=by
    have : cur.toList.take ([tIron].length * 1) = [.string tIron]:=ht
    rw [show (1 * 1 : Nat) = [tIron].length * 1 from rfl,this];rfl
   rw [List.getElem?_take] at h2
   simpa using h2
 obtain ⟨fp,fc,rfl⟩:=owns_form hfr
 obtain ⟨W5,hW5⟩ : ∃ W5,W5 = w4.alloc (.cells #[.slice (some ⟨g,0,none⟩) 1 xc,.int .i64 0,.int .i64 0,.slice fp 2 fc,.bool false] 52 (0,0)):=⟨_,rfl⟩
 have hx5 : Ext w4 W5:=by rw [hW5];exact bel
 have hb5 : W5.heap[w4.heap.size]? = some (.cells #[.slice (some ⟨g,0,none⟩) 1 xc,.int .i64 0,.int .i64 0,.slice fp 2 fc,.bool false] 52 (0,0)):=by rw [hW5];simp only [heap_drawn_get,heap_drew_get,heap_setCell_get,heap_alloc_get,World.size_alloc,World.size_setCell,size_drawn,putObj_get,putObj_size];(repeat (first | rw [if_pos trivial] | rw [if_pos rfl] | rw [if_neg (by omega)] | rw [if_pos (by omega)]))
 have d0:=cell_of hb5 0
 have d3:=cell_of hb5 3
 have d4:=cell_of hb5 4
 have dg:=hx5.cell' hxc
 have HX5:=Lib.hid (hx4.trans' hx5)
 clear hx4 hx5 hb5 hxr hfr hxc
 go_upto_region 6 with fail
 rw [← hW5]
 clear hW5
 have hti : tIron.toList = [105,114,111,110]:=by kernel_rfl
 go_upto_region 8 with fail
 obtain ⟨W6,hW6⟩ : ∃ W6,W6 = W5.alloc (.cells #[.int .u8 1,.string tBuilt,.slice none 0 0,.int .i64 1800,.int .i64 1874,.slice none 0 0] 29 (0,0)):=⟨_,rfl⟩
 have hx6 : Ext W5 W6:=by rw [hW6];exact bel
 have hb6 : W6.heap[W5.heap.size]? = some (.cells #[.int .u8 1,.string tBuilt,.slice none 0 0,.int .i64 1800,.int .i64 1874,.slice none 0 0] 29 (0,0)):=by rw [hW6];simp only [heap_drawn_get,heap_drew_get,heap_setCell_get,heap_alloc_get,World.size_alloc,World.size_setCell,size_drawn,putObj_get,putObj_size];(repeat (first | rw [if_pos trivial] | rw [if_pos rfl] | rw [if_neg (by omega)] | rw [if_pos (by omega)]))
 have HX6:=Lib.hid (HX5.out.trans' hx6)
 have HB6:=Lib.hid hb6
 clear hx6 hb6 d0 d3 d4 dg hti
 unfold tBuilt at hW6
 go_upto_region 9 with fail
 rw [← hW6]
 clear hW6
 refine Rt.wp_region_rt (by kernel_rfl) [0,1,4,2,3,5,6,7,8,9,10,11,12,13] [2,3,5,8] [3,3,1000,1000,2,1000,3,3] [0,0,0,4,0,28,60,124,255,511,1023,1023,2047,8191] (by kernel_rfl) (KqI W6) ?_ ?_
 ·exact ⟨(below_drawn (ext_refl _) _ : Ext _ _),trivial⟩
 iterate 2 (refine Rt.rs_sil rfl rfl rfl (fun K hK=>?_);go_simp;refine hK _ ?_;clear hK K)
 (refine Rt.rs_rd rfl rfl rfl ?_;apply Exists.intro;refine ⟨fun us' W hp hl hI=>?_,?_⟩;· (have hE:=HB6.out;have hF:=hI.1;have g0:=cell_of (hF.obj hE) 0;have g1:=cell_of (hF.obj hE) 1;have g2:=cell_of (hF.obj hE) 2;have g3:=cell_of (hF.obj hE) 3;have g4:=cell_of (hF.obj hE) 4;have g5:=cell_of (hF.obj hE) 5;go_simp;rfl));simp only [Act.put,zA,zB,zC,zD,zE,zF]
 refine Rt.rs_eff rfl rfl rfl (fun W hI=>?_) (fun v hv=>?_)
 ·have hE:=hI.1
  refine Rt.gives_val ?_
  apply Exists.intro
  apply Exists.intro
  refine ⟨by go_simp;exact ⟨rfl,rfl⟩,?_⟩
  refine ⟨hE.trans' (by exact bel),_,rfl,?_⟩
  simp only [heap_drawn_get,heap_drew_get,heap_setCell_get,heap_alloc_get,World.size_alloc,World.size_setCell,size_drawn,putObj_get,putObj_size];(repeat (first | rw [if_pos trivial] | rw [if_pos rfl] | rw [if_neg (by omega)] | rw [if_pos (by omega)]))
  rfl
 obtain ⟨b2,rfl⟩ : ∃ b2,v = .slice (some ⟨b2,0,none⟩) 1 1:=let ⟨W,hI⟩:=hv;let ⟨b2,h,_⟩:=hI.2;⟨b2,h⟩
 clear hv
 simp only [Act.put,zA,zB,zC,zD,zE,zF]
 refine Rt.rs_eff rfl rfl rfl (fun W hI=>?_) (fun v hv=>?_)
 ·obtain ⟨hE,b',e,hb⟩:=hI
  simp only [Value.slice.injEq,Option.some.injEq,Addr.mk.injEq,and_true] at e
  subst e
  refine Rt.gives_cal ?_
  apply Exists.intro
  apply Exists.intro
  apply Exists.intro
  refine ⟨by go_simp;exact ⟨⟨rfl,rfl⟩,rfl⟩,?_⟩
  refine (material_any _ 1 1 _).mono ?_
  rintro e w5 ⟨rfl,hx5⟩
  exact ⟨_,rfl,hE.trans' hx5,b2,rfl,hx5.obj hb⟩
 obtain ⟨b2',rfl⟩ : ∃ b2',v = .agg #[.int .u8 1,.string tMat,.slice (some ⟨b2',0,none⟩) 1 1,.int .i64 0,.int .i64 0,.slice none 0 0]:=let ⟨W,hI⟩:=hv;let ⟨b,h,_⟩:=hI.2;⟨b,h⟩
 clear hv
 simp only [Act.put,zA,zB,zC,zD,zE,zF]
 refine Rt.rs_eff rfl rfl rfl (fun W hI=>?_) (fun v hv=>?_)
 ·obtain ⟨hE,b',e,hb⟩:=hI
  simp only [Value.agg.injEq,Array.mk.injEq,List.cons.injEq,Value.slice.injEq,Option.some.injEq,Addr.mk.injEq,and_true,true_and] at e
  subst e
  refine Rt.gives_val ?_
  apply Exists.intro
  apply Exists.intro
  refine ⟨by go_simp;exact ⟨rfl,rfl⟩,?_⟩
  refine ⟨hE.trans' (by exact bel),b2',_,rfl,?_,?_⟩
  ·exact (show Ext W (W.alloc _) by exact bel).obj hb
  ·simp only [heap_drawn_get,heap_drew_get,heap_setCell_get,heap_alloc_get,World.size_alloc,World.size_setCell,size_drawn,putObj_get,putObj_size];(repeat (first | rw [if_pos trivial] | rw [if_pos rfl] | rw [if_neg (by omega)] | rw [if_pos (by omega)]))
 obtain ⟨b5,rfl⟩ : ∃ b5,v = .slice (some ⟨b5,0,none⟩) 2 2:=let ⟨W,hI⟩:=hv;let ⟨_,b5,h,_⟩:=hI.2;⟨b5,h⟩
 clear hv
 simp only [Act.put,zA,zB,zC,zD,zE,zF]
 iterate 2 (refine Rt.rs_sil rfl rfl rfl (fun K hK=>?_);go_simp;refine hK _ ?_;clear hK K)
 refine Rt.rs_eff rfl rfl rfl (fun W hI=>?_) (fun v hv=>?_)
 ·obtain ⟨hE,b2'',b5',e,hb2,hb5⟩:=hI
  simp only [Value.slice.injEq,Option.some.injEq,Addr.mk.injEq,and_true] at e
  subst e
  refine Rt.gives_cal ?_
  apply Exists.intro
  apply Exists.intro
  apply Exists.intro
  refine ⟨by go_simp;exact ⟨⟨rfl,rfl⟩,rfl⟩,?_⟩
  have hEW:=HX6.out.trans' hE
  have hq:=k_query (HREC3.out.ext hEW) (HGLB.out.ext (HX3.out.trans' hEW)) HCOL.out HC.out HV1.out HHF.out hb2 hb5
  unfold encP at hq
  refine hq.mono ?_
  rintro e w5 ⟨mg,mc,rfl,h1,h2,hx5⟩
  exact ⟨_,rfl,hE.trans' hx5,mg,mc,rfl,h1,h2⟩
 obtain ⟨mg,mc,rfl⟩ : ∃ mg mc,v = .tuple #[.slice (some ⟨mg,0,none⟩) 1 mc,.int .i64 0]:=let ⟨W,hI⟩:=hv;let ⟨mg,mc,h,_⟩:=hI.2;⟨mg,mc,h⟩
 clear hv
 simp only [Act.put,zA,zB,zC,zD,zE,zF]
 iterate 5 (refine Rt.rs_sil rfl rfl rfl (fun K hK=>?_);go_simp;refine hK _ ?_;clear hK K)
 refine Rt.rs_nil (fun W7 hI=>?_)
 obtain ⟨hx7,mg',mc',e,hm0,hm1⟩:=hI
 simp only [Value.tuple.injEq,Array.mk.injEq,List.cons.injEq,Value.slice.injEq,Option.some.injEq,Addr.mk.injEq,and_true,true_and] at e
 obtain ⟨rfl,rfl⟩:=e
 obtain ⟨W8,hW8⟩ : ∃ W8,W8 = W7.alloc (.cells #[.string tIron] 9 (0,0)):=⟨_,rfl⟩
 have hx8 : Ext W7 W8:=by rw [hW8];exact bel
 have hb8 : W8.heap[W7.heap.size]? = some (.cells #[.string tIron] 9 (0,0)):=by rw [hW8];simp only [heap_drawn_get,heap_drew_get,heap_setCell_get,heap_alloc_get,World.size_alloc,World.size_setCell,size_drawn,putObj_get,putObj_size];(repeat (first | rw [if_pos trivial] | rw [if_pos rfl] | rw [if_neg (by omega)] | rw [if_pos (by omega)]))
 have HX7:=Lib.hid hx7
 have HX8:=Lib.hid hx8
 have HB8:=Lib.hid hb8
 have HM0:=Lib.hid hm0
 have HM1:=Lib.hid hm1
 clear hx7 hx8 hb8 hm0 hm1
 unfold tIron at hW8
 go_wp2_with fail
 rw [← hW8]
 clear hW8
 refine (material_any (some ⟨W7.heap.size,0,none⟩) 1 1 W8).mono ?_
 rintro e w9 ⟨rfl,hx9⟩
 obtain ⟨W10,hW10⟩ : ∃ W10,W10 = w9.alloc (.cells #[.string tIron] 9 (0,0)):=⟨_,rfl⟩
 have hx10 : Ext w9 W10:=by rw [hW10];exact bel
 have hb10 : W10.heap[w9.heap.size]? = some (.cells #[.string tIron] 9 (0,0)):=by rw [hW10];simp only [heap_drawn_get,heap_drew_get,heap_setCell_get,heap_alloc_get,World.size_alloc,World.size_setCell,size_drawn,putObj_get,putObj_size];(repeat (first | rw [if_pos trivial] | rw [if_pos rfl] | rw [if_neg (by omega)] | rw [if_pos (by omega)]))
 have HX10:=Lib.hid (HX8.out.trans' (hx9.trans' hx10))
 have HB8':=Lib.hid ((hx9.trans' hx10).obj HB8.out)
 have HB10:=Lib.hid hb10
 clear hx9 hx10 hb10
 unfold tIron at hW10
 go_wp2_with fail
 rw [← hW10]
 clear hW10
 refine (material_any (some ⟨w9.heap.size,0,none⟩) 1 1 W10).mono ?_
 rintro e w11 ⟨rfl,hx11⟩
 obtain ⟨W12,hW12⟩ : ∃ W12,W12 = (w11.alloc (.cells #[.int .u8 1,.string tMat,.slice (some ⟨w9.heap.size,0,none⟩) 1 1,.int .i64 0,.int .i64 0,.slice none 0 0] 29 (0,0))).alloc (.cells #[.int .u8 1,.string tMat,.slice (some ⟨W7.heap.size,0,none⟩) 1 1,.int .i64 0,.int .i64 0,.slice none 0 0,.int .u8 2,.string ⟨#[]⟩,.slice none 0 0,.int .i64 0,.int .i64 0,.slice (some ⟨w11.heap.size,0,none⟩) 1 1] 29 (0,0)):=⟨_,rfl⟩
 have hx12 : Ext w11 W12:=by rw [hW12];exact bel
 have hb12 : W12.heap[w11.heap.size]? = some (.cells #[.int .u8 1,.string tMat,.slice (some ⟨w9.heap.size,0,none⟩) 1 1,.int .i64 0,.int .i64 0,.slice none 0 0] 29 (0,0)):=by rw [hW12];simp only [heap_drawn_get,heap_drew_get,heap_setCell_get,heap_alloc_get,World.size_alloc,World.size_setCell,size_drawn,putObj_get,putObj_size];(repeat (first | rw [if_pos trivial] | rw [if_pos rfl] | rw [if_neg (by omega)] | rw [if_pos (by omega)]))
 have hb13 : W12.heap[w11.heap.size + 1]? = some (.cells #[.int .u8 1,.string tMat,.slice (some ⟨W7.heap.size,0,none⟩) 1 1,.int .i64 0,.int .i64 0,.slice none 0 0,.int .u8 2,.string ⟨#[]⟩,.slice none 0 0,.int .i64 0,.int .i64 0,.slice (some ⟨w11.heap.size,0,none⟩) 1 1] 29 (0,0)):=by rw [hW12];simp only [heap_drawn_get,heap_drew_get,heap_setCell_get,heap_alloc_get,World.size_alloc,World.size_setCell,size_drawn,putObj_get,putObj_size];(repeat (first | rw [if_pos trivial] | rw [if_pos rfl] | rw [if_neg (by omega)] | rw [if_pos (by omega)]))
 have hx712:=HX10.out.trans' (hx11.trans' hx12)
 have hEW:=(HX6.out.trans' HX7.out).trans' hx712
 have hlk:=k_likes (HREC3.out.ext hEW) (HGLB.out.ext (HX3.out.trans' hEW)) HCOL.out HC.out HV1.out HHF.out ((hx11.trans' hx12).obj HB8'.out) ((hx11.trans' hx12).obj HB10.out) hb12 hb13
 unfold encP tForth at hlk
 have HLK:=Lib.hid hlk
 have HEW:=Lib.hid hEW
 have HM0':=Lib.hid (hx712.cell' HM0.out)
 have HM1':=Lib.hid (hx712.cell' HM1.out)
 clear hlk hx11 hx12 hb12 hb13 hx712 hEW
 go_wp2_with fail
 rw [← hW12]
 clear hW12
 refine HLK.out.mono ?_
 rintro e w13 ⟨rfl,hx13⟩
 have m0:=hx13.cell' HM0'.out
 have m1:=hx13.cell' HM1'.out
 have HX13:=Lib.hid (HX3.out.trans' (HEW.out.trans' hx13))
 have htt : tTay.toList = [116,97,121]:=by kernel_rfl
 clear hx13
 go_wp2_with fail
 go_ret
 exact ⟨rfl,HX13.out⟩
end Go.Proofs.YtihfcjioilmmjaaGreat
namespace Go.Proofs.YtihfcjioilmmjaaGreat.Rt
open Go
section
variable {P : Program} {ops : Array Oper}
def pairsOkF (ops : Array Oper) (effs cls : List Nat) (f : Nat) : List Nat → Bool
 | []=>true
 | x :: r=>(r.all fun y=>y != x && pairOk ops cls x y && (!(effs.contains x || x == f) || y == f || dep cls y x)) && pairsOkF ops effs cls f r
def okF (ops : Array Oper) (π effs his cls : List Nat) (f : Nat) : Bool:=
 noSel ops &&
 ((List.range ops.size).all fun i=>match ops[i]? with
  | some o=>(o.after.all fun e=>!Region.binds .any e || decide (e.on < i)) &&
   ((List.range ops.size).all fun j=>!dep cls i j || o.after.any fun e=>Region.binds .any e && (e.on == j || dep cls e.on j))
  | none=>true) &&
 (cls.length == ops.size) &&
 (π.all fun i=>decide (i < ops.size)) && ((List.range ops.size).all fun i=>π.contains i) && pairsOkF ops effs cls f π &&
 (π.filter (fun i=>effs.contains i) == effs) &&
 (π.all fun i=>effs.contains i || match effs[his.getD i 1000]? with | some e=>dep cls e i | none=>true) &&
 (match ops[f]? with | some o=>(o.looksAt ops).isEmpty && o.guard.isNone | none=>false) && !effs.contains f
structure OkF (ops : Array Oper) (π effs his cls : List Nat) (f : Nat) : Prop where
 sel : ∀ (i : Nat) o cs b,ops[i]? = some o → o.op ≠ .select cs b
 down : ∀ (i : Nat) o,ops[i]? = some o → ∀ e ∈ o.after,Region.binds .any e = true → e.on < i
 cl : ∀ (i : Nat) o j,ops[i]? = some o → dep cls i j = true → j < ops.size → ∃ e ∈ o.after,Region.binds .any e = true ∧ (e.on = j ∨ dep cls e.on j = true)
 all : ∀ i,i < ops.size → i ∈ π
 lt : ∀ i ∈ π,i < ops.size
 pairs : pairsOkF ops effs cls f π = true
 effsEq : π.filter (fun i=>effs.contains i) = effs
 hi : ∀ i ∈ π,effs.contains i = false → ∀ e,effs[his.getD i 1000]? = some e → dep cls e i = true
 fl : ∃ o,ops[f]? = some o ∧ o.looksAt ops = [] ∧ o.guard = none
 fe : effs.contains f = false
theorem okF_of {π effs his cls : List Nat} {f : Nat} (h : okF ops π effs his cls f = true) : OkF ops π effs his cls f:=by
 simp only [okF,Bool.and_eq_true] at h
 obtain ⟨⟨⟨⟨⟨⟨⟨⟨⟨h1,h2⟩,_⟩,h3⟩,h4⟩,h5⟩,h6⟩,h7⟩,h8⟩,h9⟩:=h
 refine ⟨?_,?_,?_,?_,?_,h5,by simpa using h6,?_,?_,by simpa using h9⟩
 ·intro i o cs b ho hs
  unfold noSel at h1
  rw [Array.all_eq_true_iff_forall_mem] at h1
  have:=h1 o (Array.mem_of_getElem? ho)
  rw [hs] at this;cases this
 ·intro i o ho e he hb
  have hlt : i < ops.size:=(Array.getElem?_eq_some_iff.1 ho).1
  have:=List.all_eq_true.1 h2 i (by simpa using hlt)
  simp only [ho,Bool.and_eq_true] at this
  have:=(Array.all_eq_true_iff_forall_mem.1 this.1) e he
  simpa [hb] using this
 ·intro i o j ho hd hj
  have hlt : i < ops.size:=(Array.getElem?_eq_some_iff.1 ho).1
  have:=List.all_eq_true.1 h2 i (by simpa using hlt)
  simp only [ho,Bool.and_eq_true] at this
  have:=List.all_eq_true.1 this.2 j (by simpa using hj)
  simp only [hd,Bool.not_true,Bool.false_or] at this
  obtain ⟨e,he,hh⟩:=Array.any_eq_true'.1 this
  simp only [Bool.and_eq_true,Bool.or_eq_true,beq_iff_eq] at hh
  exact ⟨e,he,hh.1,hh.2⟩
 ·intro i hi
  have:=List.all_eq_true.1 h4 i (by simpa using hi)
  simpa using this
 ·intro i hi
  have:=List.all_eq_true.1 h3 i hi
  simpa using this
 ·intro i hi he e hee
  have:=List.all_eq_true.1 h7 i hi
  simp only [he,Bool.false_or,hee] at this
  exact this
 ·cases ho : ops[f]? with
  | none=>rw [ho] at h8;cases h8
  | some o=>
   rw [ho] at h8
   simp only [Bool.and_eq_true,List.isEmpty_iff,Option.isNone_iff_eq_none] at h8
   exact ⟨o,rfl,h8.1,h8.2⟩
theorem pairsF_spec {effs cls : List Nat} {f : Nat} : ∀ {π l1 : List Nat} {x : Nat} {l2 : List Nat},pairsOkF ops effs cls f π = true → π = l1 ++ x :: l2 → ∀ y ∈ l2,y ≠ x ∧ pairOk ops cls x y = true ∧ (effs.contains x = true ∨ x = f → y ≠ f → dep cls y x = true)
 | [],l1,x,l2,_,h=>by simp at h
 | p :: r,[],x,l2,hp,h=>by
  obtain ⟨rfl,rfl⟩ : p = x ∧ r = l2:=by simpa using h
  simp only [pairsOkF,Bool.and_eq_true] at hp
  intro y hy
  have:=List.all_eq_true.1 hp.1 y hy
  simp only [Bool.and_eq_true,bne_iff_ne,ne_eq,Bool.or_eq_true,Bool.not_eq_true',Bool.or_eq_false_iff,beq_iff_eq,beq_eq_false_iff_ne] at this
  refine ⟨this.1.1,this.1.2,fun he hy=>?_⟩
  rcases this.2 with (h0 | h0) | h0
  ·rcases he with he | he
   ·rw [he] at h0;cases h0.1
   ·exact absurd he h0.2
  ·exact absurd h0 hy
  ·exact h0
 | p :: r,q :: l1,x,l2,hp,h=>by
  obtain ⟨rfl,rfl⟩ : p = q ∧ r = l1 ++ x :: l2:=by simpa using h
  simp only [pairsOkF,Bool.and_eq_true] at hp
  exact pairsF_spec hp.2 rfl
theorem dep_listedF {π effs his cls : List Nat} {f : Nat} (hok : OkF ops π effs his cls f) {L : Nat → Bool}
  (hL : ∀ (i : Nat) o,ops[i]? = some o → L i = true → ∀ e ∈ o.after,Region.binds .any e = true → L e.on = true) :
  ∀ (n i : Nat) o,i < n → ops[i]? = some o → (∀ e ∈ o.after,Region.binds .any e = true → L e.on = true) → ∀ j,j < ops.size → dep cls i j = true → L j = true:=by
 intro n
 induction n with
 | zero=>intro i o h;omega
 | succ n ih=>
  intro i o hi ho he j hj hd
  obtain ⟨e,hm,hb,hh⟩:=hok.cl i o j ho hd hj
  rcases hh with rfl | hh
  ·exact he e hm hb
  ·have hlt:=hok.down i o ho e hm hb
   have hi' : i < ops.size:=(Array.getElem?_eq_some_iff.1 ho).1
   have ho' : ops[e.on]? = some ops[e.on]:=Array.getElem?_eq_getElem (by omega)
   exact ih e.on _ (by omega) ho' (hL e.on _ ho' (he e hm hb)) j hj hh
def RSeqF (P : Program) (ops : Array Oper) (eff : Nat → Bool) (hi : Nat → Nat) (f : Nat) (J : Option Value → List Value → World → Prop) (Q : Act → World → Prop) : List Nat → List Value → Option Value → Act → Prop
 | [],us,fo,a=>∀ w,J fo us w → Q a w
 | i :: π,us,fo,a=>
  if i = f then ∀ v,(∃ us' w,J (some v) us' w) → RSeqF P ops eff hi f J Q π us (some v) (a.put (dstOf ops i) v)
  else if eff i = true then
   (∀ fo' w,(fo = none ∨ fo' = fo) → J fo' us w → stepAt P ops i a w (fun v w'=>J fo' (us ++ [v]) w')) ∧ ∀ v,(∃ fo' w,J fo' (us ++ [v]) w) → RSeqF P ops eff hi f J Q π (us ++ [v]) fo (a.put (dstOf ops i) v)
  else
   ∃ v,(∀ us' fo' w,us <+: us' → us'.length ≤ hi i → (fo = none ∨ fo' = fo) → J fo' us' w → stepAt P ops i a w (fun v' w'=>v' = v ∧ J fo' us' w')) ∧ RSeqF P ops eff hi f J Q π us fo (a.put (dstOf ops i) v)
variable {π effs his cls : List Nat} {f : Nat} {J : Option Value → List Value → World → Prop} {Q : Act → World → Prop}
def OblF (P : Program) (ops : Array Oper) (his : List Nat) (J : Option Value → List Value → World → Prop) (fi : Option Value) (us : List Value) (i : Nat) (v : Value) (a : Act) : Prop:=
 ∀ us' fo' w,us <+: us' → us'.length ≤ his.getD i 1000 → (fi = none ∨ fo' = fi) → J fo' us' w → stepAt P ops i a w (fun v' w'=>v' = v ∧ J fo' us' w')
theorem oblF_weaken {fi : Option Value} {us us' : List Value} {i : Nat} {v : Value} {a : Act} (h : OblF P ops his J fi us i v a) (hp : us <+: us') : OblF P ops his J fi us' i v a:=
 fun us2 fo' w h1 h2 h3 h4=>h us2 fo' w (hp.trans h1) h2 h3 h4
theorem segmentF (us : List Value) (fo : Option Value) : ∀ (ρ : List Nat) (a : Act),RSeqF P ops (fun i=>effs.contains i) (fun i=>his.getD i 1000) f J Q ρ us fo a →
  ∃ T ρ',ρ = T.map (·.1) ++ ρ' ∧ (ρ' = [] ∨ ∃ e r,ρ' = e :: r ∧ (effs.contains e = true ∨ e = f)) ∧ (∀ x ∈ T,effs.contains x.1 = false ∧ x.1 ≠ f) ∧
   RSeqF P ops (fun i=>effs.contains i) (fun i=>his.getD i 1000) f J Q ρ' us fo (puts ops a T) ∧ ∀ T1 i v T2,T = T1 ++ (i,v) :: T2 → OblF P ops his J fo us i v (puts ops a T1)
 | [],a,h=>⟨[],[],rfl,.inl rfl,by simp,h,fun T1 i v T2 e=>by simp at e⟩
 | i :: ρ,b,h=>by
  by_cases hif : i = f
  ·exact ⟨[],i :: ρ,rfl,.inr ⟨i,ρ,rfl,.inr hif⟩,by simp,h,fun T1 i v T2 e=>by simp at e⟩
  cases he : effs.contains i with
  | true=>exact ⟨[],i :: ρ,rfl,.inr ⟨i,ρ,rfl,.inl he⟩,by simp,h,fun T1 i v T2 e=>by simp at e⟩
  | false=>
   unfold RSeqF at h
   rw [if_neg hif,if_neg (by simp only [he];exact Bool.false_ne_true)] at h
   obtain ⟨v,h1,h2⟩:=h
   obtain ⟨T,ρ',e1,e2,e3,e4,e5⟩:=segmentF us fo ρ _ h2
   refine ⟨(i,v) :: T,ρ',by rw [e1];rfl,e2,?_,e4,?_⟩
   ·intro x hx
    rcases List.mem_cons.1 hx with rfl | hx
    ·exact ⟨he,hif⟩
    ·exact e3 x hx
   ·intro T1 j u T2 e
    cases T1 with
    | nil=>
     obtain ⟨⟨rfl,rfl⟩,rfl⟩ : (i = j ∧ v = u) ∧ T = T2:=by simpa using e
     exact h1
    | cons y T1=>
     obtain ⟨rfl,rfl⟩ : (i,v) = y ∧ T = T1 ++ (j,u) :: T2:=by simpa using e
     exact e5 T1 j u T2 rfl
def Frm (ops : Array Oper) (a0 : Act) (T : List (Nat × Value)) (listed : Array Bool) (f : Nat) (fl : Option Value) : Act:=
 match fl with
 | none=>puts ops a0 (T.filter fun x=>listed.getD x.1 false)
 | some v=>if f ∈ T.map (·.1) then puts ops a0 (T.filter fun x=>listed.getD x.1 false) else (puts ops a0 (T.filter fun x=>listed.getD x.1 false)).put (dstOf ops f) v
structure St (P : Program) (ops : Array Oper) (π effs his : List Nat) (f : Nat) (J : Option Value → List Value → World → Prop) (Q : Act → World → Prop) (a0 : Act) (listed : Array Bool) (a : Act) (w : World) (T : List (Nat × Value)) (ρ : List Nat) (us : List Value) (fo fl : Option Value) : Prop where
 hπ : π = T.map (·.1) ++ ρ
 hρ : ρ = [] ∨ ∃ e r,ρ = e :: r ∧ (effs.contains e = true ∨ e = f)
 hR : RSeqF P ops (fun i=>effs.contains i) (fun i=>his.getD i 1000) f J Q ρ us fo (puts ops a0 T)
 hT : ∀ i,listed.getD i false = true → i ∈ T.map (·.1) ∨ i = f
 hTe : ∀ x ∈ T,effs.contains x.1 = true ∨ x.1 = f → listed.getD x.1 false = true
 hus : us.length = ((T.map (·.1)).filter (fun i=>effs.contains i)).length
 ha : a = Frm ops a0 T listed f fl
 hI : J fl us w
 hob : ∀ T1 i v T2,T = T1 ++ (i,v) :: T2 → listed.getD i false = false → ∃ fi,(fi = none ∨ fi = fl) ∧ OblF P ops his J fi us i v (puts ops a0 T1)
 hfl : listed.getD f false = fl.isSome
 hin : f ∈ T.map (·.1) → fo = fl
 hout : f ∉ T.map (·.1) → fo = none
theorem St.norm (hok : OkF ops π effs his cls f) {a0 : Act} {listed : Array Bool} {a : Act} {w : World} {T : List (Nat × Value)} {ρ : List Nat} {us : List Value} {fo fl : Option Value}
  (s : St P ops π effs his f J Q a0 listed a w T ρ us fo fl) : ∃ T' ρ' fo',St P ops π effs his f J Q a0 listed a w T' ρ' us fo' fl ∧ ∀ r,ρ' = f :: r → fl = none:=by
 cases hfl : fl with
 | none=>exact ⟨T,ρ,fo,by rw [← hfl];exact s,fun _ _=>rfl⟩
 | some v=>
  by_cases hr : ∃ r,ρ = f :: r
  rotate_left
  ·exact ⟨T,ρ,fo,by rw [← hfl];exact s,fun r e=>absurd ⟨r,e⟩ hr⟩
  obtain ⟨r,rfl⟩:=hr
  have hπn : ∀ l1 x l2,π = l1 ++ x :: l2 → ∀ y ∈ l2,y ≠ x ∧ pairOk ops cls x y = true ∧ (effs.contains x = true ∨ x = f → y ≠ f → dep cls y x = true):=fun l1 x l2 h=>pairsF_spec hok.pairs h
  have hfT : f ∉ T.map (·.1):=fun hm=>by
   obtain ⟨l1,l2,hl⟩:=List.append_of_mem hm
   exact (hπn l1 f (l2 ++ f :: r) (by rw [s.hπ,hl];simp) f (by simp)).1 rfl
  have hfo:=s.hout hfT
  have hR:=s.hR
  unfold RSeqF at hR
  rw [if_pos rfl] at hR
  have hI:=s.hI
  rw [hfl] at hI
  obtain ⟨T',ρ',e1,e2,e3,e4,e5⟩:=segmentF _ _ _ _ (hR v ⟨us,w,hI⟩)
  have hT'n : ∀ x ∈ T',x.1 ∉ T.map (·.1) ∧ x.1 ≠ f:=fun x hx=>by
   refine ⟨fun hm=>?_,(e3 x hx).2⟩
   obtain ⟨l1,l2,hl⟩:=List.append_of_mem hm
   exact (hπn l1 x.1 (l2 ++ f :: r) (by rw [s.hπ,hl];simp) x.1 (by rw [e1];simp;exact .inr (.inr (.inl ⟨x.2,hx⟩)))).1 rfl
  have hT'l : ∀ x ∈ T',listed.getD x.1 false = false:=fun x hx=>by
   cases hl : listed.getD x.1 false with
   | false=>rfl
   | true=>
    rcases s.hT x.1 hl with h | h
    ·exact absurd h (hT'n x hx).1
    ·exact absurd h (hT'n x hx).2
  have hff : listed.getD f false = true:=by rw [s.hfl,hfl];rfl
  have hm2 : f ∈ (T ++ (f,v) :: T').map (·.1):=by simp
  refine ⟨T ++ (f,v) :: T',ρ',some v,⟨?_,e2,?_,?_,?_,?_,?_,?_,?_,?_,fun _=>rfl,fun h=>absurd hm2 h⟩,?_⟩
  ·rw [s.hπ,e1];simp
  ·rw [puts_append,puts_cons];exact e4
  ·intro i hi
   rcases s.hT i hi with h | h
   ·exact .inl (by rw [List.map_append];exact List.mem_append_left _ h)
   ·exact .inr h
  ·intro x hx he
   rcases List.mem_append.1 hx with hx | hx
   ·exact s.hTe x hx he
   ·rcases List.mem_cons.1 hx with rfl | hx
    ·exact hff
    ·rcases he with he | he
     ·rw [(e3 x hx).1] at he;cases he
     ·exact absurd he (e3 x hx).2
  ·have hT'0 : (T'.map (·.1)).filter (fun i=>effs.contains i) = []:=by
    rw [List.filter_eq_nil_iff]
    intro x hx
    obtain ⟨y,hy,rfl⟩:=List.mem_map.1 hx
    rw [(e3 y hy).1];exact Bool.false_ne_true
   rw [s.hus,List.map_append,List.map_cons,List.filter_append,List.filter_cons_of_neg (by rw [hok.fe];exact Bool.false_ne_true),hT'0,List.append_nil]
  ·have f2 : T'.filter (fun x=>listed.getD x.1 false) = []:=by
    rw [List.filter_eq_nil_iff]
    intro x hx
    rw [hT'l x hx];exact Bool.false_ne_true
   rw [s.ha,hfl]
   unfold Frm
   simp only []
   rw [if_neg hfT,if_pos hm2,List.filter_append,List.filter_cons_of_pos (by exact hff),f2,puts_append,puts_cons,puts_nil]
  ·exact hI
  ·intro S1 j u S2 hS hj
   have hjf : j ≠ f:=fun e=>by rw [e,hff] at hj;cases hj
   rcases List.append_eq_append_iff.1 hS with ⟨c,hc1,hc2⟩ | ⟨c,hc1,hc2⟩
   ·cases c with
    | nil=>
     obtain ⟨⟨h1,_⟩,_⟩ : (f = j ∧ v = u) ∧ T' = S2:=by simpa using hc2
     exact absurd h1.symm hjf
    | cons y c=>
     obtain ⟨rfl,hc3⟩ : (f,v) = y ∧ T' = c ++ (j,u) :: S2:=by simpa using hc2
     have:=e5 c j u S2 hc3
     refine ⟨some v,.inr rfl,?_⟩
     rw [hc1,puts_append,puts_cons]
     exact this
   ·cases c with
    | nil=>
     obtain ⟨⟨h1,_⟩,_⟩ : (j = f ∧ u = v) ∧ S2 = T':=by simpa using hc2
     exact absurd h1 hjf
    | cons y c=>
     obtain ⟨rfl,_⟩ : (j,u) = y ∧ S2 = c ++ (f,v) :: T':=by simpa using hc2
     have:=s.hob S1 j u c hc1 hj
     rw [hfl] at this
     exact this
  ·rw [s.hfl,hfl]
  ·intro r' e
   exfalso
   have hr' : f ∈ ρ':=by rw [e];simp
   exact (hπn (T.map (·.1)) f r s.hπ f (by rw [e1];exact List.mem_append_right _ hr')).1 rfl
theorem simF (hok : OkF ops π effs his cls f) (a0 : Act) (Q' : Exit → Act → World → Prop) (hQ : ∀ a w,Q a w → Q' .normal a w) (hF : ∀ us w,J none us w → stepAt P ops f a0 w (fun v w'=>J (some v) us w')) :
  ∀ (fuel : Nat) (listed : Array Bool) (a : Act) (w : World) (T : List (Nat × Value)) (ρ : List Nat) (us : List Value) (fo fl : Option Value) (U : List Nat),
   listed.size = ops.size → U.length = fuel → (∀ i,i < ops.size → (listed.getD i false = false ↔ i ∈ U)) → U.Nodup →
   (∀ (i : Nat) o,ops[i]? = some o → listed.getD i false = true → ∀ e ∈ o.after,Region.binds .any e = true → listed.getD e.on false = true) →
   St P ops π effs his f J Q a0 listed a w T ρ us fo fl → (∀ r,ρ = f :: r → fl = none) → wpAny P .any ops Q' fuel listed a w:=by
 have hπn : ∀ l1 x l2,π = l1 ++ x :: l2 → ∀ y ∈ l2,y ≠ x ∧ pairOk ops cls x y = true ∧ (effs.contains x = true ∨ x = f → y ≠ f → dep cls y x = true):=fun l1 x l2 h=>pairsF_spec hok.pairs h
 obtain ⟨of,hof,hlook,hgrd⟩:=hok.fl
 have hfs : f < ops.size:=(Array.getElem?_eq_some_iff.1 hof).1
 have fin : ∀ (listed : Array Bool) (a : Act) (w : World) (T : List (Nat × Value)) (ρ : List Nat) (us : List Value) (fo fl : Option Value),
   listed.size = ops.size → St P ops π effs his f J Q a0 listed a w T ρ us fo fl → (∀ r,ρ = f :: r → fl = none) → Region.ready .any ops listed = [] → Q' .normal a w:=by
  intro listed a w T ρ us fo fl hsz s hn hr
  have hall : ∀ n i,i < n → i < ops.size → listed.getD i false = true:=by
   intro n
   induction n with
   | zero=>intro i h;omega
   | succ n ih=>
    intro i hi hlt
    cases hl : listed.getD i false with
    | true=>rfl
    | false=>
     have ho : ops[i]? = some ops[i]:=Array.getElem?_eq_getElem hlt
     have : i ∈ Region.ready .any ops listed:=by
      rw [mem_ready]
      refine ⟨?_,_,ho,fun e he hb=>?_⟩
      ·have hl' : i < listed.size:=by omega
       simp [hl'] at hl ⊢;exact hl
      ·have:=hok.down i _ ho e he hb
       exact ih e.on (by omega) (by omega)
     rw [hr] at this;cases this
  have hfl : fl.isSome = true:=by rw [← s.hfl];exact hall _ f (Nat.lt_succ_self f) hfs
  have hnil : ρ = []:=by
   rcases s.hρ with h | ⟨e,r,rfl,hee⟩
   ·exact h
   ·exfalso
    have he : e ∈ π:=by rw [s.hπ];simp
    by_cases hef : e = f
    ·subst hef
     have:=hn r rfl
     rw [this] at hfl;cases hfl
    ·rcases s.hT e (hall _ e (Nat.lt_succ_self e) (hok.lt e he)) with hm | hm
     ·obtain ⟨l1,l2,hl⟩:=List.append_of_mem hm
      have:=(hπn l1 e (l2 ++ e :: r) (by rw [s.hπ,hl];simp) e (by simp)).1
      exact this rfl
     ·exact hef hm
  subst hnil
  have hfT : f ∈ T.map (·.1):=by
   have:=hok.all f hfs
   rw [s.hπ,List.append_nil] at this
   exact this
  have hf : T.filter (fun x=>listed.getD x.1 false) = T:=by
   rw [List.filter_eq_self]
   intro x hx
   have : x.1 ∈ π:=by rw [s.hπ];simp;exact ⟨x.2,hx⟩
   exact hall _ x.1 (Nat.lt_succ_self _) (hok.lt _ this)
  have hR:=s.hR
  have hI:=s.hI
  rw [s.hin hfT] at hR
  have ha : a = puts ops a0 T:=by
   rw [s.ha]
   unfold Frm
   cases fl with
   | none=>simp only [];rw [hf]
   | some v=>simp only [];rw [if_pos hfT,hf]
  rw [ha]
  exact hQ _ _ (hR w hI)
 intro fuel
 induction fuel with
 | zero=>
  intro listed a w T ρ us fo fl U hsz hUl hU hUn hdc s hn
  have hr : Region.ready .any ops listed = []:=by
   rw [List.eq_nil_iff_forall_not_mem]
   intro i hi
   rw [mem_ready] at hi
   obtain ⟨hl,o,ho,_⟩:=hi
   have hlt : i < ops.size:=(Array.getElem?_eq_some_iff.1 ho).1
   have hl' : i < listed.size:=by omega
   have : i ∈ U:=(hU i hlt).1 (by simp [hl'] at hl ⊢;exact hl)
   rw [List.eq_nil_of_length_eq_zero hUl] at this
   cases this
  exact ⟨hr,fin listed a w T ρ us fo fl hsz s hn hr⟩
 | succ fuel ih=>
  intro listed a w T ρ us fo fl U hsz hUl hU hUn hdc s hn
  refine ⟨fun hr=>fin listed a w T ρ us fo fl hsz s hn hr,fun i hi=>?_⟩
  rw [mem_ready] at hi
  obtain ⟨hl,o,ho,hedge⟩:=hi
  have hlt : i < ops.size:=(Array.getElem?_eq_some_iff.1 ho).1
  have hl' : i < listed.size:=by omega
  have hli : listed.getD i false = false:=by simp [hl'] at hl ⊢;exact hl
  have hdl : ∀ j,j < ops.size → dep cls i j = true → listed.getD j false = true:=dep_listedF hok hdc _ i o (Nat.lt_succ_self i) ho hedge
  have hdl2 : ∀ x,listed.getD x false = true → x < ops.size → ∀ j,j < ops.size → dep cls x j = true → listed.getD j false = true:=fun x hx hxs=>
   dep_listedF hok hdc _ x _ (Nat.lt_succ_self x) (Array.getElem?_eq_getElem hxs) (hdc x _ (Array.getElem?_eq_getElem hxs) hx)
  have hiU : i ∈ U:=(hU i hlt).1 hli
  have hset : ∀ j,(listed.setIfInBounds i true).getD j false = (if j = i then true else listed.getD j false):=by
   intro j
   by_cases hj : j = i
   ·subst hj;simp [hl']
   ·rw [if_neg hj,getD_set_ne false (Ne.symm hj)]
  have hsz' : (listed.setIfInBounds i true).size = ops.size:=by simpa using hsz
  have hU' : ∀ j,j < ops.size → ((listed.setIfInBounds i true).getD j false = false ↔ j ∈ U.erase i):=by
   intro j hj
   rw [hset,hUn.mem_erase_iff]
   by_cases hji : j = i
   ·subst hji;simp
   ·rw [if_neg hji,hU j hj];simp [hji]
  have hUl' : (U.erase i).length = fuel:=by rw [List.length_erase_of_mem hiU,hUl];rfl
  have hdc' : ∀ (x : Nat) o',ops[x]? = some o' → (listed.setIfInBounds i true).getD x false = true → ∀ e ∈ o'.after,Region.binds .any e = true → (listed.setIfInBounds i true).getD e.on false = true:=by
   intro x o' hx hxl e he hb
   rw [hset] at hxl ⊢
   by_cases hxi : x = i
   ·subst hxi
    obtain rfl : o' = o:=Option.some.inj (hx.symm.trans ho)
    rw [hedge e he hb];simp
   ·rw [if_neg hxi] at hxl
    rw [hdc x o' hx hxl e he hb];simp
  have hapart : ∀ x y,x < ops.size → y < ops.size → pairOk ops cls x y = true → dep cls y x = false → (ops[x]!).apart ops (ops[y]!) = true:=by
   intro x y hx hy hp hd
   unfold pairOk at hp
   rw [hd,Array.getElem?_eq_getElem hx,Array.getElem?_eq_getElem hy] at hp
   simpa [hx,hy] using hp
  have hlk : ∀ x,x < ops.size → dstOf ops x = (ops[x]!).dst:=fun x hx=>by simp [dstOf,hx]
  have ho! : ops[i]! = o:=by
   have:=Array.getElem?_eq_getElem hlt
   rw [ho] at this
   simp [hlt,Option.some.inj this]
  have next : ∀ (a' : Act) (w' : World) (T' : List (Nat × Value)) (ρ' : List Nat) (us' : List Value) (fo' fl' : Option Value),St P ops π effs his f J Q a0 (listed.setIfInBounds i true) a' w' T' ρ' us' fo' fl' → wpAny P .any ops Q' fuel (listed.setIfInBounds i true) a' w':=by
   intro a' w' T' ρ' us' fo' fl' s'
   obtain ⟨T2,ρ2,fo2,s2,h2⟩:=s'.norm hok
   exact ih _ a' w' T2 ρ2 us' fo2 fl' (U.erase i) hsz' hUl' hU' (hUn.erase _) hdc' s2 h2
  by_cases hif : i = f
  ·
   subst hif
   have hfl0 : fl = none:=by
    have:=s.hfl
    rw [hli] at this
    cases fl with
    | none=>rfl
    | some v=>cases this
   subst hfl0
   have hfT : i ∉ T.map (·.1):=fun hm=>by
    obtain ⟨x,hx,hxe⟩:=List.mem_map.1 hm
    have:=s.hTe x hx (.inr hxe)
    rw [hxe,hli] at this;cases this
   obtain rfl : of = o:=Option.some.inj (hof.symm.trans ho)
   have hst : stepAt P ops i a w (fun v w'=>J (some v) us w'):=by
    obtain ⟨o',ho',hh⟩:=hF us w s.hI
    obtain rfl : o' = of:=Option.some.inj (ho'.symm.trans ho)
    refine ⟨o',ho',?_⟩
    have hag : Agree ops o' a0 a:=fun t ht=>by rw [hlook] at ht;cases ht
    rw [agree_wanted hag] at hh
    split
    ·rename_i hw
     rw [if_pos hw] at hh
     exact gives_congr (agree_exec (fun cs b=>hok.sel i o' cs b ho) hag) hh
    ·rename_i hw
     rw [if_neg hw] at hh
     exact hh
   refine stepAt_wpOp hst ?_
   intro v w' hI'
   have hTn : ∀ x ∈ T,x.1 ≠ i:=fun x hx e=>hfT (by rw [← e];exact List.mem_map_of_mem hx)
   refine next _ w' T ρ us fo (some v) ⟨s.hπ,s.hρ,s.hR,?_,?_,s.hus,?_,hI',?_,?_,fun h=>absurd h hfT,s.hout⟩
   ·intro j hj
    rw [hset] at hj
    by_cases hji : j = i
    ·exact .inr hji
    ·rw [if_neg hji] at hj;exact s.hT j hj
   ·intro x hx he
    rw [hset,if_neg (hTn x hx)]
    exact s.hTe x hx he
   ·have f1 : T.filter (fun x=>(listed.setIfInBounds i true).getD x.1 false) = T.filter (fun x=>listed.getD x.1 false):=
     List.filter_congr fun x hx=>by rw [hset,if_neg (hTn x hx)]
    rw [s.ha]
    unfold Frm
    simp only []
    rw [if_neg hfT,f1]
   ·intro S1 j u S2 hS hj
    rw [hset] at hj
    by_cases hji : j = i
    ·subst hji;simp at hj
    ·rw [if_neg hji] at hj
     obtain ⟨fi,h1,h2⟩:=s.hob S1 j u S2 hS hj
     exact ⟨fi,.inl (h1.elim id id),h2⟩
   ·rw [hset];simp
  have hflo : ∀ {S : List Nat} {R : List Nat},π = S ++ i :: R → f ∉ T.map (·.1) → (f ∈ R) → fl.isSome = true → o.apart ops (ops[f]!) = true:=by
   intro S R hSR hfT hfR hfs'
   have hpr:=(hπn S i R hSR f hfR).2.1
   have hnd : dep cls f i = false:=by
    cases hd : dep cls f i with
    | false=>rfl
    | true=>
     have:=hdl2 f (by rw [s.hfl];exact hfs') hfs i hlt hd
     rw [hli] at this;cases this
   have:=hapart _ _ hlt hfs hpr hnd
   rwa [ho!] at this
  have hfρ : f ∉ T.map (·.1) → f ∈ ρ:=fun h=>by
   have:=hok.all f hfs
   rw [s.hπ] at this
   exact (List.mem_append.1 this).resolve_left h
  by_cases hiT : i ∈ T.map (·.1)
  ·obtain ⟨⟨i',v⟩,hm,hii⟩:=List.mem_map.1 hiT
   obtain rfl : i' = i:=hii
   obtain ⟨T1,T2,hTT⟩:=List.append_of_mem hm
   obtain ⟨fi,hfi,hobl⟩:=s.hob T1 i' v T2 hTT hli
   have heff : effs.contains i' = false:=by
    cases he : effs.contains i' with
    | false=>rfl
    | true=>have:=s.hTe _ hm (.inl he);rw [hli] at this;cases this
   have hπ1 : π = T1.map (·.1) ++ i' :: (T2.map (·.1) ++ ρ):=by rw [s.hπ,hTT];simp
   have hp : us.length ≤ his.getD i' 1000:=by
    refine Nat.le_of_not_lt fun hgt=>?_
    have hflt : (T.map (·.1)).filter (fun i=>effs.contains i) ++ ρ.filter (fun i=>effs.contains i) = effs:=by
     rw [← List.filter_append,← s.hπ];exact hok.effsEq
    have hus:=s.hus
    have hlt2 : his.getD i' 1000 < ((T.map (·.1)).filter (fun i=>effs.contains i)).length:=by omega
    obtain ⟨e,he⟩ : ∃ e,((T.map (·.1)).filter (fun i=>effs.contains i))[his.getD i' 1000]? = some e:=⟨_,List.getElem?_eq_getElem hlt2⟩
    have he2 : effs[his.getD i' 1000]? = some e:=by
     rw [← hflt,List.getElem?_append_left hlt2];exact he
    have hem:=List.mem_filter.1 (List.mem_of_getElem? he)
    obtain ⟨x,hx,hxe⟩:=List.mem_map.1 hem.1
    have hel : listed.getD e false = true:=by rw [← hxe];exact s.hTe x hx (.inl (by rw [hxe];exact hem.2))
    have heπ : e ∈ π:=by rw [s.hπ];exact List.mem_append_left _ hem.1
    have hd:=hok.hi i' (by rw [hπ1];simp) heff e he2
    have:=hdl2 e hel (hok.lt e heπ) i' hlt hd
    rw [hli] at this;cases this
   have hst:=hobl us fl w (List.prefix_refl _) hp (hfi.elim .inl fun h=>.inr h.symm) s.hI
   have hbefore : ∀ x ∈ T1,listed.getD x.1 false = false → ∀ t,dstOf ops x.1 = some t → t ∉ o.looksAt ops:=by
    intro x hx hxl t ht
    obtain ⟨l1,l2,hs⟩:=List.append_of_mem hx
    have hxπ : x.1 ∈ π:=by rw [hπ1,hs];simp
    have hpr:=(hπn (l1.map (·.1)) x.1 (l2.map (·.1) ++ i' :: (T2.map (·.1) ++ ρ)) (by rw [hπ1,hs];simp) i' (by simp)).2.1
    have hnd : dep cls i' x.1 = false:=by
     cases hd : dep cls i' x.1 with
     | false=>rfl
     | true=>have:=hdl x.1 (hok.lt _ hxπ) hd;rw [hxl] at this;cases this
    have hap:=hapart _ _ (hok.lt _ hxπ) hlt hpr hnd
    rw [ho!] at hap
    exact (Oper.apart_spec hap).1 t (by rw [← hlk _ (hok.lt _ hxπ)];exact ht)
   have hafter : ∀ x ∈ T2,listed.getD x.1 false = true → o.apart ops (ops[x.1]!) = true:=by
    intro x hx hxl
    have hxπ : x.1 ∈ π:=by rw [hπ1];simp;exact .inr (.inr (.inl ⟨x.2,hx⟩))
    have hpr:=(hπn (T1.map (·.1)) i' (T2.map (·.1) ++ ρ) hπ1 x.1 (by simp;exact .inl ⟨x.2,hx⟩)).2.1
    have hnd : dep cls x.1 i' = false:=by
     cases hd : dep cls x.1 i' with
     | false=>rfl
     | true=>have:=hdl2 x.1 hxl (hok.lt _ hxπ) i' hlt hd;rw [hli] at this;cases this
    have hap:=hapart _ _ hlt (hok.lt _ hxπ) hpr hnd
    rwa [ho!] at hap
   have hxlt : ∀ x ∈ T2,x.1 < ops.size:=fun x hx=>hok.lt _ (by rw [hπ1];simp;exact .inr (.inr (.inl ⟨x.2,hx⟩)))
   have hTf : T.filter (fun x=>listed.getD x.1 false) = T1.filter (fun x=>listed.getD x.1 false) ++ T2.filter (fun x=>listed.getD x.1 false):=by
    rw [hTT,List.filter_append,List.filter_cons_of_neg (by simp only [hli];exact Bool.false_ne_true)]
   have hap3 : f ∉ T.map (·.1) → fl.isSome = true → o.apart ops (ops[f]!) = true:=fun h1 h2=>hflo hπ1 h1 (List.mem_append_right _ (hfρ h1)) h2
   have hag0 : Agree ops o (puts ops a0 T1) (puts ops a0 (T.filter fun x=>listed.getD x.1 false)):=by
    rw [hTf,puts_append]
    refine agree_apart _ _ _ (agree_filter (fun i=>listed.getD i false) T1 a0 a0 (fun _ _=>rfl) hbefore) ?_
    intro x hx t ht
    obtain ⟨hx2,hxl⟩:=List.mem_filter.1 hx
    exact (Oper.apart_spec (hafter x hx2 hxl)).2.2 t (by rw [← hlk _ (hxlt x hx2)];exact ht)
   have hag : Agree ops o (puts ops a0 T1) a:=by
    rw [s.ha]
    unfold Frm
    cases hfe : fl with
    | none=>exact hag0
    | some u=>
     simp only []
     split
     ·exact hag0
     ·rename_i hfT
      exact agree_right hag0 _ _ fun t ht=>(Oper.apart_spec (hap3 hfT (by rw [hfe];rfl))).2.2 t (by rw [← hlk _ hfs];exact ht)
   have hst' : stepAt P ops i' a w (fun v' w'=>v' = v ∧ J fl us w'):=by
    obtain ⟨o',ho',hh⟩:=hst
    obtain rfl : o' = o:=Option.some.inj (ho'.symm.trans ho)
    refine ⟨o',ho',?_⟩
    rw [agree_wanted hag] at hh
    split
    ·rename_i hw
     rw [if_pos hw] at hh
     exact gives_congr (agree_exec (fun cs b=>hok.sel i' o' cs b ho) hag) hh
    ·rename_i hw
     rw [if_neg hw] at hh
     exact hh
   refine stepAt_wpOp hst' ?_
   rintro v' w' ⟨rfl,hI'⟩
   have hTn1 : ∀ x ∈ T1,x.1 ≠ i':=by
    intro x hx
    obtain ⟨l1,l2,hs⟩:=List.append_of_mem hx
    exact fun e=>(hπn (l1.map (·.1)) x.1 (l2.map (·.1) ++ i' :: (T2.map (·.1) ++ ρ)) (by rw [hπ1,hs];simp) i' (by simp)).1 e.symm
   have hTn2 : ∀ x ∈ T2,x.1 ≠ i':=fun x hx=>
    (hπn (T1.map (·.1)) i' (T2.map (·.1) ++ ρ) hπ1 x.1 (by simp;exact .inl ⟨x.2,hx⟩)).1
   have e1 : T1.filter (fun x=>(listed.setIfInBounds i' true).getD x.1 false) = T1.filter (fun x=>listed.getD x.1 false):=
    List.filter_congr fun x hx=>by rw [hset,if_neg (hTn1 x hx)]
   have e2 : T2.filter (fun x=>(listed.setIfInBounds i' true).getD x.1 false) = T2.filter (fun x=>listed.getD x.1 false):=
    List.filter_congr fun x hx=>by rw [hset,if_neg (hTn2 x hx)]
   have hfr0 : (puts ops a0 (T.filter fun x=>listed.getD x.1 false)).put (dstOf ops i') v' = puts ops a0 (T.filter fun x=>(listed.setIfInBounds i' true).getD x.1 false):=by
    rw [hTf,puts_append]
    rw [hTT,List.filter_append,List.filter_cons_of_pos (by rw [hset];simp),e1,e2,puts_append,puts_cons]
    refine puts_put _ _ _ _ ?_
    intro x hx t ht
    obtain ⟨hx2,hxl⟩:=List.mem_filter.1 hx
    have:=(Oper.apart_spec (hafter x hx2 hxl)).2.1
    intro hd
    have h1 : o.dst = some t:=by rw [← ho!,← hlk _ hlt];exact hd
    exact this t h1 (by rw [← hlk _ (hxlt x hx2)];exact ht)
   refine next _ w' T ρ us fo fl ⟨s.hπ,s.hρ,s.hR,?_,?_,s.hus,?_,hI',?_,?_,s.hin,s.hout⟩
   ·intro j hj
    rw [hset] at hj
    by_cases hji : j = i'
    ·subst hji;exact .inl hiT
    ·rw [if_neg hji] at hj;exact s.hT j hj
   ·intro x hx he
    rw [hset,s.hTe x hx he];simp
   ·rw [s.ha]
    unfold Frm
    cases hfe : fl with
    | none=>exact hfr0
    | some u=>
     simp only []
     split
     ·exact hfr0
     ·rename_i hfT
      rw [← hfr0]
      refine Act.put_comm _ _ _ fun t ht hd=>?_
      have:=(Oper.apart_spec (hap3 hfT (by rw [hfe];rfl))).2.1
      exact this t (by rw [← ho!,← hlk _ hlt];exact hd) (by rw [← hlk _ hfs];exact ht)
   ·intro S1 j u S2 hS hj
    rw [hset] at hj
    by_cases hji : j = i'
    ·subst hji;simp at hj
    ·rw [if_neg hji] at hj
     exact s.hob S1 j u S2 hS hj
   ·rw [hset,if_neg (Ne.symm hif)];exact s.hfl
  ·
   have hiρ : i ∈ ρ:=by
    have:=hok.all i hlt
    rw [s.hπ] at this
    exact (List.mem_append.1 this).resolve_left hiT
   rcases s.hρ with rfl | ⟨e,r,rfl,hee⟩
   ·cases hiρ
   have hie : i = e:=by
    rcases List.mem_cons.1 hiρ with h | h
    ·exact h
    ·exfalso
     have hd:=(hπn (T.map (·.1)) e r s.hπ i h).2.2 hee hif
     have heπ : e ∈ π:=by rw [s.hπ];simp
     have hel:=hdl e (hok.lt e heπ) hd
     by_cases hef : e = f
     ·subst hef
      have h0:=hn r rfl
      have:=s.hfl
      rw [hel,h0] at this;cases this
     ·rcases s.hT e hel with hm | hm
      ·obtain ⟨l1,l2,hs⟩:=List.append_of_mem hm
       exact (hπn l1 e (l2 ++ e :: r) (by rw [s.hπ,hs];simp) e (by simp)).1 rfl
      ·exact hef hm
   subst hie
   have hec : effs.contains i = true:=hee.resolve_right hif
   have hR:=s.hR
   unfold RSeqF at hR
   rw [if_neg hif,if_pos hec] at hR
   obtain ⟨hstep,hnext⟩:=hR
   have hfofl : fo = none ∨ fl = fo:=by
    by_cases hfT : f ∈ T.map (·.1)
    ·exact .inr (s.hin hfT).symm
    ·exact .inl (s.hout hfT)
   have hst:=hstep fl w hfofl s.hI
   have hbefore : ∀ x ∈ T,listed.getD x.1 false = false → ∀ t,dstOf ops x.1 = some t → t ∉ o.looksAt ops:=by
    intro x hx hxl t ht
    obtain ⟨l1,l2,hs⟩:=List.append_of_mem hx
    have hxπ : x.1 ∈ π:=by rw [s.hπ,hs];simp
    have hpr:=(hπn (l1.map (·.1)) x.1 (l2.map (·.1) ++ i :: r) (by rw [s.hπ,hs];simp) i (by simp)).2.1
    have hnd : dep cls i x.1 = false:=by
     cases hd : dep cls i x.1 with
     | false=>rfl
     | true=>have:=hdl x.1 (hok.lt _ hxπ) hd;rw [hxl] at this;cases this
    have hap:=hapart _ _ (hok.lt _ hxπ) hlt hpr hnd
    rw [ho!] at hap
    exact (Oper.apart_spec hap).1 t (by rw [← hlk _ (hok.lt _ hxπ)];exact ht)
   have hap3 : f ∉ T.map (·.1) → fl.isSome = true → o.apart ops (ops[f]!) = true:=fun h1 h2=>hflo s.hπ h1 ((List.mem_cons.1 (hfρ h1)).resolve_left fun e=>hif e.symm) h2
   have hag0 : Agree ops o (puts ops a0 T) (puts ops a0 (T.filter fun x=>listed.getD x.1 false)):=agree_filter (fun i=>listed.getD i false) T a0 a0 (fun _ _=>rfl) hbefore
   have hag : Agree ops o (puts ops a0 T) a:=by
    rw [s.ha]
    unfold Frm
    cases hfe : fl with
    | none=>exact hag0
    | some u=>
     simp only []
     split
     ·exact hag0
     ·rename_i hfT
      exact agree_right hag0 _ _ fun t ht=>(Oper.apart_spec (hap3 hfT (by rw [hfe];rfl))).2.2 t (by rw [← hlk _ hfs];exact ht)
   have hst' : stepAt P ops i a w (fun v w'=>J fl (us ++ [v]) w'):=by
    obtain ⟨o',ho',hh⟩:=hst
    obtain rfl : o' = o:=Option.some.inj (ho'.symm.trans ho)
    refine ⟨o',ho',?_⟩
    rw [agree_wanted hag] at hh
    split
    ·rename_i hw
     rw [if_pos hw] at hh
     exact gives_congr (agree_exec (fun cs b=>hok.sel i o' cs b ho) hag) hh
    ·rename_i hw
     rw [if_neg hw] at hh
     exact hh
   refine stepAt_wpOp hst' ?_
   intro v w' hI'
   have hR':=hnext v ⟨fl,w',hI'⟩
   obtain ⟨T',ρ',e1,e2,e3,e4,e5⟩:=segmentF _ _ _ _ hR'
   have hnotT' : ∀ x ∈ T',listed.getD x.1 false = false ∧ x.1 ≠ i:=by
    intro x hx
    have hxr : x.1 ∈ r:=by rw [e1];simp;exact .inl ⟨x.2,hx⟩
    have hne:=(hπn (T.map (·.1)) i r s.hπ x.1 hxr).1
    refine ⟨?_,hne⟩
    cases hl2 : listed.getD x.1 false with
    | false=>rfl
    | true=>
     rcases s.hT x.1 hl2 with hm | hm
     ·obtain ⟨l1,l2,hs⟩:=List.append_of_mem hm
      exact absurd rfl (hπn l1 x.1 (l2 ++ i :: r) (by rw [s.hπ,hs];simp) x.1 (by simp [hxr])).1
     ·exact absurd hm (e3 x hx).2
   have hTn : ∀ x ∈ T,x.1 ≠ i:=by
    intro x hx e
    exact hiT (by rw [← e];exact List.mem_map_of_mem hx)
   have hfT2 : f ∈ (T ++ (i,v) :: T').map (·.1) ↔ f ∈ T.map (·.1):=by
    simp only [List.map_append,List.map_cons,List.mem_append,List.mem_cons]
    constructor
    ·rintro (h | h | h)
     ·exact h
     ·exact absurd h.symm hif
     ·obtain ⟨y,hy,hye⟩:=List.mem_map.1 h
      exact absurd hye (e3 y hy).2
    ·exact .inl
   have f1 : T.filter (fun x=>(listed.setIfInBounds i true).getD x.1 false) = T.filter (fun x=>listed.getD x.1 false):=
    List.filter_congr fun x hx=>by rw [hset,if_neg (hTn x hx)]
   have f2 : T'.filter (fun x=>(listed.setIfInBounds i true).getD x.1 false) = []:=by
    rw [List.filter_eq_nil_iff]
    intro x hx
    rw [hset,if_neg (hnotT' x hx).2,(hnotT' x hx).1]
    exact Bool.false_ne_true
   have hfr0 : (puts ops a0 (T.filter fun x=>listed.getD x.1 false)).put (dstOf ops i) v = puts ops a0 ((T ++ (i,v) :: T').filter fun x=>(listed.setIfInBounds i true).getD x.1 false):=by
    rw [List.filter_append,List.filter_cons_of_pos (by rw [hset];simp),f1,f2,puts_append,puts_cons,puts_nil]
   refine next _ w' (T ++ (i,v) :: T') ρ' (us ++ [v]) fo fl ⟨?_,e2,?_,?_,?_,?_,?_,hI',?_,?_,fun h=>s.hin (hfT2.1 h),fun h=>s.hout fun h'=>h (hfT2.2 h')⟩
   ·rw [s.hπ,e1];simp
   ·rw [puts_append,puts_cons];exact e4
   ·intro j hj
    rw [hset] at hj
    by_cases hji : j = i
    ·subst hji;exact .inl (by simp)
    ·rw [if_neg hji] at hj
     refine (s.hT j hj).imp (fun h=>?_) id
     rw [List.map_append]
     exact List.mem_append_left _ h
   ·intro x hx he
    rw [hset]
    rcases List.mem_append.1 hx with hx | hx
    ·rw [s.hTe x hx he];simp
    ·rcases List.mem_cons.1 hx with rfl | hx
     ·simp
     ·rcases he with he | he
      ·rw [(e3 x hx).1] at he;cases he
      ·exact absurd he (e3 x hx).2
   ·have hT'0 : (T'.map (·.1)).filter (fun i=>effs.contains i) = []:=by
     rw [List.filter_eq_nil_iff]
     intro x hx
     obtain ⟨y,hy,rfl⟩:=List.mem_map.1 hx
     rw [(e3 y hy).1];exact Bool.false_ne_true
    simp only [List.map_append,List.map_cons,List.filter_append,List.length_append,List.length_singleton]
    rw [List.filter_cons_of_pos (by exact hec),hT'0,s.hus]
    simp
   ·rw [s.ha]
    unfold Frm
    cases hfe : fl with
    | none=>exact hfr0
    | some u=>
     simp only []
     by_cases hfT : f ∈ T.map (·.1)
     ·rw [if_pos hfT,if_pos (hfT2.2 hfT)];exact hfr0
     ·rw [if_neg hfT,if_neg (fun h=>hfT (hfT2.1 h)),← hfr0]
      refine Act.put_comm _ _ _ fun t ht hd=>?_
      have:=(Oper.apart_spec (hap3 hfT (by rw [hfe];rfl))).2.1
      exact this t (by rw [← ho!,← hlk _ hlt];exact hd) (by rw [← hlk _ hfs];exact ht)
   ·intro S1 j u S2 hS hj
    rw [hset] at hj
    by_cases hji : j = i
    ·subst hji;simp at hj
    ·rw [if_neg hji] at hj
     rcases List.append_eq_append_iff.1 hS with ⟨c,hc1,hc2⟩ | ⟨c,hc1,hc2⟩
     ·cases c with
      | nil=>
       obtain ⟨⟨h1,_⟩,_⟩ : (i = j ∧ v = u) ∧ T' = S2:=by simpa using hc2
       exact absurd h1.symm hji
      | cons y c=>
       obtain ⟨rfl,hc3⟩ : (i,v) = y ∧ T' = c ++ (j,u) :: S2:=by simpa using hc2
       have:=e5 c j u S2 hc3
       refine ⟨fo,hfofl.imp id Eq.symm,?_⟩
       rw [hc1,puts_append,puts_cons]
       exact this
     ·cases c with
      | nil=>
       obtain ⟨⟨h1,_⟩,_⟩ : (j = i ∧ u = v) ∧ S2 = T':=by simpa using hc2
       exact absurd h1 hji
      | cons y c=>
       obtain ⟨rfl,_⟩ : (j,u) = y ∧ S2 = c ++ (i,v) :: T':=by simpa using hc2
       obtain ⟨fi,h1,h2⟩:=s.hob S1 j u c hc1 hj
       exact ⟨fi,h1,oblF_weaken h2 (List.prefix_append _ _)⟩
   ·rw [hset,if_neg (Ne.symm hif)];exact s.hfl
theorem wp_region_rf {id : Nat} {l : List Oper} {a : Act} {w : World} {Q' : Exit → Act → World → Prop} (hm : P.follows .mixedOrders = true) (π effs his cls : List Nat) (f : Nat)
  (hok : okF l.toArray π effs his cls f = true) (J : Option Value → List Value → World → Prop) (h0 : J none [] { w with drawn:=w.drawn + 1 })
  (hF : ∀ o,l.toArray[f]? = some o → ∀ us w,J none us w → gives P o a w (fun v w'=>J (some v) us w'))
  (h : RSeqF P l.toArray (fun i=>effs.contains i) (fun i=>his.getD i 1000) f J (fun a w=>Q' .normal a w) π [] none a) : (Code.region id l.toArray true).wp P Q' a w:=by
 refine wp_region_any hm ?_
 have hk:=okF_of hok
 obtain ⟨T,ρ,e1,e2,e3,e4,e5⟩:=segmentF _ _ _ _ h
 have hfalse : ∀ i : Nat,(Array.replicate l.toArray.size false).getD i false = false:=by
  intro i
  rw [Array.getD_eq_getD_getElem?,Array.getElem?_replicate]
  split <;> rfl
 obtain ⟨of,hof,hlook,hgrd⟩:=hk.fl
 have hfT : f ∉ T.map (·.1):=fun hm=>by
  obtain ⟨x,hx,hxe⟩:=List.mem_map.1 hm
  exact (e3 x hx).2 hxe
 refine simF (Q:=fun a w=>Q' .normal a w) hk a Q' (fun _ _ h=>h) (fun us w hj=>⟨of,hof,?_⟩) _ _ a _ T ρ [] none none (List.range l.toArray.size) (by simp) (by simp) ?_ List.nodup_range ?_ ⟨e1,e2,e4,?_,?_,?_,?_,h0,?_,?_,fun h=>absurd h hfT,fun _=>rfl⟩ (fun _ _=>rfl)
 ·have hw : Region.wanted of (yielded l.toArray a.tmps) = true:=by unfold Region.wanted;rw [hgrd]
  rw [if_pos hw]
  exact hF of hof us w hj
 ·intro i hi
  rw [hfalse];simpa using hi
 ·intro i o _ hi;rw [hfalse] at hi;cases hi
 ·intro i hi;rw [hfalse] at hi;cases hi
 ·intro x hx he
  rcases he with he | he
  ·rw [(e3 x hx).1] at he;cases he
  ·exact absurd he (e3 x hx).2
 ·have : (T.map (·.1)).filter (fun i=>effs.contains i) = []:=by
   rw [List.filter_eq_nil_iff]
   intro x hx
   obtain ⟨y,hy,rfl⟩:=List.mem_map.1 hx
   rw [(e3 y hy).1];exact Bool.false_ne_true
  rw [this];rfl
 ·have : T.filter (fun x=>(Array.replicate l.toArray.size false).getD x.1 false) = []:=by
   rw [List.filter_eq_nil_iff]
   intro x _
   rw [hfalse];exact Bool.false_ne_true
  unfold Frm
  simp only []
  rw [this];rfl
 ·intro T1 i v T2 hT _
  exact ⟨none,.inl rfl,e5 T1 i v T2 hT⟩
 ·rw [hfalse];rfl
section steps
variable {eff : Nat → Bool} {hi : Nat → Nat} {f : Nat} {J : Option Value → List Value → World → Prop} {Q : Act → World → Prop} {π : List Nat} {us : List Value} {fo : Option Value} {a : Act} {i : Nat} {o : Oper}
theorem rf_nil (h : ∀ w,J fo us w → Q a w) : RSeqF P ops eff hi f J Q [] us fo a:=h
theorem rf_quiet (ho : ops[i]? = some o) (hf : (i == f) = false) (he : eff i = false) (hw : Region.wanted o (yielded ops a.tmps) = true) {v : Value}
  (hr : ∀ us' fo' w,us <+: us' → us'.length ≤ hi i → (fo = none ∨ fo' = fo) → J fo' us' w → gives P o a w (fun v' w'=>v' = v ∧ J fo' us' w')) (h : RSeqF P ops eff hi f J Q π us fo (a.put o.dst v)) : RSeqF P ops eff hi f J Q (i :: π) us fo a:=by
 unfold RSeqF
 rw [if_neg (by simpa using hf),if_neg (by rw [he];exact Bool.false_ne_true)]
 have hd : dstOf ops i = o.dst:=by simp [dstOf,ho]
 exact ⟨v,fun us' fo' w h1 h2 h3 h4=>⟨o,ho,by rw [if_pos hw];exact hr us' fo' w h1 h2 h3 h4⟩,by rw [hd];exact h⟩
theorem rf_sil (ho : ops[i]? = some o) (hf : (i == f) = false) (he : eff i = false) (hw : Region.wanted o (yielded ops a.tmps) = true)
  (h : ∀ K : Act → Prop,(∀ a,RSeqF P ops eff hi f J Q π us fo a → K a) → sil P o a K) : RSeqF P ops eff hi f J Q (i :: π) us fo a:=
 let ⟨_,h1,h2⟩:=h _ (fun _ h=>h)
 rf_quiet ho hf he hw (fun _ _ w _ _ _ h4=>gives_value (h1 w) ⟨rfl,h4⟩) h2
theorem rf_rd (ho : ops[i]? = some o) (hf : (i == f) = false) (he : eff i = false) (hw : Region.wanted o (yielded ops a.tmps) = true)
  (h : ∃ v,(∀ us' fo' w,us <+: us' → us'.length ≤ hi i → J fo' us' w → (execOp a.eval o).run P w = .ok (.value v) w) ∧ RSeqF P ops eff hi f J Q π us fo (a.put o.dst v)) : RSeqF P ops eff hi f J Q (i :: π) us fo a:=
 let ⟨_,h1,h2⟩:=h
 rf_quiet ho hf he hw (fun us' fo' w k1 k2 _ k4=>gives_value (h1 us' fo' w k1 k2 k4) ⟨rfl,k4⟩) h2
theorem rf_eff (ho : ops[i]? = some o) (hf : (i == f) = false) (he : eff i = true) (hw : Region.wanted o (yielded ops a.tmps) = true)
  (hr : ∀ fo' w,(fo = none ∨ fo' = fo) → J fo' us w → gives P o a w (fun v w'=>J fo' (us ++ [v]) w')) (h : ∀ v,(∃ fo' w,J fo' (us ++ [v]) w) → RSeqF P ops eff hi f J Q π (us ++ [v]) fo (a.put o.dst v)) : RSeqF P ops eff hi f J Q (i :: π) us fo a:=by
 unfold RSeqF
 rw [if_neg (by simpa using hf),if_pos he]
 have hd : dstOf ops i = o.dst:=by simp [dstOf,ho]
 exact ⟨fun fo' w h1 h2=>⟨o,ho,by rw [if_pos hw];exact hr fo' w h1 h2⟩,fun v hv=>by rw [hd];exact h v hv⟩
theorem rf_fl (ho : ops[i]? = some o) (hf : (i == f) = true) (h : ∀ v,(∃ us' w,J (some v) us' w) → RSeqF P ops eff hi f J Q π us (some v) (a.put o.dst v)) : RSeqF P ops eff hi f J Q (i :: π) us fo a:=by
 unfold RSeqF
 rw [if_pos (by simpa using hf)]
 have hd : dstOf ops i = o.dst:=by simp [dstOf,ho]
 exact fun v hv=>by rw [hd];exact h v hv
end steps
end
end Go.Proofs.YtihfcjioilmmjaaGreat.Rt
namespace Go.Proofs.YtihfcjioilmmjaaGreat
open Go Go.RowKit
open Go.Lib Go.Proofs
def Kc (W W' : World) : Prop:=∀ a v,W.cell? a = some v → W'.cell? a = some v
theorem SlAt.kc {W W' : World} (h : Kc W W') {v : Value} {k n : Nat} {xs : List Value} (hs : SlAt W v k n xs) : SlAt W' v k n xs:=by
 obtain ⟨a,cap,h1,h2,h2',h3,h4⟩:=hs
 exact ⟨a,cap,h1,h2,h2',h3,fun j u hu=>let ⟨b,off,e,hc⟩:=h4 j u hu;⟨b,off,e,h _ _ hc⟩⟩
theorem FactsAt.kc {W W' : World} (h : Kc W W') {v : Value} {l : List Fct} (hs : FactsAt W v l) : FactsAt W' v l:=by
 obtain ⟨vs,h1,h2,h3⟩:=hs
 exact ⟨vs,h1,h2.kc h,fun x hx=>⟨⟨(h3 x hx).1.1.kc h,(h3 x hx).1.2⟩,(h3 x hx).2⟩⟩
def EmptyAt (wr : World) (v : Value) (W : World) : Prop:=∃ b,v = .slice (some ⟨b,0,none⟩) 0 0 ∧ wr.heap.size ≤ b ∧ W.heap[b]? = some (.cells #[] 3 (0,0))
theorem EmptyAt.ext {wr : World} {v : Value} {W W' : World} (h : EmptyAt wr v W) (hx : Ext W W') : EmptyAt wr v W':=let ⟨b,h1,h2,h3⟩:=h;⟨b,h1,h2,hx.obj h3⟩
theorem EmptyAt.owns {wr : World} {v : Value} {W : World} (h : EmptyAt wr v W) : W.ownsRow wr.heap.size 3 1 v 0 []:=by
 obtain ⟨b,rfl,h2,h3⟩:=h
 exact ⟨rfl,.inr ⟨b,0,#[],rfl,h2,h3,Nat.le_refl _,Nat.zero_le _,rfl,rfl⟩⟩
theorem EmptyAt.kc {wr : World} {v : Value} {W W' : World} (h : EmptyAt wr v W) (hg : W.grownBy W' v.ownBlock) : Kc W W':=fun a u hc=>by
 obtain ⟨b,rfl,h2,h3⟩:=h
 have hlt:=cell_lt hc
 have hne : a.block ≠ b:=fun e=>by
  unfold World.cell? at hc
  rw [e,h3] at hc
  simp at hc
 have hk:=hg.block a.block hlt (fun e=>hne (by simpa [Value.ownBlock] using e))
 rw [World.cell?_of_block hk]
 exact hc
theorem EmptyAt.keep {wr : World} {v u : Value} {W W' : World} (h : EmptyAt wr v W) (hu : EmptyAt wr u W) (hne : v ≠ u) (hg : W.grownBy W' u.ownBlock) : EmptyAt wr v W':=by
 obtain ⟨b,rfl,h2,h3⟩:=h
 obtain ⟨c,rfl,_,_⟩:=hu
 refine ⟨b,rfl,h2,?_⟩
 have hbk:=hg.block b (heap_lt h3) (fun e=>hne (by simp only [Value.ownBlock,Option.some.injEq] at e;rw [e]))
 rw [hbk]
 exact h3
theorem EmptyAt.grown {wr : World} {u : Value} {W W' : World} (hx : Ext wr W) (hu : EmptyAt wr u W) (hg : W.grownBy W' u.ownBlock) : Ext wr W':=by
 obtain ⟨c,rfl,h2,_⟩:=hu
 exact Below.grown hx hg hx.size fun j hj=>by simp [Value.ownBlock] at hj;omega
def MrJ (wr : World) (ps : List Int) (adds : List Fct) (ws : List Int) (Out : Value → World → Prop) (fo : Option Value) (us : List Value) (W : World) : Prop:=match us with
 | []=>Ext wr W ∧ (∀ v,fo = some v → EmptyAt wr v W)
 | [u1]=>Ext wr W ∧ (∀ v,fo = some v → EmptyAt wr v W) ∧ EmptyAt wr u1 W ∧ ∀ v,fo = some v → v ≠ u1
 | [_,u7]=>Ext wr W ∧ (∀ v,fo = some v → EmptyAt wr v W) ∧ IntsAt W u7 ps
 | [_,u7,u13]=>Ext wr W ∧ (∀ v,fo = some v → EmptyAt wr v W) ∧ IntsAt W u7 ps ∧ FactsAt W u13 adds
 | [_,u7,u13,u20]=>fo.isSome = true ∧ Ext wr W ∧ IntsAt W u7 ps ∧ FactsAt W u13 adds ∧ IntsAt W u20 ws
 | _ :: _ :: _ :: _ :: u21 :: _=>fo.isSome = true ∧ Out u21 W
theorem MrJ.pre {wr : World} {ps : List Int} {adds : List Fct} {ws : List Int} {Out : Value → World → Prop} {fo : Option Value} {us : List Value} {W : World} (h : MrJ wr ps adds ws Out fo us W) (hl : us.length ≤ 4) : Ext wr W:=by
 match us,h,hl with
 | [],h,_=>exact h.1
 | [_],h,_=>exact h.1
 | [_,_],h,_=>exact h.1
 | [_,_,_],h,_=>exact h.1
 | [_,_,_,_],h,_=>exact h.2.1
 | _ :: _ :: _ :: _ :: _ :: _,_,h=>simp at h
theorem MrJ.float {wr : World} {ps : List Int} {adds : List Fct} {ws : List Int} {Out : Value → World → Prop} {us : List Value} {W : World} (h : MrJ wr ps adds ws Out none us W) : MrJ wr ps adds ws Out (some (.slice (some ⟨W.heap.size,0,none⟩) 0 0)) us (W.alloc (.cells #[] 3 (0,0))):=by
 have hx : Ext W (W.alloc (.cells #[] 3 (0,0))):=by exact bel
 obtain ⟨W',hW⟩ : ∃ W',W' = W.alloc (.cells #[] 3 (0,0)):=⟨_,rfl⟩
 have hb : W'.heap[W.heap.size]? = some (.cells #[] 3 (0,0)):=by rw [hW];simp only [heap_drawn_get,heap_drew_get,heap_setCell_get,heap_alloc_get,World.size_alloc,World.size_setCell,size_drawn,putObj_get,putObj_size];(repeat (first | rw [if_pos trivial] | rw [if_pos rfl] | rw [if_neg (by omega)] | rw [if_pos (by omega)]))
 rw [← hW] at hx ⊢
 clear hW
 have he : wr.heap.size ≤ W.heap.size → ∀ v,some (Value.slice (some ⟨W.heap.size,0,none⟩) 0 0) = some v → EmptyAt wr v W':=fun hpre v hv=>by
  obtain rfl:=Option.some.inj hv
  exact ⟨W.heap.size,rfl,hpre,hb⟩
 match us,h with
 | [],h=>exact ⟨h.1.trans' hx,he h.1.size⟩
 | [_],h=>
  refine ⟨h.1.trans' hx,he h.1.size,h.2.2.1.ext hx,fun v hv=>?_⟩
  obtain rfl:=Option.some.inj hv
  obtain ⟨b,rfl,_,hb⟩:=h.2.2.1
  have:=heap_lt hb
  intro e
  simp only [Value.slice.injEq,Option.some.injEq,Addr.mk.injEq] at e
  omega
 | [_,_],h=>exact ⟨h.1.trans' hx,he h.1.size,h.2.2.ext hx⟩
 | [_,_,_],h=>exact ⟨h.1.trans' hx,he h.1.size,h.2.2.1.ext hx,h.2.2.2.ext hx⟩
 | [_,_,_,_],h=>cases h.1
 | _ :: _ :: _ :: _ :: _ :: _,h=>cases h.1
theorem MrJ.first {wr : World} {ps : List Int} {adds : List Fct} {ws : List Int} {Out : Value → World → Prop} {fo : Option Value} {W : World} (h : MrJ wr ps adds ws Out fo [] W) : MrJ wr ps adds ws Out fo [.slice (some ⟨W.heap.size,0,none⟩) 0 0] (W.alloc (.cells #[] 3 (0,0))):=by
 have hx : Ext W (W.alloc (.cells #[] 3 (0,0))):=by exact bel
 obtain ⟨W',hW⟩ : ∃ W',W' = W.alloc (.cells #[] 3 (0,0)):=⟨_,rfl⟩
 have hb : W'.heap[W.heap.size]? = some (.cells #[] 3 (0,0)):=by rw [hW];simp only [heap_drawn_get,heap_drew_get,heap_setCell_get,heap_alloc_get,World.size_alloc,World.size_setCell,size_drawn,putObj_get,putObj_size];(repeat (first | rw [if_pos trivial] | rw [if_pos rfl] | rw [if_neg (by omega)] | rw [if_pos (by omega)]))
 rw [← hW] at hx ⊢
 clear hW
 refine ⟨h.1.trans' hx,fun v hv=>(h.2 v hv).ext hx,⟨_,rfl,h.1.size,hb⟩,fun v hv=>?_⟩
 obtain ⟨b,rfl,_,hc⟩:=h.2 v hv
 have:=heap_lt hc
 intro e
 simp only [Value.slice.injEq,Option.some.injEq,Addr.mk.injEq] at e
 omega
theorem ext_keep {w W2 W3 : World} {B : Nat} (h1 : Ext w W2) (hs : w.heap.size ≤ B) (hK : Keep B W2 W3) : Ext w W3:=by
 refine ⟨hK.os.trans h1.os,hK.tape.trans h1.tape,hK.output.trans h1.output,Nat.le_trans h1.size hK.size,fun k hk=>?_⟩
 obtain ⟨o,ho⟩ : ∃ o,w.heap[k]? = some o:=⟨_,Array.getElem?_eq_getElem hk⟩
 rw [ho]
 exact hK.block k o (h1.obj ho) (.inl (by omega))
theorem Keep.owns {B : Nat} {W W' : World} (hK : Keep B W W') {base : Nat} {T : TypeId} {k : Nat} {v : Value} {n : Nat} {xs : List Value} (h : W.ownsRow base T k v n xs) (hT : T ≠ 100 ∧ T ≠ 96 ∧ T ≠ 122) : W'.ownsRow base T k v n xs:=
 owns_keep h fun g cs _ hg=>(hK.block g _ hg (.inr fun cs' T' fr' e=>by
  injection e with e1 e2 e3
  subst e2
  exact hT)).trans hg.symm
structure MgI (w : World) (N : Nat) (ops : List OpD) (rb : Nat) (pv : Value) (j : Nat) (R : Rec) (P : List (List Int)) (pvs : List Value) (cm : Nat) (vv fv : Value) (os : List (Option Nat × Option Nat)) (xs : List (List Value)) (B : Nat) (wr : World) : Prop where
 ext : Ext w wr
 base : w.heap.size ≤ B
 reco : RecAt B wr rb R cm vv fv os xs
 hist : Hist R P
 few : P.length ≤ j + 1
 one : 1 ≤ P.length
 row : wr.ownsRow N 35 1 pv P.length pvs
 low : w.heap.size ≤ N
 size : N ≤ wr.heap.size
 pars : ∀ (i : Nat) u ps,pvs[i]? = some u → P[i]? = some ps → IntsAt w u ps
 facts : R.facts.length ≤ 8 * j
theorem RecAt.frm {B : Nat} {w w' : World} {rb : Nat} {R : Rec} {cm : Nat} {vv fv : Value} {os : List (Option Nat × Option Nat)} {xs : List (List Value)} (h : RecAt B w rb R cm vv fv os xs) {e : TypeId} (hf : Frm e w w') (he : (100 : TypeId) ≠ e ∧ (96 : TypeId) ≠ e ∧ (122 : TypeId) ≠ e ∧ (104 : TypeId) ≠ e ∧ (9 : TypeId) ≠ e) : RecAt B w' rb R cm vv fv os xs:=
 {base:=h.base,blk:=hf.cells h.blk he.1,cols:=hf.map h.cols,colAt:=fun c hc=>(h.colAt c hc |> hf.colK he.2.2.2.1 he.2.2.2.2)
  vers:=hf.owns h.vers he.2.1
  verLen:=h.verLen
  verAt:=fun i o v ho hv=>⟨hf.mapV (h.verAt i o v ho hv).1,hf.mapV (h.verAt i o v ho hv).2⟩
  facts:=hf.owns h.facts he.2.2.1
  factLen:=h.factLen,four:=h.four,ok:=h.ok }
theorem MgI.stay {w : World} {N : Nat} {ops : List OpD} {rb : Nat} {pv : Value} {j : Nat} {R : Rec} {P : List (List Int)} {pvs : List Value} {cm : Nat} {vv fv : Value} {os : List (Option Nat × Option Nat)} {xs : List (List Value)} {B : Nat} {wr W : World} (h : MgI w N ops rb pv j R P pvs cm vv fv os xs B wr) (hx : Ext wr W) {j' : Nat} (hj : j ≤ j') : MgI w N ops rb pv j' R P pvs cm vv fv os xs B W:=
 {ext:=h.ext.trans' hx,base:=h.base,reco:=h.reco.ext hx,hist:=h.hist,few:=by have:=h.few;omega,one:=h.one
  row:=owns_keep h.row fun g cs _ hg=>hx.block g (heap_lt hg)
  low:=h.low,size:=Nat.le_trans h.size hx.size,pars:=h.pars,facts:=by have:=h.facts;omega }
theorem info35 : (Tryz.prog.info? 35).map (fun i=>(i.zero,i.size,i.bytes)) = some (some (.slice none 0 0),1,24):=by kernel_rfl
theorem MgI.step {w : World} {N : Nat} {ops : List OpD} {rb : Nat} {pv : Value} {j : Nat} {R : Rec} {P : List (List Int)} {pvs : List Value} {cm : Nat} {vv fv : Value} {os : List (Option Nat × Option Nat)} {xs : List (List Value)} {B : Nat} {wr W W0 : World} (h : MgI w N ops rb pv j R P pvs cm vv fv os xs B wr)
  {ps : List Int} {adds : List Fct} {ws : List Int} {frs : List FR} {la lw : List (Int × Value)} {v' f' : Value} {os' : List (Option Nat × Option Nat)} {xs' : List (List Value)} (hC : ComOk R ps adds ws frs la lw) (hR : RecAt B W rb (commitR R frs la lw) cm v' f' os' xs') (hx : Ext wr W0) (hK : Keep B W0 W) {u : Value} (hu : IntsAt w u ps) (h1 : u.oneCell' = true) (ha : adds.length ≤ 8) (hj : j ≤ 25) (hBN : B ≤ N) :
  ∃ pv' w',(Builtin.append_ #[71,71] 71 #[pv,.slice (some ⟨W.heap.size,0,none⟩) 1 1]).run Tryz.prog (W.alloc (.cells #[u] 35 (0,0))) = .ok pv' w' ∧ MgI w N ops rb pv' (j + 1) (commitR R frs la lw) (P ++ [ps]) (pvs ++ [u]) cm v' f' os' xs' B w':=by
 have hx0 : Ext w W:=ext_keep (h.ext.trans' hx) h.base hK
 have hlen:=h.row.1
 have hrow0 : W.ownsRow N 35 1 pv P.length pvs:=hK.owns (owns_keep h.row fun g cs _ hg=>hx.block g (heap_lt hg)) (by decide)
 obtain ⟨W9,hW9⟩ : ∃ W9,W9 = W.alloc (.cells #[u] 35 (0,0)):=⟨_,rfl⟩
 have hx9 : Ext W W9:=by rw [hW9];exact bel
 have hb9 : W9.heap[W.heap.size]? = some (.cells #[u] 35 (0,0)):=by rw [hW9];simp only [heap_drawn_get,heap_drew_get,heap_setCell_get,heap_alloc_get,World.size_alloc,World.size_setCell,size_drawn,putObj_get,putObj_size];(repeat (first | rw [if_pos trivial] | rw [if_pos rfl] | rw [if_neg (by omega)] | rw [if_pos (by omega)]))
 have hrow9 : W9.ownsRow N 35 1 pv P.length pvs:=owns_keep hrow0 fun g cs _ hg=>hx9.block g (heap_lt hg)
 have hN : N ≤ W9.heap.size:=Nat.le_trans h.size (Nat.le_trans hx.size (Nat.le_trans hK.size hx9.size))
 rw [← hW9]
 have hml : (1000000 : Nat) ≤ maxLen:=by decide
 have hfew:=h.few
 obtain ⟨i0,hi,hz0,hz1,hz2⟩:=info_parts info35
 obtain ⟨pv',w',q1,q2,q3,_⟩:=run_append_own (P:=Tryz.prog) (w:=W9) N 71 71 35 i0 _ 1 24 (by kernel_rfl) hi hz0 hz1 hz2 rfl (by decide) pv P.length pvs hrow9 ⟨W.heap.size,0,none⟩ 1 1 [u] rfl (fun j u hj=>add_cell (by rw [Nat.zero_add,cell_of hb9 j,List.getElem?_toArray];exact hj)) (fun x hx=>by obtain rfl:=List.mem_singleton.1 hx;exact h1) (by omega) (by omega) hN
 have hfr:=frm_grown hrow9 q3
 refine ⟨pv',w',q1,?_⟩
 exact
  {ext:=(hx0.trans' hx9).grown q3 (Nat.le_trans hx0.size hx9.size) fun k hk=>Nat.le_trans h.low (owns_block hrow9 hk).1
   base:=h.base
   reco:=(hR.ext hx9).frm hfr (by decide)
   hist:=h.hist.commit hC
   few:=by rw [List.length_append];simp;omega
   one:=by rw [List.length_append];simp
   row:=by rw [List.length_append];exact q2
   low:=h.low
   size:=Nat.le_trans hN q3.size
   pars:=fun i x ps' hxi hpi=>by
    have hpl : pvs.length = P.length:=by simpa using hlen
    by_cases hlt : i < P.length
    ·rw [List.getElem?_append_left (by omega)] at hxi
     rw [List.getElem?_append_left hlt] at hpi
     exact h.pars i x ps' hxi hpi
    ·have hi2:=(List.getElem?_eq_some_iff.1 hpi).1
     simp at hi2
     have e : i = P.length:=by omega
     subst e
     rw [List.getElem?_append_right (by omega),hpl,Nat.sub_self] at hxi
     rw [List.getElem?_append_right (Nat.le_refl _),Nat.sub_self] at hpi
     obtain rfl:=Option.some.inj hxi
     obtain rfl:=Option.some.inj hpi
     exact hu
   facts:=by
    have:=h.facts
    have:=hC.len
    unfold commitR
    simp only [List.length_append]
    omega }
theorem nil_ints (w : World) : IntsAt w (.slice none 0 0) []:=⟨none,0,rfl,Nat.le_refl _,Nat.zero_le _,rfl,fun j u hu=>by simp at hu⟩
end Go.Proofs.YtihfcjioilmmjaaGreat
namespace Go.Proofs.YtihfcjioilmmjaaGreat
open Go Go.RowKit
open Go.Lib Go.Proofs
structure PatC (w : World) (o : Int) (at_ : ByteArray) (p : Option Addr) (n c : Nat) (l h : Int) (p2 : Option Addr) (n2 c2 : Nat) (p6 : Option Addr) (c6 : Nat) (own : Exp) (parts : List Exp) : Prop where
 own : ExpAt w [.int .u8 o,.string at_,.slice p n c,.int .i64 l,.int .i64 h,.slice p2 n2 c2] own
 parts : ExpsAt w (.slice p6 parts.length c6) parts
theorem PatC.ext {w w' : World} {o : Int} {at_ : ByteArray} {p : Option Addr} {n c : Nat} {l h : Int} {p2 : Option Addr} {n2 c2 : Nat} {p6 : Option Addr} {c6 : Nat} {own : Exp} {parts : List Exp} (k : PatC w o at_ p n c l h p2 n2 c2 p6 c6 own parts) (hx : Ext w w') : PatC w' o at_ p n c l h p2 n2 c2 p6 c6 own parts:=⟨k.own.ext hx,k.parts.ext hx⟩
theorem pat_form {w : World} {cs : List Value} {own : Exp} {parts : List Exp} (h : PatAt w cs own parts) : ∃ o at_ p n c l h p2 n2 c2 p6 c6,cs = [.int .u8 o,.string at_,.slice p n c,.int .i64 l,.int .i64 h,.slice p2 n2 c2,.slice p6 parts.length c6] ∧ PatC w o at_ p n c l h p2 n2 c2 p6 c6 own parts:=by
 obtain ⟨ec,v,rfl,h1,h2⟩:=h
 obtain ⟨o,at_,p,n,c,l,h,p2,n2,c2,rfl⟩:=exp_form h1
 obtain ⟨p6,c6,rfl,_⟩:=h2.at
 exact ⟨o,at_,p,n,c,l,h,p2,n2,c2,p6,c6,rfl,h1,h2⟩
theorem exp_zero (w : World) : ExpAt w [.int .u8 0,.string ⟨#[]⟩,.slice none 0 0,.int .i64 0,.int .i64 0,.slice none 0 0] (.mk 0 ⟨#[]⟩ [] 0 0 []):=
 ExpAt.mk (css:=[]) ⟨by decide,by decide⟩ (by decide) ⟨by decide,by decide⟩ ⟨by decide,by decide⟩ (strs_none w) rfl ⟨none,0,rfl,Nat.le_refl _,Nat.zero_le _,rfl,fun j u hu=>by simp at hu⟩ (fun c hc=>by cases hc) (fun i c k hc=>by simp at hc)
theorem exps_zero (w : World) : ExpsAt w (.slice none 0 0) []:=⟨[],rfl,⟨none,0,rfl,Nat.le_refl _,Nat.zero_le _,rfl,fun j u hu=>by simp at hu⟩,fun c hc=>(by cases hc),fun i c k hc=>(by simp at hc)⟩
def opOf (adds : List Fct) (own : Exp) (parts : List Exp) : OpD:=⟨0,[],[],adds,0,0,⟨#[]⟩,⟨#[]⟩,own,parts⟩
theorem opOf_at {w : World} {av : Value} {adds : List Fct} (ha : FactsAt w av adds) (hb : ∀ f ∈ adds,FactBig f) {pc : List Value} {own : Exp} {parts : List Exp} (hp : PatAt w pc own parts) (hpb : PatBig own parts) : OpAt w ([.int .i64 0,.slice none 0 0,.slice none 0 0,av,.int .i64 0,.int .i64 0,.string ⟨#[]⟩,.string ⟨#[]⟩] ++ pc) (opOf adds own parts):=
 {cells:=⟨_,_,_,pc,rfl,nil_ints w,nil_ints w,ha,hp⟩,pok:=fun i hi=>(by cases hi),wok:=fun i hi=>(by cases hi),big:=hb,sub:=(show (⟨#[]⟩ : ByteArray).size ≤ maxLen by decide),att:=(show (⟨#[]⟩ : ByteArray).size ≤ maxLen by decide),nums:=(show i64ok 0 ∧ i64ok 0 from ⟨⟨by decide,by decide⟩,by decide,by decide⟩),pbig:=hpb }
theorem ops_two {w : World} {b : Nat} {c1 c2 : List Value} {o1 o2 : OpD} (h1 : OpAt w c1 o1) (h2 : OpAt w c2 o2) (l1 : c1.length = 15) (l2 : c2.length = 15) (hb : w.heap[b]? = some (.cells (c1 ++ c2).toArray 37 (0,0))) : OpsAt w (.slice (some ⟨b,0,none⟩) 2 2) [o1,o2]:=by
 refine ⟨[c1,c2],rfl,⟨some ⟨b,0,none⟩,2,rfl,Nat.le_refl _,(show (2 : Nat) ≤ maxLen by decide),by simp [l1,l2],fun j u hu=>⟨b,0,rfl,?_⟩⟩,?_,?_⟩
 ·rw [Nat.zero_add,cell_of hb,List.getElem?_toArray]
  simpa using hu
 ·intro c hc
  rcases List.mem_cons.1 hc with rfl | hc
  ·exact l1
  ·rw [List.mem_singleton.1 hc];exact l2
 ·intro i c k hc hk
  match i,hc,hk with
  | 0,hc,hk=>
   obtain rfl:=Option.some.inj hc
   obtain rfl:=Option.some.inj hk
   exact h1
  | 1,hc,hk=>
   obtain rfl:=Option.some.inj hc
   obtain rfl:=Option.some.inj hk
   exact h2
  | i + 2,hc,_=>simp at hc
theorem narrow_facts {l : List Fct} (h : wideFactsF l = false) : l.length ≤ 8 ∧ ∀ f ∈ l,f.values.length ≤ 10 ∧ f.subject.size ≤ 60:=by
 unfold wideFactsF at h
 rw [Bool.or_eq_false_iff,decide_eq_false_iff_not] at h
 refine ⟨by omega,fun f hf=>?_⟩
 have:=(List.any_eq_false.1 h.1) f hf
 unfold wideFact at this
 simp only [Bool.or_eq_true,decide_eq_true_eq] at this
 omega
theorem psum_ge : ∀ (l : List Exp) (n : Nat),n ≤ psum l n ∧ ∀ e ∈ l,countF 12 e ≤ psum l n
 | [],n=>⟨Nat.le_refl _,fun e he=>by cases he⟩
 | e :: r,n=>by
  obtain ⟨h1,h2⟩:=psum_ge r (n + countF 12 e)
  show n ≤ psum r (n + countF 12 e) ∧ _
  refine ⟨by omega,fun k hk=>?_⟩
  show countF 12 k ≤ psum r (n + countF 12 e)
  rcases List.mem_cons.1 hk with rfl | hk
  ·omega
  ·exact h2 k hk
theorem narrow_pat {own : Exp} {parts : List Exp} (h : widePatF own parts = false) : own.nodes ≤ 40 ∧ parts.length ≤ 6 ∧ ∀ e ∈ parts,e.nodes ≤ 40:=by
 unfold widePatF at h
 simp only [Bool.or_eq_false_iff,decide_eq_false_iff_not] at h
 have ht : parts.take 50 = parts:=List.take_of_length_le (by omega)
 rw [ht] at h
 obtain ⟨h1,h2⟩:=psum_ge parts (countF 12 own)
 refine ⟨?_,by omega,fun e he=>?_⟩
 ·have:=countF_nodes 12 own (by omega);omega
 ·have:=h2 e he
  have:=countF_nodes 12 e (by omega);omega
theorem narrow_opOf {l : List Fct} {own : Exp} {parts : List Exp} (h : wideOp (opOf l own parts) = false) : wideFactsF l = false ∧ widePatF own parts = false:=by
 unfold wideOp opOf at h
 simp only [Bool.or_eq_false_iff] at h
 exact ⟨h.1,h.2.1⟩
def CoPost (B rb : Nat) (R : Rec) (cm : Nat) (ps : List Int) (adds : List Fct) (wr : World) (e : Ending) (W : World) : Prop:=
 ∃ n er : Int,e = .returned (.tuple #[.int .i64 n,.int .i64 er]) ∧ ((er ≠ 0 ∧ Ext wr W) ∨ (er = 0 ∧ n = (R.vers.length : Int) ∧ ∃ frs la lw v' f' os' xs',ComOk R ps adds [] frs la lw ∧ RecAt B W rb (commitR R frs la lw) cm v' f' os' xs' ∧ Keep B wr W))
theorem commit_gen {B : Nat} {w : World} {rb : Nat} {R : Rec} {cm : Nat} {vv fv : Value} {os : List (Option Nat × Option Nat)} {xs : List (List Value)} (h : RecAt B w rb R cm vv fv os xs) (hg : Glob w) (pv av : Value) (ps : List Int) (hps : IntsAt w pv ps) (hpl : ps.length ≤ 1000) (adds : List Fct) (hadds : FactsAt w av adds) (hal : adds.length ≤ 1000) (hok : ∀ f ∈ adds,f.subject.size ≤ 60 ∧ FactBig f) :
  Calls Tryz.prog 12 #[encP rb,pv,av,.slice none 0 0] w (CoPost B rb R cm ps adds w):=by
 refine commit_try h hg pv av _ ps hps (by omega) adds hadds hal (fun f hf=>⟨Nat.lt_of_le_of_lt (hok f hf).1 (by decide),(hok f hf).2⟩) [] (nil_ints w) _ ?_ ?_ ?_ ?_ ?_ ?_
 ·exact fun W hx _=>⟨0,2,rfl,.inl ⟨by decide,hx⟩⟩
 ·exact fun W hx _ _=>⟨0,110,rfl,.inl ⟨by decide,hx⟩⟩
 ·exact fun W hx _ _ _=>⟨0,112,rfl,.inl ⟨by decide,hx⟩⟩
 ·exact fun W hx _=>⟨0,7,rfl,.inl ⟨by decide,hx⟩⟩
 ·exact fun W hx _=>⟨0,8,rfl,.inl ⟨by decide,hx⟩⟩
 ·exact fun W frs la lw v' f' os' xs' hC hR hK=>⟨_,0,rfl,.inr ⟨rfl,rfl,frs,la,lw,v',f',os',xs',hC,hR,hK⟩⟩
theorem facts_one {w : World} {b off n c : Nat} {l : List Fct} (h : FactsAt w (.slice (some ⟨b,off,none⟩) n c) l) {i : Nat} {f : Fct} (hf : l[i]? = some f) (hn : 1 ≤ c - i) : FactsAt w (.slice (some ⟨b,off + i * 5,none⟩) 1 (c - i)) [f]:=by
 obtain ⟨a,cap,he,hcap,hel⟩:=RowsAt.at (cells:=factCells) (by decide) (fun _ _=>rfl) h
 simp only [Value.slice.injEq] at he
 obtain ⟨rfl,rfl,rfl⟩:=he
 obtain ⟨b',off',u,e,hu,hc⟩:=hel i f hf
 simp only [Option.some.injEq,Addr.mk.injEq] at e
 obtain ⟨rfl,rfl,_⟩:=e
 refine ⟨[u],rfl,⟨_,_,rfl,hn,(show (1 : Nat) ≤ maxLen by decide),rfl,fun j v hv=>⟨b,off + i * 5,rfl,?_⟩⟩,fun x hx=>?_⟩
 ·rw [show off + i * 5 + j = off + (i * 5 + j) by omega]
  refine hc j v ?_
  simpa using hv
 ·rw [show [f].zip [u] = [(f,u)] from rfl,List.mem_singleton] at hx
  subst hx
  exact hu
def knZero : Array Value:=#[.slice none 0 0,.int .i64 0,.int .i64 0,.slice none 0 0,.bool false]
def KnJ (wr : World) (D : Bool → Int → Prop) (fo : Option Value) (us : List Value) (W : World) : Prop:=
 Ext wr W ∧ match us with
 | []=>∀ v,fo = some v → ∃ b,v = .pointer (some ⟨b,0,none⟩) ∧ wr.heap.size ≤ b ∧ W.heap[b]? = some (.cells knZero 52 (0,0))
 | [u]=>(∀ v,fo = some v → ∃ b,v = .pointer (some ⟨b,0,none⟩) ∧ wr.heap.size ≤ b ∧ W.heap[b]? = some (.cells knZero 52 (0,0))) ∧
  ∃ (p1 : Option Addr) (n1 c1 : Nat) (lo hi : Int) (p2 : Option Addr) (n2 c2 : Nat) (d : Bool) (er : Int),u = .tuple #[.agg #[.slice p1 n1 c1,.int .i64 lo,.int .i64 hi,.slice p2 n2 c2,.bool d],.int .i64 er] ∧ D d er
 | u :: _ :: _=>∃ (b : Nat) (p1 : Option Addr) (n1 c1 : Nat) (lo hi : Int) (p2 : Option Addr) (n2 c2 : Nat) (d : Bool) (er : Int),fo = some (.pointer (some ⟨b,0,none⟩)) ∧ u = .tuple #[.agg #[.slice p1 n1 c1,.int .i64 lo,.int .i64 hi,.slice p2 n2 c2,.bool d],.int .i64 er] ∧ D d er ∧ wr.heap.size ≤ b ∧ W.heap[b]? = some (.cells #[.slice p1 n1 c1,.int .i64 lo,.int .i64 hi,.slice p2 n2 c2,.bool d] 52 (0,0))
theorem KnJ.ext {wr : World} {D : Bool → Int → Prop} {fo : Option Value} {us : List Value} {W : World} (h : KnJ wr D fo us W) : Ext wr W:=h.1
theorem KnJ.ptr {wr : World} {D : Bool → Int → Prop} {v : Value} {us : List Value} {W : World} (h : KnJ wr D (some v) us W) : ∃ b,v = .pointer (some ⟨b,0,none⟩) ∧ wr.heap.size ≤ b:=by
 obtain ⟨_,h⟩:=h
 match us,h with
 | [],h=>obtain ⟨b,h1,h2,_⟩:=h v rfl;exact ⟨b,h1,h2⟩
 | [_],h=>obtain ⟨b,h1,h2,_⟩:=h.1 v rfl;exact ⟨b,h1,h2⟩
 | _ :: _ :: _,h=>obtain ⟨b,_,_,_,_,_,_,_,_,_,_,h1,_,_,h2,_⟩:=h;exact ⟨b,Option.some.inj h1,h2⟩
theorem KnJ.float {wr : World} {D : Bool → Int → Prop} {us : List Value} {W : World} (h : KnJ wr D none us W) : KnJ wr D (some (.pointer (some ⟨W.heap.size,0,none⟩))) us (W.alloc (.cells knZero 52 (0,0))):=by
 have hx : Ext W (W.alloc (.cells knZero 52 (0,0))):=by exact bel
 have hb : (W.alloc (.cells knZero 52 (0,0))).heap[W.heap.size]? = some (.cells knZero 52 (0,0)):=by simp only [heap_drawn_get,heap_drew_get,heap_setCell_get,heap_alloc_get,World.size_alloc,World.size_setCell,size_drawn,putObj_get,putObj_size];(repeat (first | rw [if_pos trivial] | rw [if_pos rfl] | rw [if_neg (by omega)] | rw [if_pos (by omega)]))
 obtain ⟨h0,h⟩:=h
 refine ⟨h0.trans' hx,?_⟩
 match us,h with
 | [],_=>exact fun v hv=>⟨W.heap.size,(Option.some.inj hv).symm,h0.size,hb⟩
 | [_],h=>exact ⟨fun v hv=>⟨W.heap.size,(Option.some.inj hv).symm,h0.size,hb⟩,h.2⟩
 | _ :: _ :: _,h=>obtain ⟨b,_,_,_,_,_,_,_,_,_,_,h1,_⟩:=h;cases h1
theorem KnJ.call {wr : World} {D : Bool → Int → Prop} {fo : Option Value} {W W' : World} (h : KnJ wr D fo [] W) (hx : Ext W W') {p1 : Option Addr} {n1 c1 : Nat} {lo hi : Int} {p2 : Option Addr} {n2 c2 : Nat} {d : Bool} {er : Int} (hd : D d er) : KnJ wr D fo [.tuple #[.agg #[.slice p1 n1 c1,.int .i64 lo,.int .i64 hi,.slice p2 n2 c2,.bool d],.int .i64 er]] W':=
 ⟨h.1.trans' hx,fun v hv=>let ⟨b,h1,h2,h3⟩:=h.2 v hv;⟨b,h1,h2,hx.obj h3⟩,p1,n1,c1,lo,hi,p2,n2,c2,d,er,rfl,hd⟩
theorem KnJ.form {wr : World} {D : Bool → Int → Prop} {fo : Option Value} {u : Value} {W : World} (h : KnJ wr D fo ([] ++ [u]) W) : ∃ (p1 : Option Addr) (n1 c1 : Nat) (lo hi : Int) (p2 : Option Addr) (n2 c2 : Nat) (d : Bool) (er : Int),u = .tuple #[.agg #[.slice p1 n1 c1,.int .i64 lo,.int .i64 hi,.slice p2 n2 c2,.bool d],.int .i64 er]:=by
 obtain ⟨_,_,p1,n1,c1,lo,hi,p2,n2,c2,d,er,e,_⟩:=h
 exact ⟨p1,n1,c1,lo,hi,p2,n2,c2,d,er,e⟩
theorem KnJ.zero {wr : World} {D : Bool → Int → Prop} {b : Nat} {u : Value} {W : World} (h : KnJ wr D (some (.pointer (some ⟨b,0,none⟩))) [u] W) : W.heap[b]? = some (.cells knZero 52 (0,0)):=by
 obtain ⟨b',e,_,h2⟩:=h.2.1 _ rfl
 simp only [Value.pointer.injEq,Option.some.injEq,Addr.mk.injEq,and_true] at e
 rw [e];exact h2
theorem KnJ.store {wr : World} {D : Bool → Int → Prop} {b : Nat} {p1 : Option Addr} {n1 c1 : Nat} {lo hi : Int} {p2 : Option Addr} {n2 c2 : Nat} {d : Bool} {er : Int} {W : World} (h : KnJ wr D (some (.pointer (some ⟨b,0,none⟩))) [.tuple #[.agg #[.slice p1 n1 c1,.int .i64 lo,.int .i64 hi,.slice p2 n2 c2,.bool d],.int .i64 er]] W) (v : Value) :
  KnJ wr D (some (.pointer (some ⟨b,0,none⟩))) [.tuple #[.agg #[.slice p1 n1 c1,.int .i64 lo,.int .i64 hi,.slice p2 n2 c2,.bool d],.int .i64 er],v]
   (((((W.setCell ⟨b,0,none⟩ (.slice p1 n1 c1)).setCell ⟨b,1,none⟩ (.int .i64 lo)).setCell ⟨b,2,none⟩ (.int .i64 hi)).setCell ⟨b,3,none⟩ (.slice p2 n2 c2)).setCell ⟨b,4,none⟩ (.bool d)):=by
 obtain ⟨b',e,hb,_⟩:=h.2.1 _ rfl
 simp only [Value.pointer.injEq,Option.some.injEq,Addr.mk.injEq,and_true] at e
 subst e
 have hz:=h.zero
 obtain ⟨hx,_,q1,m1,k1,lo',hi',q2,m2,k2,d',er',e2,hd⟩:=h
 simp only [Value.tuple.injEq,Array.mk.injEq,List.cons.injEq,Value.agg.injEq,Value.bool.injEq,Value.int.injEq,and_true,true_and] at e2
 obtain ⟨⟨_,_,_,_,rfl⟩,rfl⟩:=e2
 refine ⟨by exact bel,b,p1,n1,c1,lo,hi,p2,n2,c2,d,er,rfl,rfl,hd,hb,?_⟩
 simp only [heap_drawn_get,heap_drew_get,heap_setCell_get,heap_alloc_get,World.size_alloc,World.size_setCell,size_drawn,putObj_get,putObj_size];(repeat (first | rw [if_pos trivial] | rw [if_pos rfl] | rw [if_neg (by omega)] | rw [if_pos (by omega)]))
 rw [hz];rfl
end Go.Proofs.YtihfcjioilmmjaaGreat
namespace Go.Proofs.YtihfcjioilmmjaaGreat
open Go Go.RowKit
open Go.Lib Go.Proofs
theorem flat3 {α : Type} (g : α → List Value) (hk : ∀ x,(g x).length = 3) : ∀ (l : List α) (i : Nat) (x : α),l[i]? = some x → ∀ r : Nat,r < 3 → (l.flatMap g)[i * 3 + r]? = (g x)[r]?
 | [],i,x,h,r,hr=>by simp at h
 | y :: l,0,x,h,r,hr=>by
  obtain rfl : y = x:=by simpa using h
  rw [List.flatMap_cons,List.getElem?_append_left (by rw [hk];omega)]
  rw [Nat.zero_mul,Nat.zero_add]
 | y :: l,i + 1,x,h,r,hr=>by
  rw [List.flatMap_cons,List.getElem?_append_right (by rw [hk];omega),hk,show (i + 1) * 3 + r - 3 = i * 3 + r by omega]
  exact flat3 g hk l i x (by simpa using h) r hr
theorem filter_at {α : Type} (p : α → Bool) {l : List α} {i : Nat} {t : α} (h : l[i]? = some t) (hp : p t = true) : (l.filter p)[((l.take i).filter p).length]? = some t ∧ ((l.take (i + 1)).filter p).length = ((l.take i).filter p).length + 1:=by
 obtain ⟨hi,e⟩:=List.getElem?_eq_some_iff.1 h
 have h1 : l.take (i + 1) = l.take i ++ [t]:=by rw [List.take_add_one,h];rfl
 constructor
 ·have h2 : l = l.take (i + 1) ++ l.drop (i + 1):=(List.take_append_drop _ _).symm
  generalize l.drop (i + 1) = r at h2
  conv=>lhs;arg 1;rw [h2,h1]
  rw [List.filter_append,List.filter_append,List.append_assoc,List.getElem?_append_right (Nat.le_refl _),Nat.sub_self]
  simp [hp]
 ·rw [h1,List.filter_append]
  simp [hp]
theorem filter_off {α : Type} (p : α → Bool) {l : List α} {i : Nat} {t : α} (h : l[i]? = some t) (hp : p t = false) : ((l.take (i + 1)).filter p).length = ((l.take i).filter p).length:=by
 have h1 : l.take (i + 1) = l.take i ++ [t]:=by rw [List.take_add_one,h];rfl
 rw [h1,List.filter_append]
 simp [hp]
theorem LikeN.fn (R : Rec) (hf : List (Int × FR)) (own : Exp) (parts : List Exp) : ∃ K : ByteArray → Int,∀ t k,LikeN R hf own parts t k → k = K t:=by
 classical
 refine ⟨fun t=>if h : ∃ k,LikeN R hf own parts t k then h.choose else 0,fun t k hk=>?_⟩
 have hex : ∃ k,LikeN R hf own parts t k:=⟨k,hk⟩
 show k = dite _ _ _
 rw [dif_pos hex]
 exact hk.uniq hex.choose_spec
theorem KsOk.map {L : ByteArray → Int → Prop} {l : List (List UInt8)} {ks : List Int} (h : KsOk L l ks) {K : ByteArray → Int} (hK : ∀ t k,L t k → k = K t) : ks = l.map fun t=>K (ofBytes t):=by
 refine List.ext_getElem? fun i=>?_
 rw [List.getElem?_map]
 cases ht : l[i]? with
 | none=>rw [List.getElem?_eq_none (by have:=List.getElem?_eq_none_iff.1 ht;rw [h.1];exact this)];rfl
 | some t=>
  have hi : i < ks.length:=by rw [h.1];exact (List.getElem?_eq_some_iff.1 ht).1
  have hk : ks[i]? = some ks[i]:=List.getElem?_eq_getElem hi
  rw [hk]
  exact congrArg some (hK _ _ (h.2 i t _ ht hk).1)
theorem KsOk.get {L : ByteArray → Int → Prop} {l : List (List UInt8)} {ks : List Int} (h : KsOk L l ks) {t : List UInt8} (ht : t ∈ l) : ∃ k,L (ofBytes t) k:=by
 obtain ⟨i,hi⟩:=List.mem_iff_getElem?.1 ht
 have hl : i < ks.length:=by rw [h.1];exact (List.getElem?_eq_some_iff.1 hi).1
 exact ⟨_,(h.2 i t _ hi (List.getElem?_eq_getElem hl)).1⟩
theorem shiftL_map (f g : ByteArray → Int) : ∀ l : List (List UInt8),shiftL l (l.map fun t=>f (ofBytes t)) (l.map fun t=>g (ofBytes t)) = (l.filter fun t=>decide (f (ofBytes t) ≠ g (ofBytes t))).map fun t=>(t,f (ofBytes t),g (ofBytes t))
 | []=>rfl
 | t :: l=>by
  have ih:=shiftL_map f g l
  unfold shiftL at ih ⊢
  rw [List.map_cons,List.map_cons,List.zip_cons_cons,List.zip_cons_cons,List.filter_cons,List.filter_cons,ih]
  by_cases h : f (ofBytes t) ≠ g (ofBytes t)
  ·rw [if_pos (by simpa using h),if_pos (by simpa using h)];rfl
  ·rw [if_neg (by simpa using h),if_neg (by simpa using h)]
def difP (f g : ByteArray → Int) (t : List UInt8) : Bool:=!isPart (ofBytes t) && decide (f (ofBytes t) ≠ g (ofBytes t))
theorem shift_dif {h1 h2 : List (Int × FR)} (hs : subsV h2 = subsV h1) {L1 L2 : ByteArray → Int → Prop} {f g : ByteArray → Int} (hf : ∀ t k,L1 t k → k = f t) (hg : ∀ t k,L2 t k → k = g t) {k1 k2 : List Int} (hk1 : KsOk L1 (bothV h1 h2) k1) (hk2 : KsOk L2 (bothV h1 h2) k2) :
  shiftL (bothV h1 h2) k1 k2 = ((subsV h1).filter (difP f g)).map fun t=>(t,f (ofBytes t),g (ofBytes t)):=by
 rw [hk1.map hf,hk2.map hg,shiftL_map,both_same hs]
 unfold wholesV
 rw [List.filter_filter]
 congr 2
 funext t
 unfold difP
 rw [Bool.and_comm]
theorem sub_len {R : Rec} (hok : RecOk R) {ver : Ver} (hv : ver ∈ R.vers) {t : List UInt8} (ht : t ∈ subsV (heldF R ver)) : (ofBytes t).size < 4294967281 ∧ nm (wholeOf (ofBytes t)) = true:=by
 rw [subs_mem] at ht
 unfold subsL at ht
 obtain ⟨x,hx,hm⟩:=List.mem_flatMap.1 ht
 obtain ⟨_,h2,h3,_⟩:=hok.fact _ (heldF_mem hok hv hx)
 unfold subj at h2
 rw [Bool.and_eq_true] at h2
 rcases List.mem_cons.1 hm with e | hm
 ·rw [e];exact ⟨h3,h2.1⟩
 ·rw [List.mem_singleton.1 hm]
  refine ⟨Nat.lt_of_le_of_lt (cut_sizes _).1 h3,?_⟩
  rw [(wholeOf_whole _).1];exact h2.1
theorem whole_self {s : ByteArray} (h : isPart s = false) : wholeOf s = s:=by
 rcases cut_cases s with ⟨_,h2,_⟩ | h2
 ·exact h2
 ·obtain ⟨_,h3,_⟩:=h2
  rw [h3] at h;cases h
theorem like_sure {hf : List (Int × FR)} {s : ByteArray} {bad : Prop} {L : ByteArray → Int → Prop} {w w' : World} {r : Ending} (h : LikeRel hf s bad L w r w') (hnm : nm s = true) (hnb : ¬ bad) (htm : tooMany hf = false) {t : List UInt8} (ht : t ∈ subsV hf) (hs : ofBytes t = s) {K : ByteArray → Int} (hK : ∀ t k,L t k → k = K t) : Ext w w' ∧ r = .returned (.tuple #[.int .u8 (K s),.int .i64 0]):=by
 obtain ⟨hx,⟨h1,_⟩ | ⟨_,h1,_⟩ | ⟨_,h1,_⟩ | ⟨_,_,k,rfl,hk,_⟩⟩:=h
 ·rw [h1] at hnm;cases hnm
 ·exact absurd h1 hnb
 ·have:=(List.any_eq_false.1 htm) t ht
  rw [hs] at this
  exact absurd (decide_eq_true h1) this
 ·exact ⟨hx,by rw [hK _ _ hk]⟩
theorem shift_at {w : World} {a : Option Addr} {l : List (List UInt8)} {f g : ByteArray → Int} (h : ∀ (j : Nat) u,((l.map fun t=>(t,f (ofBytes t),g (ofBytes t))).flatMap shiftCells)[j]? = some u → ∃ b off,a = some ⟨b,off,none⟩ ∧ w.cell? ⟨b,off + j,none⟩ = some u) {i : Nat} {t : List UInt8} (hi : l[i]? = some t) :
  ∃ b off,a = some ⟨b,off,none⟩ ∧ w.cell? ⟨b,off + i * 3,none⟩ = some (.string (ofBytes t)) ∧ w.cell? ⟨b,off + i * 3 + 1,none⟩ = some (.int .u8 (f (ofBytes t))) ∧ w.cell? ⟨b,off + i * 3 + 2,none⟩ = some (.int .u8 (g (ofBytes t))):=by
 have hm : (l.map fun t=>(t,f (ofBytes t),g (ofBytes t)))[i]? = some (t,f (ofBytes t),g (ofBytes t)):=by rw [List.getElem?_map,hi];rfl
 have k:=flat3 shiftCells (fun _=>rfl) _ i _ hm
 obtain ⟨b,off,rfl,q0⟩:=h _ _ (k 0 (by decide))
 obtain ⟨b1,o1,e1,q1⟩:=h _ _ (k 1 (by decide))
 obtain ⟨b2,o2,e2,q2⟩:=h _ _ (k 2 (by decide))
 simp only [Option.some.injEq,Addr.mk.injEq,and_true] at e1 e2
 obtain ⟨rfl,rfl⟩:=e1
 obtain ⟨rfl,rfl⟩:=e2
 exact ⟨b,off,rfl,by rw [← enc_of];exact q0,q1,q2⟩
end Go.Proofs.YtihfcjioilmmjaaGreat
