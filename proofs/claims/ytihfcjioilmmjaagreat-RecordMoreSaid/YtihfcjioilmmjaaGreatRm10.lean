/- Lemmas: outcomes. -/
import Derived.Test.YtihfcjioilmmjaaGreatRm1
import Derived.Test.YtihfcjioilmmjaaGreatRm9
set_option linter.all false
namespace Go.Proofs.YtihfcjioilmmjaaGreat
open Go Go.RowKit
open Go.Lib Go.Sort Go.Maps Go.Shelf Go.Proofs
set_option maxHeartbeats 8000000 in
set_option maxRecDepth 100000 in
theorem worlds_any {B : Nat} {w0 : World} {rb : Nat} {R : Rec} {cm : Nat} {vv fv : Value} {os : List (Option Nat × Option Nat)} {xs : List (List Value)} (h : RecAt B w0 rb R cm vv fv os xs) {B2 : Nat} {vb : Nat} {hf : List (Int × FR)} {sv : Value} {mp mk mf md : Nat} {lp : List (ByteArray × Value)} {lk lf ld : List ((ByteArray × Nat) × Value)}
  (hV : ViewAt B2 w0 vb hf sv mp mk mf md lp lk lf ld) (hfc : ∀ y ∈ hf,(y.2.attr,y.2.col) ∈ R.cols) (hfb : ∀ y ∈ hf,y.2.st.bits < 256) {qv : Value} {qbs : List Nat} {qs : List Qn} (hq : QsAt R w0 qv qbs (qs.map (·.φ))) (h8 : qbs.length ≤ 8)
  (hqa : ∀ (i : Nat) qb q,qbs[i]? = some qb → qs[i]? = some q → ∃ Bq hi tv mbq lmq,QAt Bq hi R w0 qb q tv mbq lmq) (hshort : ∀ q ∈ qs,∀ c l,q.marks c = some l → l.length ≤ 2000) (s : ByteArray) (smp : Nat → List Int) (hsmp : ∀ a c,(a,c) ∈ R.cols → smp c = sampF a (ofV hf (s,c) a) ((allM qs c).getD []))
  (Nf bl bq : Nat) (Wb : World) (lv : Value) (hlow : Below w0.heap.size w0 Wb) (hcq : Wb.heap[bq]? = some (.cells #[qv] 161 (0,0))) (ho : OutAt Nf bl Wb [] lv) (hNf : w0.heap.size ≤ Nf) (hNW : Nf ≤ Wb.heap.size) (hbl : w0.heap.size ≤ bl) :
  Calls Tryz.prog 89 #[.pointer (some ⟨vb,0,none⟩),.string s,qv,.func (.func 90) #[] #[.pointer (some ⟨bq,0,none⟩),.pointer (some ⟨bl,0,none⟩)]] Wb fun e Wb'=>e = .returned (.tuple #[]) ∧ Below w0.heap.size w0 Wb' ∧ ∃ cols lv',cols.Nodup ∧ (∀ c,c ∈ cols ↔ (allM qs c).isSome = true) ∧
   OutAt Nf bl Wb' (runW smp (fun ρ=>bitsK ((qs.map (·.φ)).map fun φ=>φ ρ) qbs.length) cols (fun _=>0,[])).2 lv':=by
 have HQ:=Lib.hid hq
 obtain ⟨⟨qp,qcap,rfl,hqcap,hqml,hbad,hqel⟩,hqlen,_⟩:=hq
 rw [List.length_map] at hqlen
 have HQEL:=Lib.hid hqel
 have HQLEN:=Lib.hid hqlen
 have HQA:=Lib.hid hqa
 have HREC:=Lib.hid h
 have HV:=Lib.hid hV
 have HFC:=Lib.hid hfc
 have HFB:=Lib.hid hfb
 have HSH:=Lib.hid hshort
 have HSMP:=Lib.hid hsmp
 obtain ⟨W1,hW1⟩ : ∃ W1,W1 = (((((Wb.alloc (.cells #[.pointer (some ⟨vb,0,none⟩)] 128 (0,0))).alloc (.cells #[.string s] 9 (0,0))).alloc (.cells #[.func (.func 90) #[] #[.pointer (some ⟨bq,0,none⟩),.pointer (some ⟨bl,0,none⟩)]] 189 (0,0))).alloc (.map #[] 0)).alloc (.cells #[.map (some (Wb.heap.size + 3))] 166 (0,0))).alloc (.cells #[.slice none 0 0] 209 (0,0)):=⟨_,rfl⟩
 have hx1 : Ext Wb W1:=by rw [hW1];exact bel
 have hsz:=hlow.size
 have hL0 : WL R w0 Nf bl vb (Wb.heap.size + 3) (Wb.heap.size + 5) (Wb.heap.size + 2) Wb.heap.size (Wb.heap.size + 1) (Wb.heap.size + 4) bq s (.slice qp qbs.length qcap) lv (.slice none 0 0) [] [] (fun _=>none) W1:=
  {below:=Below.trans hlow (Below.mono hx1 hsz),nf:=⟨hNf,Nat.le_trans hNW hx1.size⟩,ge:=⟨by omega,by omega,hbl⟩,c9:=by rw [hW1];simp only [heap_drawn_get,heap_drew_get,heap_setCell_get,heap_alloc_get,World.size_alloc,World.size_setCell,size_drawn,putObj_get,putObj_size];(repeat (first | rw [if_pos trivial] | rw [if_pos rfl] | rw [if_neg (by omega)] | rw [if_pos (by omega)])),row:=World.ownsRow_nil _ _ _ _,c7:=by rw [hW1];simp only [heap_drawn_get,heap_drew_get,heap_setCell_get,heap_alloc_get,World.size_alloc,World.size_setCell,size_drawn,putObj_get,putObj_size];(repeat (first | rw [if_pos trivial] | rw [if_pos rfl] | rw [if_neg (by omega)] | rw [if_pos (by omega)])),c4:=by rw [hW1];simp only [heap_drawn_get,heap_drew_get,heap_setCell_get,heap_alloc_get,World.size_alloc,World.size_setCell,size_drawn,putObj_get,putObj_size];(repeat (first | rw [if_pos trivial] | rw [if_pos rfl] | rw [if_neg (by omega)] | rw [if_pos (by omega)])),c5:=by rw [hW1];simp only [heap_drawn_get,heap_drew_get,heap_setCell_get,heap_alloc_get,World.size_alloc,World.size_setCell,size_drawn,putObj_get,putObj_size];(repeat (first | rw [if_pos trivial] | rw [if_pos rfl] | rw [if_neg (by omega)] | rw [if_pos (by omega)])),c8:=by rw [hW1];simp only [heap_drawn_get,heap_drew_get,heap_setCell_get,heap_alloc_get,World.size_alloc,World.size_setCell,size_drawn,putObj_get,putObj_size];(repeat (first | rw [if_pos trivial] | rw [if_pos rfl] | rw [if_neg (by omega)] | rw [if_pos (by omega)])),cq:=hx1.obj hcq,out:=ho.ext hx1,marks:=marks_nil (by rw [hW1];unfold MapIs;simp only [heap_drawn_get,heap_drew_get,heap_setCell_get,heap_alloc_get,World.size_alloc,World.size_setCell,size_drawn,putObj_get,putObj_size];(repeat (first | rw [if_pos trivial] | rw [if_pos rfl] | rw [if_neg (by omega)] | rw [if_pos (by omega)]));rfl) }
 have HL0:=Lib.hid hL0
 have hmm : ∀ t w,(Instr.makeMap t none).run Tryz.prog w = .ok (.map (some w.heap.size)) (w.alloc (.map #[] 0)):=fun _ _=>rfl
 unfold maxLen at hqml
 clear hx1 hL0 hbad hqel hqlen hqa h hV hfc hfb hshort hsmp hlow hcq ho
 go_enter Tryz.func89,Tryz.ntmps89
 go_upto_region 3 with fail
 rw [show Wb.heap.size + 1 + 1 + 1 + 1 + 1 = Wb.heap.size + 5 from rfl,show Wb.heap.size + 1 + 1 + 1 + 1 = Wb.heap.size + 4 from rfl,show Wb.heap.size + 1 + 1 + 1 = Wb.heap.size + 3 from rfl,show Wb.heap.size + 1 + 1 = Wb.heap.size + 2 from rfl]
 rw [← hW1]
 clear hW1
 go_wp2_with fail
 go_loopw [21] (fun i wr=>∃ (j : Nat) (cv : Value) (cols : List Nat) (lm : List (Nat × Value)),j ≤ qbs.length ∧ i = .int .i64 j ∧ WL R w0 Nf bl vb (Wb.heap.size + 3) (Wb.heap.size + 5) (Wb.heap.size + 2) Wb.heap.size (Wb.heap.size + 1) (Wb.heap.size + 4) bq s (.slice qp qbs.length qcap) lv cv cols lm (allM (qs.take j)) wr ∧ cols.Nodup ∧ ∀ c,c ∈ cols ↔ (allM (qs.take j) c).isSome = true) (fun i _=>qbs.length - (intOf i).toNat)
 case atStart=>exact ⟨0,_,[],[],Nat.zero_le _,rfl,HL0.out,List.nodup_nil,fun c=>by simp [allM]⟩
 case round=>
  obtain ⟨j,cv,cols,lm,hj,rfl,hL,hnc,hkeys⟩:=hrel
  by_cases hlt : j < qbs.length
  ·obtain ⟨qb,hqb⟩ : ∃ qb,qbs[j]? = some qb:=⟨_,List.getElem?_eq_getElem hlt⟩
   obtain ⟨q,hqj⟩ : ∃ q,qs[j]? = some q:=⟨_,List.getElem?_eq_getElem (by rw [← HQLEN.out];exact hlt)⟩
   obtain ⟨Bq,hi,tv,mbq,lmq,hQ⟩:=HQA.out j qb q hqb hqj
   obtain ⟨qab,qoff,rfl,hc⟩:=HQEL.out j (encP qb) (by rw [List.getElem?_map,hqb];rfl)
   unfold encP at hc
   have c0:=Ext.cell' hL.below hc
   have hQr:=hQ.ext hL.below
   have c2 : wr.cell? ⟨qb,2,none⟩ = some (.map (some mbq)):=cell_of hQr.blk 2
   have htk : qs.take (j + 1) = qs.take j ++ [q]:=by rw [List.take_add_one,hqj];rfl
   have hallm : allM (qs.take (j + 1)) = mergeM (allM (qs.take j)) q.marks:=by rw [htk,allM_snoc]
   have hsq:=HSH.out q (List.mem_of_getElem? hqj)
   have hal:=fun c=>allM_len (qs:=qs.take j) (fun q' hq'=>HSH.out q' (List.mem_of_mem_take hq')) c
   have hrg:=range_law (T:=166) (K:=101) (E:=35) (by kernel_rfl) hQr.marks.map
   obtain ⟨it,hit⟩ : ∃ it,wr.heap.size = it:=⟨_,rfl⟩
   obtain ⟨w7,hw7⟩ : ∃ w7,w7 = wr.alloc (.mapIter (some mbq) lmq.length #[] lmq.length):=⟨_,rfl⟩
   rw [← hw7] at hrg
   have hx7 : Ext wr w7:=by rw [hw7];exact bel
   have hit7 : IterAt w7 it mbq lmq.length []:=by unfold IterAt;rw [hw7,← hit];simp only [heap_drawn_get,heap_drew_get,heap_setCell_get,heap_alloc_get,World.size_alloc,World.size_setCell,size_drawn,putObj_get,putObj_size];(repeat (first | rw [if_pos trivial] | rw [if_pos rfl] | rw [if_neg (by omega)] | rw [if_pos (by omega)]))
   have hitge : Wb.heap.size + 5 < it:=by rw [← hit];exact heap_lt hL.c9
   rw [hit] at hrg
   have HL7:=Lib.hid (hL.ext hx7)
   have HQW:=Lib.hid hQ
   have HIT7:=Lib.hid hit7
   have HALLM:=Lib.hid hallm
   have HSQ:=Lib.hid hsq
   have HAL:=Lib.hid hal
   have HNC:=Lib.hid hnc
   have HKEYS:=Lib.hid hkeys
   clear hL hnc hkeys hc hQ hQr htk hallm hsq hal hw7 hx7 hit7 hqb hqj hit
   go_wp2_with fail
   go_loopw [12,13,14,15] (fun _ _ _ _ wr=>∃ (seen : List Nat) (cv2 : Value) (cols2 : List Nat) (lm2 : List (Nat × Value)),WL R w0 Nf bl vb (Wb.heap.size + 3) (Wb.heap.size + 5) (Wb.heap.size + 2) Wb.heap.size (Wb.heap.size + 1) (Wb.heap.size + 4) bq s (.slice (some ⟨qab,qoff,none⟩) qbs.length qcap) lv cv2 cols2 lm2 (mseen (allM (qs.take j)) q.marks lmq seen) wr ∧ IterAt wr it mbq lmq.length seen ∧ seen.Nodup ∧ (∀ j' ∈ seen,j' < lmq.length) ∧ cols2.Nodup ∧ ∀ c,c ∈ cols2 ↔ (mseen (allM (qs.take j)) q.marks lmq seen c).isSome = true) (fun _ _ _ _ wr=>lmq.length - (wr.iterSeen it).size)
   case atStart=>exact ⟨[],cv,cols,lm,HL7.out,HIT7.out,List.nodup_nil,fun j' h=>(by cases h),HNC.out,HKEYS.out⟩
   case round=>
    obtain ⟨seen,cv2,cols2,lm2,hL,hit,hnd,hfew,hnc,hkeys⟩:=hrel
    have hQr:=(HQW.out.ext hL.below).marks
    rcases next_law hQr.map hit 0 with ⟨hall,hn⟩ | ⟨i2,c,v,hl,hni,w1,hw1,hn⟩
    ·have hn' : ∀ ty,(Instr.next (.pointer (some ⟨it,0,none⟩)) false ty).run Tryz.prog wr = _:=fun ty=>hn
     rw [mseen_done hQr.none_ hall] at hL hkeys
     have HL:=Lib.hid hL
     have HKE:=Lib.hid hkeys
     have HNC2:=Lib.hid hnc
     clear hL hkeys hnc hit hnd hfew hQr hall hn hrg c2
     go_wp2_with fail
     exact ⟨⟨j + 1,cv2,cols2,lm2,by omega,rfl,by rw [HALLM.out];exact HL.out,HNC2.out,by rw [HALLM.out];exact HKE.out⟩,by simp [intOf];omega⟩
    ·have hil : i2 < lmq.length:=(List.getElem?_eq_some_iff.1 hl).1
     have hlt2:=seen_lt hnd hfew hil hni
     obtain ⟨WN,hWN⟩ : ∃ WN,WN = w1.putObj it (.mapIter (some mbq) lmq.length (seen ++ [i2]).toArray lmq.length):=⟨_,rfl⟩
     rw [← hWN] at hn
     have hn' : ∀ ty,(Instr.next (.pointer (some ⟨it,0,none⟩)) false ty).run Tryz.prog wr = .ok (.tuple #[.bool true,.pointer (some ⟨c,0,none⟩),v]) WN:=fun ty=>hn
     have hits : wr.iterSeen it = seen.toArray:=by
      unfold IterAt at hit
      unfold World.iterSeen
      rw [hit]
     have hitl : it < wr.heap.size:=heap_lt hit
     have hx1 : Ext wr w1:=by
      rcases hw1 with rfl | rfl
      ·exact ext_refl _
      ·exact bel
     have hh1 : w1.heap.size = wr.heap.size:=by rcases hw1 with rfl | rfl <;> rfl
     have hit1:=hx1.obj hit
     have hA2:=(hL.ext hx1).put (o':=.mapIter (some mbq) lmq.length (seen ++ [i2]).toArray lmq.length) (by omega) hit1 (by simp) (by omega)
     rw [← hWN] at hA2
     have hit2 : IterAt WN it mbq lmq.length (seen ++ [i2]):=by unfold IterAt;rw [hWN,putObj_get,if_pos rfl,if_pos (by omega)]
     have hmk2:=(HQW.out.ext hA2.below).marks
     have hent : (Instr.entry (.pointer (some ⟨it,0,none⟩))).run Tryz.prog WN = .ok (.tuple #[.pointer (some ⟨c,0,none⟩),v]) WN:=entry_law (enc:=encP) hmk2.map hit2 hl
     have hlk : look lmq c = some v:=look_mem hmk2.nodup (List.mem_of_getElem? hl)
     obtain ⟨l,hνc,hrowv0⟩:=HQW.out.marks.some_ c v hlk
     obtain ⟨a,hcm⟩:=hmk2.cols (c,v) (List.mem_of_getElem? hl)
     obtain ⟨hms1,hms2⟩:=mseen_snoc (μ:=allM (qs.take j)) hmk2.nodup hl hni hνc
     have hl1 : l.length ≤ 2000:=HSQ.out c l hνc
     have hμ1 : ((mseen (allM (qs.take j)) q.marks lmq seen c).getD []).length ≤ 16000:=by
      rw [hms1]
      have h1:=HAL.out c
      rw [List.length_take] at h1
      omega
     obtain ⟨vp,vc,rfl⟩:=owns_form hrowv0
     obtain ⟨μc,hμc⟩ : ∃ μc,mseen (allM (qs.take j)) q.marks lmq seen = μc:=⟨_,rfl⟩
     rw [hμc] at hA2 hμ1 hms2 hkeys
     obtain ⟨old,hold⟩ : ∃ old,(look lm2 c).getD (.slice none 0 0) = old:=⟨_,rfl⟩
     obtain ⟨b,hb⟩ : ∃ b,(look lm2 c).isSome = b:=⟨_,rfl⟩
     have hbm : ∀ c',(look lm2 c').isSome = (μc c').isSome:=fun c'=>by
      cases hq : look lm2 c' with
      | none=>rw [hA2.marks.none_ c' hq];rfl
      | some u=>obtain ⟨l',h1,_⟩:=hA2.marks.some_ c' u hq;rw [h1];rfl
     have hl2:=run_lookup2 (P:=Tryz.prog) (T:=166) (K:=101) (E:=35) (z:=.slice none 0 0) (k:=c) (by kernel_rfl) hA2.marks.map (finds_ptr WN lm2 c ((HREC.out.ext hA2.below).isCol hcm) (fun x hx=>let ⟨a',ha'⟩:=hA2.marks.cols x hx;(HREC.out.ext hA2.below).isCol ha')) (by kernel_rfl)
     rw [hold,hb] at hl2
     replace hl2 : (Instr.lookup 166 (.map (some (Wb.heap.size + 3))) (.pointer (some ⟨c,0,none⟩)) true).run Tryz.prog WN = .ok (.tuple #[old,.bool b]) WN:=hl2
     have hbc : b = true ↔ c ∈ cols2:=by rw [hkeys c,← hbm c,hb]
     have hc12 : cols2.length ≤ 12:=by
      have h1:=nodup_sub (m:=R.cols.map (·.2)) hnc fun c' hc'=>by
       have h2:=(hkeys c').1 hc'
       rw [← hbm c'] at h2
       obtain ⟨x,hx,rfl⟩:=List.mem_map.1 (look_isSome_iff.1 h2)
       obtain ⟨a',ha'⟩:=hA2.marks.cols x hx
       exact List.mem_map.2 ⟨(a',x.1),ha',rfl⟩
      rw [List.length_map] at h1
      have:=HREC.out.ok.few
      omega
     obtain ⟨cp,cc,rfl⟩:=owns_form hA2.row
     have d8:=cell_of hA2.c8 0
     have d9:=cell_of hA2.c9 0
     have HA2:=Lib.hid hA2
     have HIT2:=Lib.hid hit2
     have HITS:=Lib.hid hits
     have HCM:=Lib.hid hcm
     have HMS2:=Lib.hid hms2
     have HOLD:=Lib.hid hold
     have HMUC:=Lib.hid (show μc c = μc c from rfl)
     have HROWV:=Lib.hid hrowv0
     have HNI:=Lib.hid hni
     have HND:=Lib.hid hnd
     have HFEW:=Lib.hid hfew
     have HNC2:=Lib.hid hnc
     have HKE:=Lib.hid hkeys
     have HBC:=Lib.hid hbc
     clear hL hit hnd hfew hQr hn hrg c2 hits hx1 hh1 hit1 hA2 hit2 hmk2 hlk hνc hrowv0 hcm hms1 hms2 hold hWN hw1 hμc hl hni hnc hkeys hbm hb hbc
     cases b with
     | true=>
      go_upto_region 12 with fail
      clear hn' hent hl2 d8 d9
      have hmro:=HA2.out.marks.rowOld c
      rw [HOLD.out,HMUC.out] at hmro
      have HMRO:=Lib.hid hmro
      clear hmro
      refine Rt.wp_region_rt (by kernel_rfl) [0,1,2,3,4,5,6,7] [6,7] [1,1,0,0,0,0] [0,0,0,0,12,0,60,127] (by kernel_rfl) (MkI WN w0.heap.size old ((μc c).getD []).length (((μc c).getD []).map (Value.int .i64)) (l.map (Value.int .i64)) l.length (fun Wb'=>∃ lm3,WL R w0 Nf bl vb (Wb.heap.size + 3) (Wb.heap.size + 5) (Wb.heap.size + 2) Wb.heap.size (Wb.heap.size + 1) (Wb.heap.size + 4) bq s (.slice (some ⟨qab,qoff,none⟩) qbs.length qcap) lv (.slice cp cols2.length cc) cols2 lm3 (fun c'=>if c' = c then some ((μc c).getD [] ++ l) else μc c') Wb' ∧ IterAt Wb' it mbq lmq.length (seen ++ [i2]))) ?_ ?_
      ·exact (below_drawn (ext_refl _) _ : Ext _ _)
      (refine Rt.rs_rd rfl rfl rfl ?_;apply Exists.intro;refine ⟨fun us' W hp hl hI=>?_,?_⟩;· (have hk:=hI.keep hl HMRO.out HA2.out.c8 (by simp);have g1:=cell_of hk 0;go_simp;rfl));simp only [Act.put,zA,zB,zC,zD,zE,zF]
      (refine Rt.rs_sil rfl rfl rfl (fun K hK=>?_);go_simp;refine hK _ ?_;clear hK K)
      (refine Rt.rs_rd rfl rfl rfl ?_;apply Exists.intro;refine ⟨fun us' W hp hl hI=>?_,?_⟩;· (have g1:=cell_of ((hI.pre hl).obj HA2.out.c8) 0;go_simp;rfl));simp only [Act.put,zA,zB,zC,zD,zE,zF]
      (refine Rt.rs_sil rfl rfl rfl (fun K hK=>?_);go_simp;refine hK _ ?_;clear hK K)
      (refine Rt.rs_rd rfl rfl rfl ?_;apply Exists.intro;refine ⟨fun us' W hp hl hI=>?_,?_⟩;· (have hE:=hI.pre hl;have hWq:=HA2.out.ext hE;have hq0:=run_lookup1 (P:=Tryz.prog) (T:=166) (K:=101) (E:=35) (z:=.slice none 0 0) (k:=c) (by kernel_rfl) hWq.marks.map (finds_ptr _ lm2 c ((HREC.out.ext hWq.below).isCol HCM.out) (fun x hx=>let ⟨a',ha'⟩:=hWq.marks.cols x hx;(HREC.out.ext hWq.below).isCol ha')) (by kernel_rfl);rw [HOLD.out] at hq0;replace hq0 : (Instr.lookup 166 (.map (some (Wb.heap.size + 3))) (.pointer (some ⟨c,0,none⟩)) false).run Tryz.prog _ = _:=hq0;go_simp;rfl));simp only [Act.put,zA,zB,zC,zD,zE,zF]
      (refine Rt.rs_sil rfl rfl rfl (fun K hK=>?_);go_simp;refine hK _ ?_;clear hK K)
      refine Rt.rs_eff rfl rfl rfl (fun W hI=>?_) (fun v hv=>?_)
      ·have hE:=hI.pre (Nat.le_refl _)
       have hWq:=HA2.out.ext hE
       have hown:=owns_keep HMRO.out fun g cs _ hgg=>hE.block g (heap_lt hgg)
       have hu:=owns_keep HROWV.out fun g cs _ hgg=>(Ext.trans' hWq.below (ext_refl _)).block g (heap_lt hgg)
       obtain ⟨v',w',q1,q2,q3,q4⟩:=append_marks hown hu (one_ints l) (by omega) hWq.below.size
       exact gives_append_run _ _ 35 rfl rfl rfl q1 ⟨_,hE,q3,q2,q4⟩
      obtain ⟨np,nc,rfl⟩ : ∃ p c',v = .slice p (((μc c).getD []).length + l.length) c':=let ⟨Wb,hI⟩:=hv;let ⟨_,_,_,hr,_⟩:=hI;owns_form hr
      clear hv
      simp only [Act.put,zA,zB,zC,zD,zE,zF]
      refine Rt.rs_eff rfl rfl rfl (fun W hI=>?_) (fun v hv=>?_)
      ·obtain ⟨W0,hE,hg,hr,hat⟩:=hI
       have hWq:=HA2.out.ext hE
       have hg':=hg
       have hat':=hat
       rw [← HOLD.out] at hg' hat'
       obtain ⟨hA3,hmap⟩:=hWq.markStep c HCM.out l hg' (by rw [HMUC.out];exact hr) hat'
       rw [HMUC.out] at hA3
       have hown:=owns_keep HMRO.out fun g cs _ hgg=>hE.block g (heap_lt hgg)
       have hwW:=hWq.below.grown hg hWq.below.size fun k hk=>(owns_block hown hk).1
       have hup:=run_mapUpdate (P:=Tryz.prog) (T:=166) (K:=101) (E:=35) (k:=c) (v:=.slice np (((μc c).getD []).length + l.length) nc) (by kernel_rfl) hmap (finds_ptr _ lm2 c ((HREC.out.ext hwW).isCol HCM.out) (fun x hx=>let ⟨a',ha'⟩:=hWq.marks.cols x hx;(HREC.out.ext hwW).isCol ha'))
       replace hup : (Instr.mapUpdate 166 (.map (some (Wb.heap.size + 3))) (.pointer (some ⟨c,0,none⟩)) (.slice np (((μc c).getD []).length + l.length) nc)).run Tryz.prog _ = _:=hup
       refine Rt.gives_skp ?_
       apply Exists.intro
       refine ⟨by go_simp;rfl,?_⟩
       refine ⟨_,hA3,?_⟩
       have hq:=(frm_grown hown hg) _ _ (hE.obj HIT2.out) (by simp)
       exact (show (wput encP _ (Wb.heap.size + 3) _).heap[it]? = _ by unfold wput;rw [putObj_get,if_neg (by omega)];exact hq)
      clear hv
      simp only [Act.put,zA,zB,zC,zD,zE,zF]
      refine Rt.rs_nil (fun W4 hI=>?_)
      obtain ⟨lm3,hA4,hit4⟩:=hI
      rw [← HMS2.out] at hA4
      have HA4:=Lib.hid hA4
      have HIT4:=Lib.hid hit4
      clear hA4 hit4
      go_wp2_with fail
      refine ⟨⟨seen ++ [i2],_,cols2,lm3,HA4.out,HIT4.out,?_,?_,HNC2.out,(fun c1=>by rw [HMS2.out];show _ ↔ (if c1 = c then some ((μc c).getD [] ++ l) else μc c1).isSome = true;by_cases e : c1 = c;(rw [if_pos e,e];simp [HBC.out.1 rfl]);(rw [if_neg e];exact HKE.out c1))⟩,?_⟩
      ·rw [List.nodup_append]
       exact ⟨HND.out,by simp,fun x hx y hy=>by rw [List.mem_singleton.1 hy];rintro rfl;exact HNI.out hx⟩
      ·intro j' hj'
       rcases List.mem_append.1 hj' with hj' | hj'
       ·exact HFEW.out j' hj'
       ·rw [List.mem_singleton.1 hj'];exact hil
      ·have e1 : W4.iterSeen it = (seen ++ [i2]).toArray:=by
        have hq:=HIT4.out
        unfold IterAt at hq
        unfold World.iterSeen
        rw [hq]
       rw [e1,HITS.out]
       simp
       omega
     | false=>
      obtain ⟨W9,hW9⟩ : ∃ W9,W9 = WN.alloc (.cells #[.pointer (some ⟨c,0,none⟩)] 101 (0,0)):=⟨_,rfl⟩
      have hx9 : Ext WN W9:=by rw [hW9];exact bel
      have hb9 : W9.heap[WN.heap.size]? = some (.cells #[.pointer (some ⟨c,0,none⟩)] 101 (0,0)):=by rw [hW9];simp only [heap_drawn_get,heap_drew_get,heap_setCell_get,heap_alloc_get,World.size_alloc,World.size_setCell,size_drawn,putObj_get,putObj_size];(repeat (first | rw [if_pos trivial] | rw [if_pos rfl] | rw [if_neg (by omega)] | rw [if_pos (by omega)]))
      have hA9:=HA2.out.ext hx9
      obtain ⟨v',w10,happ,hrow,hgrow⟩:=append_cols (row:=[.pointer (some ⟨c,0,none⟩)]) hA9.row WN.heap.size 1 rfl (fun k u hj=>by rw [Nat.zero_add,cell_of hb9 k,List.getElem?_toArray];exact hj) (fun u hu=>by simp at hu;subst hu;rfl) (by omega) hA9.below.size 1
      obtain ⟨hA10,hbx⟩:=hA9.colStep (c:=c) hgrow hrow
      have hit10 : IterAt (w10.setCell ⟨Wb.heap.size + 5,0,none⟩ v') it mbq lmq.length (seen ++ [i2]):=by
       have h1:=(frm_grown hA9.row hgrow) _ _ (hx9.obj HIT2.out) (by simp)
       exact (frm_set (off:=0) hbx v') _ _ h1 (by simp)
      rw [hW9] at happ
      obtain ⟨np9,nc9,rfl⟩:=owns_form hrow
      have g0:=cell_of hbx 0
      have g1:=frozen_of hbx 0
      obtain ⟨W11,hW11⟩ : ∃ W11,W11 = w10.setCell ⟨Wb.heap.size + 5,0,none⟩ (.slice np9 (cols2.length + 1) nc9):=⟨_,rfl⟩
      rw [← hW11] at hA10 hit10
      have HAPP:=Lib.hid happ
      have HA10:=Lib.hid hA10
      have HIT10:=Lib.hid hit10
      clear hW9 hx9 hb9 hA9 happ hrow hgrow hA10 hbx hit10
      go_upto_region 12 with (at_builtin;refine wpList_append_run rfl _ _ 209 rfl rfl rfl HAPP.out ?_)
      rw [← hW11]
      clear hn' hent hl2 d8 d9 g0 g1 hW11
      have hmro:=HA10.out.marks.rowOld c
      rw [HOLD.out,HMUC.out] at hmro
      have HMRO:=Lib.hid hmro
      clear hmro
      refine Rt.wp_region_rt (by kernel_rfl) [0,1,2,3,4,5,6,7] [6,7] [1,1,0,0,0,0] [0,0,0,0,12,0,60,127] (by kernel_rfl) (MkI W11 w0.heap.size old ((μc c).getD []).length (((μc c).getD []).map (Value.int .i64)) (l.map (Value.int .i64)) l.length (fun Wb'=>∃ lm3,WL R w0 Nf bl vb (Wb.heap.size + 3) (Wb.heap.size + 5) (Wb.heap.size + 2) Wb.heap.size (Wb.heap.size + 1) (Wb.heap.size + 4) bq s (.slice (some ⟨qab,qoff,none⟩) qbs.length qcap) lv (.slice np9 (cols2.length + 1) nc9) (cols2 ++ [c]) lm3 (fun c'=>if c' = c then some ((μc c).getD [] ++ l) else μc c') Wb' ∧ IterAt Wb' it mbq lmq.length (seen ++ [i2]))) ?_ ?_
      ·exact (below_drawn (ext_refl _) _ : Ext _ _)
      (refine Rt.rs_rd rfl rfl rfl ?_;apply Exists.intro;refine ⟨fun us' W hp hl hI=>?_,?_⟩;· (have hk:=hI.keep hl HMRO.out HA10.out.c8 (by simp);have g1:=cell_of hk 0;go_simp;rfl));simp only [Act.put,zA,zB,zC,zD,zE,zF]
      (refine Rt.rs_sil rfl rfl rfl (fun K hK=>?_);go_simp;refine hK _ ?_;clear hK K)
      (refine Rt.rs_rd rfl rfl rfl ?_;apply Exists.intro;refine ⟨fun us' W hp hl hI=>?_,?_⟩;· (have g1:=cell_of ((hI.pre hl).obj HA10.out.c8) 0;go_simp;rfl));simp only [Act.put,zA,zB,zC,zD,zE,zF]
      (refine Rt.rs_sil rfl rfl rfl (fun K hK=>?_);go_simp;refine hK _ ?_;clear hK K)
      (refine Rt.rs_rd rfl rfl rfl ?_;apply Exists.intro;refine ⟨fun us' W hp hl hI=>?_,?_⟩;· (have hE:=hI.pre hl;have hWq:=HA10.out.ext hE;have hq0:=run_lookup1 (P:=Tryz.prog) (T:=166) (K:=101) (E:=35) (z:=.slice none 0 0) (k:=c) (by kernel_rfl) hWq.marks.map (finds_ptr _ lm2 c ((HREC.out.ext hWq.below).isCol HCM.out) (fun x hx=>let ⟨a',ha'⟩:=hWq.marks.cols x hx;(HREC.out.ext hWq.below).isCol ha')) (by kernel_rfl);rw [HOLD.out] at hq0;replace hq0 : (Instr.lookup 166 (.map (some (Wb.heap.size + 3))) (.pointer (some ⟨c,0,none⟩)) false).run Tryz.prog _ = _:=hq0;go_simp;rfl));simp only [Act.put,zA,zB,zC,zD,zE,zF]
      (refine Rt.rs_sil rfl rfl rfl (fun K hK=>?_);go_simp;refine hK _ ?_;clear hK K)
      refine Rt.rs_eff rfl rfl rfl (fun W hI=>?_) (fun v hv=>?_)
      ·have hE:=hI.pre (Nat.le_refl _)
       have hWq:=HA10.out.ext hE
       have hown:=owns_keep HMRO.out fun g cs _ hgg=>hE.block g (heap_lt hgg)
       have hu:=owns_keep HROWV.out fun g cs _ hgg=>(Ext.trans' hWq.below (ext_refl _)).block g (heap_lt hgg)
       obtain ⟨v',w',q1,q2,q3,q4⟩:=append_marks hown hu (one_ints l) (by omega) hWq.below.size
       exact gives_append_run _ _ 35 rfl rfl rfl q1 ⟨_,hE,q3,q2,q4⟩
      obtain ⟨np,nc,rfl⟩ : ∃ p c',v = .slice p (((μc c).getD []).length + l.length) c':=let ⟨Wb,hI⟩:=hv;let ⟨_,_,_,hr,_⟩:=hI;owns_form hr
      clear hv
      simp only [Act.put,zA,zB,zC,zD,zE,zF]
      refine Rt.rs_eff rfl rfl rfl (fun W hI=>?_) (fun v hv=>?_)
      ·obtain ⟨W0,hE,hg,hr,hat⟩:=hI
       have hWq:=HA10.out.ext hE
       have hg':=hg
       have hat':=hat
       rw [← HOLD.out] at hg' hat'
       obtain ⟨hA3,hmap⟩:=hWq.markStep c HCM.out l hg' (by rw [HMUC.out];exact hr) hat'
       rw [HMUC.out] at hA3
       have hown:=owns_keep HMRO.out fun g cs _ hgg=>hE.block g (heap_lt hgg)
       have hwW:=hWq.below.grown hg hWq.below.size fun k hk=>(owns_block hown hk).1
       have hup:=run_mapUpdate (P:=Tryz.prog) (T:=166) (K:=101) (E:=35) (k:=c) (v:=.slice np (((μc c).getD []).length + l.length) nc) (by kernel_rfl) hmap (finds_ptr _ lm2 c ((HREC.out.ext hwW).isCol HCM.out) (fun x hx=>let ⟨a',ha'⟩:=hWq.marks.cols x hx;(HREC.out.ext hwW).isCol ha'))
       replace hup : (Instr.mapUpdate 166 (.map (some (Wb.heap.size + 3))) (.pointer (some ⟨c,0,none⟩)) (.slice np (((μc c).getD []).length + l.length) nc)).run Tryz.prog _ = _:=hup
       refine Rt.gives_skp ?_
       apply Exists.intro
       refine ⟨by go_simp;rfl,?_⟩
       refine ⟨_,hA3,?_⟩
       have hq:=(frm_grown hown hg) _ _ (hE.obj HIT10.out) (by simp)
       exact (show (wput encP _ (Wb.heap.size + 3) _).heap[it]? = _ by unfold wput;rw [putObj_get,if_neg (by omega)];exact hq)
      clear hv
      simp only [Act.put,zA,zB,zC,zD,zE,zF]
      refine Rt.rs_nil (fun W4 hI=>?_)
      obtain ⟨lm3,hA4,hit4⟩:=hI
      rw [← HMS2.out] at hA4
      have HA4:=Lib.hid hA4
      have HIT4:=Lib.hid hit4
      clear hA4 hit4
      go_wp2_with fail
      refine ⟨⟨seen ++ [i2],_,(cols2 ++ [c]),lm3,HA4.out,HIT4.out,?_,?_,(by rw [List.nodup_append];exact ⟨HNC2.out,by simp,fun x hx y hy=>by rw [List.mem_singleton.1 hy];rintro rfl;exact absurd (HBC.out.2 hx) (by simp)⟩),(fun c1=>by rw [HMS2.out,List.mem_append];show _ ↔ (if c1 = c then some ((μc c).getD [] ++ l) else μc c1).isSome = true;by_cases e : c1 = c;(rw [if_pos e,e];simp);(rw [if_neg e,← HKE.out c1];simp [e]))⟩,?_⟩
      ·rw [List.nodup_append]
       exact ⟨HND.out,by simp,fun x hx y hy=>by rw [List.mem_singleton.1 hy];rintro rfl;exact HNI.out hx⟩
      ·intro j' hj'
       rcases List.mem_append.1 hj' with hj' | hj'
       ·exact HFEW.out j' hj'
       ·rw [List.mem_singleton.1 hj'];exact hil
      ·have e1 : W4.iterSeen it = (seen ++ [i2]).toArray:=by
        have hq:=HIT4.out
        unfold IterAt at hq
        unfold World.iterSeen
        rw [hq]
       rw [e1,HITS.out]
       simp
       omega
  ·obtain rfl : j = qbs.length:=by omega
   have hallq : qs.take qbs.length = qs:=by rw [HQLEN.out];exact List.take_length
   rw [hallq] at hL hkeys
   obtain ⟨wE,rfl⟩ : ∃ wE,wE = wr:=⟨wr,rfl⟩
   have HL:=Lib.hid hL
   have HKE:=Lib.hid hkeys
   have HNC:=Lib.hid hnc
   clear hL hkeys hnc hallq hlt hj
   go_upto_region 17 with fail
   obtain ⟨WF,hWF⟩ : ∃ WF,WF = (((wE.alloc (.map #[] 0)).alloc (.cells #[.map (some wE.heap.size)] 182 (0,0))).alloc (.cells #[.func (.func 116) #[] #[.pointer (some ⟨Wb.heap.size + 5,0,none⟩),.pointer (some ⟨Wb.heap.size + 2,0,none⟩),.pointer (some ⟨wE.heap.size + 1,0,none⟩),.pointer (some ⟨Wb.heap.size,0,none⟩),.pointer (some ⟨Wb.heap.size + 1,0,none⟩),.pointer (some ⟨Wb.heap.size + 4,0,none⟩),.pointer (some ⟨wE.heap.size + 1 + 1,0,none⟩)]] 211 (0,0))):=⟨_,rfl⟩
   rw [← hWF]
   have hxF : Ext wE WF:=by rw [hWF];exact bel
   have hLF:=HL.out.ext hxF
   have hhb : MapIs encP WF wE.heap.size []:=by rw [hWF];unfold MapIs;simp only [heap_drawn_get,heap_drew_get,heap_setCell_get,heap_alloc_get,World.size_alloc,World.size_setCell,size_drawn,putObj_get,putObj_size];(repeat (first | rw [if_pos trivial] | rw [if_pos rfl] | rw [if_neg (by omega)] | rw [if_pos (by omega)]));rfl
   have h16 : WF.heap[wE.heap.size + 1]? = some (.cells #[.map (some wE.heap.size)] 182 (0,0)):=by rw [hWF];simp only [heap_drawn_get,heap_drew_get,heap_setCell_get,heap_alloc_get,World.size_alloc,World.size_setCell,size_drawn,putObj_get,putObj_size];(repeat (first | rw [if_pos trivial] | rw [if_pos rfl] | rw [if_neg (by omega)] | rw [if_pos (by omega)]))
   have h17 : WF.heap[wE.heap.size + 1 + 1]? = some (.cells #[.func (.func 116) #[] #[.pointer (some ⟨Wb.heap.size + 5,0,none⟩),.pointer (some ⟨Wb.heap.size + 2,0,none⟩),.pointer (some ⟨wE.heap.size + 1,0,none⟩),.pointer (some ⟨Wb.heap.size,0,none⟩),.pointer (some ⟨Wb.heap.size + 1,0,none⟩),.pointer (some ⟨Wb.heap.size + 4,0,none⟩),.pointer (some ⟨wE.heap.size + 1 + 1,0,none⟩)]] 211 (0,0)):=by rw [hWF];simp only [heap_drawn_get,heap_drew_get,heap_setCell_get,heap_alloc_get,World.size_alloc,World.size_setCell,size_drawn,putObj_get,putObj_size];(repeat (first | rw [if_pos trivial] | rw [if_pos rfl] | rw [if_neg (by omega)] | rw [if_pos (by omega)]))
   have hwEs : Wb.heap.size + 5 < wE.heap.size:=heap_lt HL.out.c9
   have hws : WS R w0.heap.size bl wE.heap.size vb (Wb.heap.size + 3) (Wb.heap.size + 5) (Wb.heap.size + 2) (wE.heap.size + 1) Wb.heap.size (Wb.heap.size + 1) (Wb.heap.size + 4) (wE.heap.size + 1 + 1) bq s (.slice qp qbs.length qcap) cv cols lm (allM qs) WF:=
    {c9:=hLF.c9,row:=hLF.row,c7:=hLF.c7,c16:=h16,c4:=hLF.c4,c5:=hLF.c5,c8:=hLF.c8,cq:=hLF.cq,c17:=h17,marks:=hLF.marks,ne:=by omega,hN:=⟨by omega,hbl⟩ }
   have hinR : ∀ c ∈ cols,∃ a,(a,c) ∈ R.cols:=fun c hc=>by
    have h2:=(HKE.out c).1 hc
    have h3 : (look lm c).isSome = true:=by
     cases hq : look lm c with
     | none=>rw [hLF.marks.none_ c hq] at h2;cases h2
     | some u=>rfl
    obtain ⟨x,hx,rfl⟩:=List.mem_map.1 (look_isSome_iff.1 h3)
    exact hLF.marks.cols x hx
   have hc12 : cols.length ≤ 100:=by
    have h1:=nodup_sub (m:=R.cols.map (·.2)) HNC.out fun c' hc'=>let ⟨a',ha'⟩:=hinR c' hc';List.mem_map.2 ⟨(a',c'),ha',rfl⟩
    rw [List.length_map] at h1
    have:=HREC.out.ok.few
    omega
   have hchoose:=choose_any HREC.out HV.out HFC.out HFB.out HQ.out h8 Nf bl wE.heap.size (Wb.heap.size + 3) (Wb.heap.size + 5) (Wb.heap.size + 2) (wE.heap.size + 1) Wb.heap.size (Wb.heap.size + 1) (Wb.heap.size + 4) (wE.heap.size + 1 + 1) bq s cv cols lm (allM qs) smp hc12 hNf
    (fun c hc=>by
     obtain ⟨a,ha⟩:=hinR c hc
     refine ⟨a,ha,HSMP.out a c ha,?_⟩
     have h1:=allM_len HSH.out c
     have h2:=HQLEN.out
     omega)
    cols.length 0 (by omega) WF [] (fun _=>0) [] lv hLF.below hws ⟨hhb,fun x hx=>(by cases hx),fun c=>rfl⟩ (fun x _ _=>⟨Int.le_refl 0,show (0 : Int) < 8 by decide⟩) hLF.out ⟨List.nodup_nil,fun x hx=>(by cases hx)⟩ hLF.nf.2
   rw [List.drop_zero] at hchoose
   have d17:=cell_of h17 0
   have e116:=enters_of Tryz.func116 (by kernel_rfl) rfl
   have HCH:=Lib.hid hchoose
   have HBE:=Lib.hid hLF.below
   clear hWF hxF hLF hhb h16 h17 hws hinR hc12 hchoose
   go_wp2_with fail
   refine HCH.out.mono ?_
   rintro e Wb' ⟨rfl,hfr,lw',lv',k1,k2,k3,k4⟩
   have HFR:=Lib.hid hfr
   have K3:=Lib.hid k3
   clear hfr k1 k2 k3 k4
   go_wp2_with fail
   go_end0
   exact ⟨rfl,Below.trans HBE.out HFR.out.low,cols,lv',HNC.out,HKE.out,K3.out⟩
end Go.Proofs.YtihfcjioilmmjaaGreat
namespace Go.Proofs.YtihfcjioilmmjaaGreat
open Go Go.RowKit
open Go.Lib Go.Sort Go.Maps Go.Shelf Go.Proofs
set_option maxHeartbeats 4000000 in
set_option maxRecDepth 100000 in
theorem outcomes_any {B : Nat} {w0 : World} {rb : Nat} {R : Rec} {cm : Nat} {vv fv : Value} {os : List (Option Nat × Option Nat)} {xs : List (List Value)} (h : RecAt B w0 rb R cm vv fv os xs) {B2 : Nat} {vb : Nat} {hf : List (Int × FR)} {sv : Value} {mp mk mf md : Nat} {lp : List (ByteArray × Value)} {lk lf ld : List ((ByteArray × Nat) × Value)}
  (hV : ViewAt B2 w0 vb hf sv mp mk mf md lp lk lf ld) (hfc : ∀ y ∈ hf,(y.2.attr,y.2.col) ∈ R.cols) (hfb : ∀ y ∈ hf,y.2.st.bits < 256) {qv : Value} {qbs : List Nat} {qs : List Qn} (hq : QsAt R w0 qv qbs (qs.map (·.φ))) (h8 : qbs.length ≤ 8)
  (hqa : ∀ (i : Nat) qb q,qbs[i]? = some qb → qs[i]? = some q → ∃ Bq hi tv mbq lmq,QAt Bq hi R w0 qb q tv mbq lmq) (hshort : ∀ q ∈ qs,∀ c l,q.marks c = some l → l.length ≤ 2000) (s : ByteArray) (smp : Nat → List Int) (hsmp : ∀ a c,(a,c) ∈ R.cols → smp c = sampF a (ofV hf (s,c) a) ((allM qs c).getD [])) :
  Calls Tryz.prog 66 #[.pointer (some ⟨vb,0,none⟩),.string s,qv] w0 fun e w'=>∃ v cols,e = .returned v ∧ cols.Nodup ∧ (∀ c,c ∈ cols ↔ (allM qs c).isSome = true) ∧
   w'.ownsRow w0.heap.size 118 1 v (runW smp (fun ρ=>bitsK ((qs.map (·.φ)).map fun φ=>φ ρ) qbs.length) cols (fun _=>0,[])).2.length ((runW smp (fun ρ=>bitsK ((qs.map (·.φ)).map fun φ=>φ ρ) qbs.length) cols (fun _=>0,[])).2.map U64) ∧ Ext w0 w':=by
 obtain ⟨qp,qcap,rfl,_⟩:=hq.1
 obtain ⟨W1,hW1⟩ : ∃ W1,W1 = (w0.alloc (.cells #[.slice qp qbs.length qcap] 161 (0,0))).alloc (.cells #[.slice none 0 0] 171 (0,0)):=⟨_,rfl⟩
 have hx1 : Ext w0 W1:=by rw [hW1];exact bel
 have hbq : W1.heap[w0.heap.size]? = some (.cells #[.slice qp qbs.length qcap] 161 (0,0)):=by rw [hW1];simp only [heap_drawn_get,heap_drew_get,heap_setCell_get,heap_alloc_get,World.size_alloc,World.size_setCell,size_drawn,putObj_get,putObj_size];(repeat (first | rw [if_pos trivial] | rw [if_pos rfl] | rw [if_neg (by omega)] | rw [if_pos (by omega)]))
 have hbl : W1.heap[w0.heap.size + 1]? = some (.cells #[.slice none 0 0] 171 (0,0)):=by rw [hW1];simp only [heap_drawn_get,heap_drew_get,heap_setCell_get,heap_alloc_get,World.size_alloc,World.size_setCell,size_drawn,putObj_get,putObj_size];(repeat (first | rw [if_pos trivial] | rw [if_pos rfl] | rw [if_neg (by omega)] | rw [if_pos (by omega)]))
 have hwo:=worlds_any h hV hfc hfb hq h8 hqa hshort s smp hsmp w0.heap.size (w0.heap.size + 1) w0.heap.size W1 (.slice none 0 0) hx1 hbq ⟨hbl,World.ownsRow_nil _ _ _ _⟩ (Nat.le_refl _) hx1.size (Nat.le_succ _)
 have HWO:=Lib.hid hwo
 have d0:=cell_of hbq 0
 clear hx1 hbq hbl hwo h hV hfc hfb hq hqa hshort hsmp
 go_enter Tryz.func66,Tryz.ntmps66
 go_upto_region 2 with fail
 rw [← hW1]
 clear hW1
 go_wp2_with fail
 refine HWO.out.mono ?_
 rintro e w2 ⟨rfl,hlow,cols,lv,hnd,hkeys,hout⟩
 have d1:=cell_of hout.box 0
 have HOUT:=Lib.hid hout
 have HLOW:=Lib.hid hlow
 have HND:=Lib.hid hnd
 have HKE:=Lib.hid hkeys
 clear hout hlow hnd hkeys d0
 go_wp2_with fail
 go_ret
 exact ⟨_,cols,rfl,HND.out,HKE.out,HOUT.out.row,HLOW.out⟩
end Go.Proofs.YtihfcjioilmmjaaGreat
namespace Go.Proofs.YtihfcjioilmmjaaGreat
open Go Go.RowKit
open Go.Lib Go.Sort Go.Maps Go.Shelf Go.Proofs
def wholesV (hf : List (Int × FR)) : List (List UInt8):=(subsV hf).filter fun t=>!isPart (ofBytes t)
end Go.Proofs.YtihfcjioilmmjaaGreat
namespace Go.Proofs.YtihfcjioilmmjaaGreat
open Go Go.RowKit
open Go.Lib Go.Sort Go.Maps Go.Shelf Go.Proofs
theorem prefix_one (c b : UInt8) (l : List UInt8) : [c].isPrefixOf (b :: l) = (b == c):=by
 rw [List.isPrefixOf_cons_cons]
 simp [Bool.beq_comm]
theorem index_one (c : UInt8) : ∀ (s : List UInt8),Lib.index s [c] = Lib.indexByte s c
 | []=>rfl
 | b :: l=>by
  unfold Lib.index Lib.indexByte
  rw [prefix_one,index_one c l]
theorem isPart_eq (s : ByteArray) : isPart s = decide (0 ≤ Lib.indexByte s.data.toList 47):=by
 unfold isPart Lib.cut
 rw [show stroke = [47] from rfl,index_one]
 split <;> simp_all
theorem contains_any (s : ByteArray) (w : World) : Calls Tryz.prog 65 #[.string s,.string ⟨#[47]⟩] w fun e w'=>e = .returned (.bool (isPart s)) ∧ w = w':=by
 rw [isPart_eq]
 exact (Tryz.strings_Contains_one s 47 w).mono fun _ _ h=>⟨h.1,h.2.symm⟩
def tooMany (hf : List (Int × FR)) : Bool:=(subsV hf).any fun t=>decide (12 < (partsV hf (ofBytes t)).length)
def wholesJ (l : List (List UInt8)) : List (List UInt8):=l.filter fun t=>!isPart (ofBytes t)
theorem wholesJ_snoc (l : List (List UInt8)) (t : List UInt8) : wholesJ (l ++ [t]) = if isPart (ofBytes t) then wholesJ l else wholesJ l ++ [t]:=by
 unfold wholesJ
 rw [List.filter_append]
 cases h : isPart (ofBytes t) <;> simp [h]
theorem wholesJ_le (l : List (List UInt8)) : (wholesJ l).length ≤ l.length:=List.length_filter_le _ _
theorem ViewAt.partLook {B2 : Nat} {w : World} {vb : Nat} {hf : List (Int × FR)} {sv : Value} {mp mk mf md : Nat} {lp : List (ByteArray × Value)} {lk lf ld : List ((ByteArray × Nat) × Value)} (hV : ViewAt B2 w vb hf sv mp mk mf md lp lk lf ld) (s : ByteArray) :
  ∃ p c,w.ownsRow B2 9 1 (.slice p (partsV hf s).length c) (partsV hf s).length ((partsV hf s).map encStr) ∧ ∀ W,Ext w W → (Instr.lookup 133 (.map (some mp)) (.string s) false).run Tryz.prog W = .ok (.slice p (partsV hf s).length c) W:=by
 have hq:=fun W (hE : Ext w W)=>run_lookup1 (P:=Tryz.prog) (T:=133) (K:=9) (E:=26) (z:=.slice none 0 0) (k:=s) (by kernel_rfl) (hV.ext hE).parts (finds_string (by kernel_rfl) W _ _) (by kernel_rfl)
 cases hl : look lp s with
 | none=>
  rw [hV.partsN s hl]
  refine ⟨none,0,World.ownsRow_nil _ _ _ _,fun W hE=>?_⟩
  have h1:=hq W hE
  rw [hl] at h1
  exact h1
 | some v=>
  have h2:=(hV.partsS s v hl).1
  obtain ⟨p,c,rfl⟩:=owns_form h2
  refine ⟨p,c,h2,fun W hE=>?_⟩
  have h1:=hq W hE
  rw [hl] at h1
  exact h1
set_option maxHeartbeats 2000000 in
set_option maxRecDepth 100000 in
theorem wholes_any {B2 : Nat} {w : World} {vb : Nat} {hf : List (Int × FR)} {sv : Value} {mp mk mf md : Nat} {lp : List (ByteArray × Value)} {lk lf ld : List ((ByteArray × Nat) × Value)}
  (hV : ViewAt B2 w vb hf sv mp mk mf md lp lk lf ld) (hlen : (subsV hf).length ≤ 100000) :
  Calls Tryz.prog 48 #[.pointer (some ⟨vb,0,none⟩)] w fun e w'=>((tooMany hf = true ∧ e = .returned (.tuple #[.slice none 0 0,.int .i64 5])) ∨ (tooMany hf = false ∧ ∃ v,e = .returned (.tuple #[v,.int .i64 0]) ∧ w'.ownsRow w.heap.size 9 1 v (wholesV hf).length ((wholesV hf).map encStr))) ∧ Ext w w':=by
 obtain ⟨sp,sc,hsv⟩:=owns_form hV.subs
 subst hsv
 have HLEN:=Lib.hid hlen
 obtain ⟨sl,hsl⟩ : ∃ sl,subsV hf = sl:=⟨_,rfl⟩
 have hrow:=hV.subs
 have htm : tooMany hf = sl.any fun t=>decide (12 < (partsV hf (ofBytes t)).length):=by unfold tooMany;rw [hsl]
 have hwh : wholesV hf = wholesJ sl:=by unfold wholesV wholesJ;rw [hsl]
 have c0:=cell_of hV.view 0
 have c1:=cell_of hV.view 1
 rw [hsl] at hrow hlen c0
 have hel : ∀ (j : Nat) t,sl[j]? = some t → ∃ g,sp = some ⟨g,0,none⟩ ∧ w.cell? ⟨g,j,none⟩ = some (encStr t):=fun j t ht=>by
  have hlt:=(List.getElem?_eq_some_iff.1 ht).1
  rcases hrow.2 with ⟨_,h0⟩ | ⟨g,cap,cur,he,_,hgg,_,_,_,ht'⟩
  ·omega
  ·simp only [Value.slice.injEq] at he
   refine ⟨g,he.1,?_⟩
   rw [cell_of hgg]
   have h2 : (sl.map encStr)[j]? = some (encStr t):=by rw [List.getElem?_map,ht];rfl
   rw [← ht',List.getElem?_take] at h2
   split at h2
   ·simpa using h2
   ·cases h2
 have HV:=Lib.hid hV
 have HEL:=Lib.hid hel
 have HTM:=Lib.hid htm
 have HWH:=Lib.hid hwh
 clear hV hel htm hwh hrow hsl
 go_enter Tryz.func48,Tryz.ntmps48
 go_wp2_with fail
 go_loopw [4,12] (fun v i wr=>∃ j : Nat,j ≤ sl.length ∧ i = .int .i64 j ∧ Ext w wr ∧ wr.ownsRow w.heap.size 9 1 v (wholesJ (sl.take j)).length ((wholesJ (sl.take j)).map encStr) ∧ Hid (∀ t ∈ sl.take j,(partsV hf (ofBytes t)).length ≤ 12)) (fun _ i _=>sl.length - (intOf i).toNat)
 case atStart=>exact ⟨0,Nat.zero_le _,rfl,ext_refl _,World.ownsRow_nil _ _ _ _,fun t ht=>by simp at ht⟩
 case round=>
  obtain ⟨j,hj,rfl,hx,hrow,HP⟩:=hrel
  by_cases hlt : j < sl.length
  ·obtain ⟨t,ht⟩ : ∃ t,sl[j]? = some t:=⟨_,List.getElem?_eq_getElem hlt⟩
   obtain ⟨tb,rfl,hct0⟩:=HEL.out j t ht
   have hct : wr.cell? ⟨tb,j,none⟩ = some (encStr t):=hx.cell' hct0
   rw [show encStr t = .string (ofBytes t) from rfl] at hct
   have htk : sl.take (j + 1) = sl.take j ++ [t]:=by rw [List.take_add_one,ht];rfl
   obtain ⟨s,hs⟩ : ∃ s,ofBytes t = s:=⟨_,rfl⟩
   rw [hs] at hct
   obtain ⟨pp,pc,hprow,hpl⟩:=HV.out.partLook s
   have hlk:=hpl wr hx
   obtain ⟨pn,hpn⟩ : ∃ pn,(partsV hf s).length = pn:=⟨_,rfl⟩
   rw [hpn] at hlk
   have hpn' : pn < 9223372036854775807:=by
    rw [← hpn]
    have h1 : (partsV hf s).length ≤ (subsV hf).length:=List.length_filter_le _ _
    have:=HLEN.out
    omega
   have d0:=hx.cell' c0
   have d1:=hx.cell' c1
   obtain ⟨lp',lc',rfl⟩:=owns_form hrow
   have HX:=Lib.hid hx
   have HROW:=Lib.hid hrow
   have HTK:=Lib.hid htk
   have HT:=Lib.hid ht
   have HPN:=Lib.hid hpn
   have HSE:=Lib.hid hs
   clear hx hrow htk ht hpn hs hprow hpl hct0
   by_cases h12 : 12 < pn
   ·go_wp2_with fail
    refine bodyPost_ret (v:=.tuple #[.slice none 0 0,.int .i64 5]) (by simp [results,Tryz.results48,go_sem]) rfl ?_
    refine ⟨.inl ⟨?_,rfl⟩,HX.out⟩
    rw [HTM.out,List.any_eq_true]
    refine ⟨t,List.mem_of_getElem? HT.out,?_⟩
    rw [HSE.out,HPN.out]
    simpa using h12
   ·have HP' : Hid (∀ t ∈ sl.take (j + 1),(partsV hf (ofBytes t)).length ≤ 12):=Lib.hid (by
     rw [HTK.out]
     intro u hu
     rcases List.mem_append.1 hu with hu | hu
     ·exact HP.out u hu
     ·rw [List.mem_singleton.1 hu,HSE.out,HPN.out];omega)
    have hcon:=contains_any s wr
    obtain ⟨b,hb⟩ : ∃ b,isPart s = b:=⟨_,rfl⟩
    rw [hb] at hcon
    have hsn:=wholesJ_snoc (sl.take j) t
    rw [HSE.out,hb,← HTK.out] at hsn
    have hle : (wholesJ (sl.take j)).length ≤ 100000:=by
     have h1:=wholesJ_le (sl.take j)
     rw [List.length_take] at h1
     omega
    have HCON:=Lib.hid hcon
    have HSN:=Lib.hid hsn
    clear hcon hsn hb
    go_upto_region 7 with fail
    clear hlk
    go_wp2_with fail
    refine HCON.out.mono ?_
    rintro e w7 ⟨rfl,rfl⟩
    cases b with
    | true=>
     go_wp2_with fail
     refine ⟨⟨j + 1,by omega,rfl,HX.out,?_,HP'⟩,by simp [intOf];omega⟩
     have h1:=HROW.out
     have h2:=HSN.out
     rw [if_pos trivial] at h2
     rw [h2];exact h1
    | false=>
     obtain ⟨W9,hW9⟩ : ∃ W9,W9 = wr.alloc (.cells #[.string s] 9 (0,0)):=⟨_,rfl⟩
     have hx9 : Ext wr W9:=by rw [hW9];exact bel
     have hb9 : W9.heap[wr.heap.size]? = some (.cells #[.string s] 9 (0,0)):=by rw [hW9];simp only [heap_drawn_get,heap_drew_get,heap_setCell_get,heap_alloc_get,World.size_alloc,World.size_setCell,size_drawn,putObj_get,putObj_size];(repeat (first | rw [if_pos trivial] | rw [if_pos rfl] | rw [if_neg (by omega)] | rw [if_pos (by omega)]))
     have hrow9:=owns_keep HROW.out fun g cs _ hgg=>hx9.block g (heap_lt hgg)
     obtain ⟨v',w10,happ,hrow',hgrow,_⟩:=append_strs (row:=[.string s]) hrow9 wr.heap.size 1 rfl (fun k u hj=>by rw [Nat.zero_add,cell_of hb9 k,List.getElem?_toArray];exact hj) (fun u hu=>by simp at hu;subst hu;rfl) (by omega) (Nat.le_trans HX.out.size hx9.size) 1
     have hx10 : Ext w w10:=(HX.out.trans' hx9).grown hgrow (Nat.le_trans HX.out.size hx9.size) fun k hk=>(owns_block hrow9 hk).1
     rw [hW9] at happ
     have HAPP:=Lib.hid happ
     have HX10:=Lib.hid hx10
     have HROW':=Lib.hid hrow'
     clear hW9 hx9 hb9 hrow9 happ hrow' hgrow hx10
     go_wp2_with (at_builtin;refine wpList_append_run rfl _ _ 26 rfl rfl rfl HAPP.out ?_)
     refine ⟨⟨j + 1,by omega,rfl,HX10.out,?_,HP'⟩,by simp [intOf];omega⟩
     have h2:=HSN.out
     rw [if_neg (by simp)] at h2
     rw [h2,List.length_append,List.map_append,List.map_cons,List.map_nil,show encStr t = .string s from congrArg Value.string HSE.out]
     exact HROW'.out
  ·obtain rfl : j = sl.length:=by omega
   obtain ⟨lp',lc',rfl⟩:=owns_form hrow
   have HX:=Lib.hid hx
   have HROW:=Lib.hid hrow
   clear hx hrow
   go_wp2_with fail
   refine bodyPost_ret (v:=.tuple #[.slice lp' (wholesJ (sl.take sl.length)).length lc',.int .i64 0]) (by simp [results,Tryz.results48,go_sem]) rfl ?_
   have hta : sl.take sl.length = sl:=List.take_length
   refine ⟨.inr ⟨?_,_,rfl,?_⟩,HX.out⟩
   ·rw [HTM.out,List.any_eq_false]
    intro t ht
    have:=HP.out t (by rw [hta];exact ht)
    simp;omega
   ·rw [HWH.out]
    have h1:=HROW.out
    rw [hta] at h1 ⊢
    exact h1
end Go.Proofs.YtihfcjioilmmjaaGreat
namespace Go.Proofs.YtihfcjioilmmjaaGreat
open Go Go.RowKit
open Go.Lib Go.Sort Go.Maps Go.Shelf Go.Proofs
theorem updO_mem (l : List Nat) (b x : Nat) : x ∈ updO l b ↔ x ∈ l ∨ x = b:=by
 unfold updO
 split
 ·rename_i h
  constructor
  ·exact .inl
  ·rintro (h' | rfl)
   ·exact h'
   ·exact h
 ·simp
theorem updO_nodup {l : List Nat} (h : l.Nodup) (b : Nat) : (updO l b).Nodup:=by
 unfold updO
 split
 ·exact h
 ·rename_i hb
  rw [List.nodup_append]
  refine ⟨h,by simp,fun a ha c hc=>?_⟩
  rw [List.mem_singleton.1 hc]
  rintro rfl
  exact hb ha
theorem updR_iff {ρ ρ' : Nat → Int} {c : Nat} {n : Int} {r : List Nat} (hc : c ∉ r) : (∀ d,d ∉ r → ρ' d = updR ρ c n d) ↔ ρ' c = n ∧ ∀ d,d ∉ c :: r → ρ' d = ρ d:=by
 constructor
 ·intro h
  refine ⟨?_,fun d hd=>?_⟩
  ·have:=h c hc
   rw [this];unfold updR;rw [if_pos rfl]
  ·have h1 : d ≠ c:=fun e=>hd (e ▸ List.mem_cons_self)
   have h2 : d ∉ r:=fun e=>hd (List.mem_cons_of_mem _ e)
   rw [h d h2];unfold updR;rw [if_neg h1]
 ·rintro ⟨h1,h2⟩ d hd
  unfold updR
  by_cases e : d = c
  ·rw [if_pos e,e,h1]
  ·rw [if_neg e]
   exact h2 d fun hm=>by
    rcases List.mem_cons.1 hm with hm | hm
    ·exact e hm
    ·exact hd hm
theorem runW_spec (smp : Nat → List Int) (b : (Nat → Int) → Nat) : ∀ (cols : List Nat),cols.Nodup → ∀ (ρ : Nat → Int) (l : List Nat),
  (∀ d,d ∉ cols → (runW smp b cols (ρ,l)).1 d = ρ d) ∧ (∀ x,x ∈ (runW smp b cols (ρ,l)).2 ↔ x ∈ l ∨ ∃ ρ',(∀ d ∈ cols,ρ' d ∈ smp d) ∧ (∀ d,d ∉ cols → ρ' d = ρ d) ∧ b ρ' = x)
 | [],_,ρ,l=>by
  refine ⟨fun d _=>rfl,fun x=>?_⟩
  show x ∈ updO l (b ρ) ↔ _
  rw [updO_mem]
  constructor
  ·rintro (h | rfl)
   ·exact .inl h
   ·exact .inr ⟨ρ,(by simp),fun _ _=>rfl,rfl⟩
  ·rintro (h | ⟨ρ',_,h2,rfl⟩)
   ·exact .inl h
   ·have : ρ' = ρ:=funext fun d=>h2 d (by simp)
    rw [this];exact .inr rfl
 | c :: r,hn,ρ,l=>by
  obtain ⟨hc,hr⟩:=List.nodup_cons.1 hn
  have ih:=runW_spec smp b r hr
  have key : ∀ (ns : List Int) (ρ : Nat → Int) (l : List Nat),
    (∀ d,d ∉ c :: r → (ns.foldl (fun st n=>runW smp b r (updR st.1 c n,st.2)) (ρ,l)).1 d = ρ d) ∧ (∀ x,x ∈ (ns.foldl (fun st n=>runW smp b r (updR st.1 c n,st.2)) (ρ,l)).2 ↔ x ∈ l ∨ ∃ ρ',ρ' c ∈ ns ∧ (∀ d ∈ r,ρ' d ∈ smp d) ∧ (∀ d,d ∉ c :: r → ρ' d = ρ d) ∧ b ρ' = x):=by
   intro ns
   induction ns with
   | nil=>intro ρ l;exact ⟨fun _ _=>rfl,fun x=>⟨.inl,fun h=>h.elim id fun ⟨_,h,_⟩=>by simp at h⟩⟩
   | cons n ns ihn=>
    intro ρ l
    rw [List.foldl_cons]
    obtain ⟨st1,hst1⟩ : ∃ st1,runW smp b r (updR ρ c n,l) = st1:=⟨_,rfl⟩
    have h1:=ih (updR ρ c n) l
    have h2:=ihn st1.1 st1.2
    show (∀ d,d ∉ c :: r → (ns.foldl (fun st n=>runW smp b r (updR st.1 c n,st.2)) (runW smp b r (updR ρ c n,l))).1 d = ρ d) ∧ _
    simp only [hst1] at h1 ⊢
    have hoff : ∀ d,d ∉ c :: r → st1.1 d = ρ d:=((updR_iff hc).1 h1.1).2
    refine ⟨fun d hd=>(h2.1 d hd).trans (hoff d hd),fun x=>?_⟩
    rw [h2.2 x,h1.2 x]
    constructor
    ·rintro ((h | ⟨ρ',g1,g2,g3⟩) | ⟨ρ',g1,g2,g3,g4⟩)
     ·exact .inl h
     ·obtain ⟨e1,e2⟩:=(updR_iff hc).1 g2
      exact .inr ⟨ρ',by rw [e1];exact List.mem_cons_self,g1,e2,g3⟩
     ·exact .inr ⟨ρ',List.mem_cons_of_mem _ g1,g2,fun d hd=>(g3 d hd).trans (hoff d hd),g4⟩
    ·rintro (h | ⟨ρ',g1,g2,g3,g4⟩)
     ·exact .inl (.inl h)
     ·rcases List.mem_cons.1 g1 with g1 | g1
      ·exact .inl (.inr ⟨ρ',g2,(updR_iff hc).2 ⟨g1,g3⟩,g4⟩)
      ·exact .inr ⟨ρ',g1,g2,fun d hd=>(g3 d hd).trans (hoff d hd).symm,g4⟩
  have h:=key (smp c) ρ l
  refine ⟨h.1,fun x=>(h.2 x).trans ?_⟩
  constructor
  ·rintro (h | ⟨ρ',g1,g2,g3,g4⟩)
   ·exact .inl h
   ·refine .inr ⟨ρ',fun d hd=>?_,g3,g4⟩
    rcases List.mem_cons.1 hd with rfl | hd
    ·exact g1
    ·exact g2 d hd
  ·rintro (h | ⟨ρ',g1,g2,g3⟩)
   ·exact .inl h
   ·exact .inr ⟨ρ',g1 c List.mem_cons_self,fun d hd=>g1 d (List.mem_cons_of_mem _ hd),g2,g3⟩
theorem runW_nodup (smp : Nat → List Int) (b : (Nat → Int) → Nat) : ∀ (cols : List Nat) (st : (Nat → Int) × List Nat),st.2.Nodup → (runW smp b cols st).2.Nodup
 | [],st,h=>updO_nodup h _
 | c :: r,st,h=>by
  show ((smp c).foldl (fun st n=>runW smp b r (updR st.1 c n,st.2)) st).2.Nodup
  generalize smp c = ns
  induction ns generalizing st with
  | nil=>exact h
  | cons n ns ih=>
   rw [List.foldl_cons]
   exact ih _ (runW_nodup smp b r _ h)
theorem runW_mem {smp : Nat → List Int} {b : (Nat → Int) → Nat} {cols : List Nat} (hn : cols.Nodup) (x : Nat) : x ∈ (runW smp b cols (fun _=>0,[])).2 ↔ ∃ ρ,(∀ d ∈ cols,ρ d ∈ smp d) ∧ (∀ d,d ∉ cols → ρ d = 0) ∧ b ρ = x:=by
 rw [(runW_spec smp b cols hn _ _).2 x]
 simp
theorem bitsK_one (bs : List Bool) : bitsK bs 1 = if bs.getD 0 false then 1 else 0:=by
 rw [bitsK_succ]
 split <;> simp [bitsK]
theorem runW_two {smp : Nat → List Int} {φ : (Nat → Int) → Bool} {cols : List Nat} (hn : cols.Nodup) : (runW smp (fun ρ=>bitsK [φ ρ] 1) cols (fun _=>0,[])).2.length ≤ 2:=by
 have h1:=runW_nodup smp (fun ρ=>bitsK [φ ρ] 1) cols (fun _=>0,[]) List.nodup_nil
 have h2:=nodup_sub (m:=[0,1]) h1 fun x hx=>by
  obtain ⟨ρ,_,_,rfl⟩:=(runW_mem hn x).1 hx
  rw [bitsK_one]
  split <;> simp
 exact h2
end Go.Proofs.YtihfcjioilmmjaaGreat
namespace Go.Proofs.YtihfcjioilmmjaaGreat
open Go Go.RowKit
open Go.Lib Go.Sort Go.Maps Go.Shelf Go.Proofs
theorem sl_one {w : World} {b : Nat} {x : Value} {T : TypeId} (hb : w.heap[b]? = some (.cells #[x] T (0,0))) : SlAt w (.slice (some ⟨b,0,none⟩) 1 1) 1 1 [x]:=
 ⟨_,1,rfl,Nat.le_refl _,by decide,rfl,fun j u hu=>⟨b,0,rfl,by rw [cell_of hb,Nat.zero_add,List.getElem?_toArray];exact hu⟩⟩
def likeK (l : List Nat) : Int:=if 1 ∈ l then (if l.length = 1 then 1 else 2) else 3
theorem allM_one (q : Qn) (c : Nat) : allM [q] c = q.marks c:=by
 show mergeM (fun _=>none) q.marks c = q.marks c
 unfold mergeM
 cases q.marks c <;> simp
set_option maxHeartbeats 4000000 in
set_option maxRecDepth 100000 in
theorem like0_any {B : Nat} {w : World} {rb : Nat} {R : Rec} {cm : Nat} {vv fv : Value} {os : List (Option Nat × Option Nat)} {xs : List (List Value)} (h : RecAt B w rb R cm vv fv os xs) {B2 : Nat} {vb : Nat} {hf : List (Int × FR)} {sv : Value} {mp mk mf md : Nat} {lp : List (ByteArray × Value)} {lk lf ld : List ((ByteArray × Nat) × Value)}
  (hV : ViewAt B2 w vb hf sv mp mk mf md lp lk lf ld) (hfc : ∀ y ∈ hf,(y.2.attr,y.2.col) ∈ R.cols) (hfb : ∀ y ∈ hf,y.2.st.bits < 256) {Bq hi qb : Nat} {q : Qn} {tv : Value} {mb : Nat} {lm : List (Nat × Value)} (hq : QAt Bq hi R w qb q tv mb lm) (sb : Nat) (hsb : w.heap[sb]? = some (.cells #[.pointer (some ⟨qb,0,none⟩),.slice none 0 0] 163 (0,0)))
  (hshort : ∀ c l,q.marks c = some l → l.length ≤ 2000) (s : ByteArray) (hp : partsV hf s = []) (smp : Nat → List Int) (hsmp : ∀ a c,(a,c) ∈ R.cols → smp c = sampF a (ofV hf (s,c) a) ((q.marks c).getD [])) :
  Calls Tryz.prog 49 #[.pointer (some ⟨vb,0,none⟩),.string s,.pointer (some ⟨sb,0,none⟩)] w fun e w'=>∃ cols,e = .returned (.int .u8 (likeK (runW smp (fun ρ=>bitsK [q.φ ρ] 1) cols (fun _=>0,[])).2)) ∧ cols.Nodup ∧ (∀ c,c ∈ cols ↔ (q.marks c).isSome = true) ∧ Ext w w':=by
 obtain ⟨W1,hW1⟩ : ∃ W1,W1 = w.alloc (.cells #[.int .u64 0] 118 (0,0)):=⟨_,rfl⟩
 have hx1 : Ext w W1:=by rw [hW1];exact bel
 have hb1 : W1.heap[w.heap.size]? = some (.cells #[.int .u64 0] 118 (0,0)):=by rw [hW1];simp only [heap_drawn_get,heap_drew_get,heap_setCell_get,heap_alloc_get,World.size_alloc,World.size_setCell,size_drawn,putObj_get,putObj_size];(repeat (first | rw [if_pos trivial] | rw [if_pos rfl] | rw [if_neg (by omega)] | rw [if_pos (by omega)]))
 have hs1 : W1.heap.size = w.heap.size + 1:=by rw [hW1];simp
 obtain ⟨W2,hW2⟩ : ∃ W2,W2 = W1.alloc (.cells #[.pointer (some ⟨qb,0,none⟩)] 158 (0,0)):=⟨_,rfl⟩
 have hx2 : Ext W1 W2:=by rw [hW2];exact bel
 have hb2 : W2.heap[W1.heap.size]? = some (.cells #[.pointer (some ⟨qb,0,none⟩)] 158 (0,0)):=by rw [hW2];simp only [heap_drawn_get,heap_drew_get,heap_setCell_get,heap_alloc_get,World.size_alloc,World.size_setCell,size_drawn,putObj_get,putObj_size];(repeat (first | rw [if_pos trivial] | rw [if_pos rfl] | rw [if_neg (by omega)] | rw [if_pos (by omega)]))
 rw [hs1] at hb2
 have hxw:=hx1.trans' hx2
 have hout:=outcomes_any (h.ext hxw) (hV.ext hxw) hfc hfb (qv:=.slice (some ⟨w.heap.size + 1,0,none⟩) 1 1) (qbs:=[qb]) (qs:=[q]) ⟨sl_one hb2,rfl,fun i qb' φ h1 h2=>by
   match i,h1,h2 with
   | 0,h1,h2=>
    obtain rfl:=Option.some.inj h1
    obtain rfl:=Option.some.inj h2
    exact ⟨tv,Bq,hi,cell_of (hq.ext hxw).blk 0,(hq.ext hxw).hiW,(hq.ext hxw).test⟩
   | i + 1,h1,_=>simp at h1⟩ (by simp) (fun i qb' q' h1 h2=>by
   match i,h1,h2 with
   | 0,h1,h2=>
    obtain rfl:=Option.some.inj h1
    obtain rfl:=Option.some.inj h2
    exact ⟨Bq,hi,tv,mb,lm,hq.ext hxw⟩
   | i + 1,h1,_=>simp at h1) (fun q' hq'=>by rw [List.mem_singleton.1 hq'];exact hshort) s smp (fun a c hc=>by rw [allM_one];exact hsmp a c hc)
 replace hout : Calls Tryz.prog 66 #[.pointer (some ⟨vb,0,none⟩),.string s,.slice (some ⟨w.heap.size + 1,0,none⟩) 1 1] W2 fun e w'=>∃ v cols,e = .returned v ∧ cols.Nodup ∧ (∀ c,c ∈ cols ↔ (allM [q] c).isSome = true) ∧ w'.ownsRow W2.heap.size 118 1 v (runW smp (fun ρ=>bitsK [q.φ ρ] 1) cols (fun _=>0,[])).2.length ((runW smp (fun ρ=>bitsK [q.φ ρ] 1) cols (fun _=>0,[])).2.map U64) ∧ Ext W2 w':=hout
 obtain ⟨pp,pc,_,hpl⟩:=hV.partLook s
 rw [hp] at hpl
 have hlk:=hpl W1 hx1
 have hcon : ∀ W,Ext W1 W → Calls Tryz.prog 69 #[.slice (some ⟨w.heap.size,0,none⟩) 1 1,.int .u64 0] W fun e w'=>e = .returned (.bool true) ∧ W = w':=fun W hE=>by
  exact containsU_any W (.slice (some ⟨w.heap.size,0,none⟩) 1 1) [0] 0 (sl_one (hE.obj hb1))
 have v1 : W1.cell? ⟨vb,1,none⟩ = some (.map (some mp)):=hx1.cell' (cell_of hV.view 1)
 have s1 : W1.cell? ⟨sb,1,none⟩ = some (.slice none 0 0):=hx1.cell' (cell_of hsb 1)
 have s0 : W1.cell? ⟨sb,0,none⟩ = some (.pointer (some ⟨qb,0,none⟩)):=hx1.cell' (cell_of hsb 0)
 have HOUT:=Lib.hid hout
 have HCON:=Lib.hid hcon
 have HX1:=Lib.hid hx1
 have HX2:=Lib.hid hx2
 clear hout hcon hx1 hx2 hxw hq hV h hfc hfb hsb hshort hsmp hp hb1 hb2 hpl
 go_enter Tryz.func49,Tryz.ntmps49
 go_upto_region 2 with fail
 rw [← hW1]
 clear hW1
 go_wp2_with fail
 go_loopw [7,25] (fun v i wr=>v = .slice (some ⟨w.heap.size,0,none⟩) 1 1 ∧ i = .int .i64 0 ∧ wr = W1) (fun _ _ _=>0)
 case atStart=>exact ⟨rfl,rfl,rfl⟩
 case round=>
  obtain ⟨rfl,rfl,rfl⟩:=hrel
  go_upto_region 19 with fail
  go_wp2_with fail
  rw [← hW2]
  clear hW2
  refine HOUT.out.mono ?_
  rintro e w2 ⟨ov,cols,rfl,hnd,hkeys,hrow,hx⟩
  obtain ⟨outs,houts⟩ : ∃ outs,(runW smp (fun ρ=>bitsK [q.φ ρ] 1) cols (fun _=>0,[])).2 = outs:=⟨_,rfl⟩
  replace hrow : w2.ownsRow W2.heap.size 118 1 ov (runW smp (fun ρ=>bitsK [q.φ ρ] 1) cols (fun _=>0,[])).2.length ((runW smp (fun ρ=>bitsK [q.φ ρ] 1) cols (fun _=>0,[])).2.map U64):=hrow
  rw [houts] at hrow
  obtain ⟨op,oc,rfl⟩:=owns_form hrow
  have hc1:=containsU_any w2 (.slice op outs.length oc) outs 1 (SlAt.of_owns hrow)
  have hc2:=HCON.out w2 (HX2.out.trans' hx)
  replace hc1 : Calls Tryz.prog 69 #[.slice op outs.length oc,.int .u64 1] w2 fun e w'=>e = .returned (.bool (decide (1 ∈ outs))) ∧ w2 = w':=hc1
  have hol : outs.length ≤ 2:=by rw [← houts];exact runW_two hnd
  have HC1:=Lib.hid hc1
  have HC2:=Lib.hid hc2
  have HO:=Lib.hid houts
  have HX:=Lib.hid hx
  have HND:=Lib.hid hnd
  have HKE:=Lib.hid (show ∀ c,c ∈ cols ↔ (q.marks c).isSome = true from fun c=>by rw [hkeys c,allM_one])
  clear hc1 hc2 houts hx hnd hkeys hrow hlk v1 s1 s0
  obtain ⟨b1,hb1⟩ : ∃ b1,decide (1 ∈ outs) = b1:=⟨_,rfl⟩
  rw [hb1] at HC1
  have HB1:=Lib.hid hb1
  clear hb1
  cases b1 with
  | true=>
   have h1m : 1 ∈ outs:=by have:=HB1.out;simpa using this
   have H1M:=Lib.hid h1m
   clear h1m
   go_wp2_with fail
   refine HC1.out.mono ?_
   rintro e w3 ⟨rfl,rfl⟩
   go_wp2_with fail
   refine HC2.out.mono ?_
   rintro e w3 ⟨rfl,rfl⟩
   by_cases hl1 : outs.length = 1
   ·have HL1:=Lib.hid hl1
    rw [hl1]
    clear hl1
    go_wp2_with fail
    go_ret
    refine ⟨cols,?_,HND.out,HKE.out,(HX1.out.trans' HX2.out).trans' HX.out⟩
    rw [HO.out]
    unfold likeK
    rw [if_pos H1M.out,if_pos HL1.out]
    rfl
   ·go_wp2_with fail
    go_ret
    refine ⟨cols,?_,HND.out,HKE.out,(HX1.out.trans' HX2.out).trans' HX.out⟩
    rw [HO.out]
    unfold likeK
    rw [if_pos H1M.out,if_neg hl1]
    rfl
  | false=>
   have h1m : 1 ∉ outs:=by have:=HB1.out;simpa using this
   have H1M:=Lib.hid h1m
   clear h1m
   go_wp2_with fail
   refine HC1.out.mono ?_
   rintro e w3 ⟨rfl,rfl⟩
   go_wp2_with fail
   go_ret
   refine ⟨cols,?_,HND.out,HKE.out,(HX1.out.trans' HX2.out).trans' HX.out⟩
   rw [HO.out]
   unfold likeK
   rw [if_neg H1M.out]
   rfl
end Go.Proofs.YtihfcjioilmmjaaGreat
