/- Lemmas: Query. -/
import Derived.Test.YtihfcjioilmmjaaGreatRm1
import Derived.Test.YtihfcjioilmmjaaGreatRm10
import Derived.Test.YtihfcjioilmmjaaGreatRm11
import Derived.Test.YtihfcjioilmmjaaGreatRm12
import Derived.Test.YtihfcjioilmmjaaGreatRm9
import Derived.Test.YtihfcjioilmmjaaGreatRm3
set_option linter.all false
namespace Go.Proofs.YtihfcjioilmmjaaGreat
open Go Go.RowKit
open Go.Lib Go.Sort Go.Maps Go.Shelf Go.Proofs
def marksN (R : Rec) (q : Qn) : Nat:=(R.cols.filter fun x=>(q.marks x.2).isSome).length
def readF0 (R : Rec) (e : Exp) : Option Qn:=match askF R e with
 | none=>none
 | some q=>if q.size ≤ 30 ∧ marksN R q ≤ 4 then some q else none
theorem cols_nodup {B : Nat} {w : World} {rb : Nat} {R : Rec} {cm : Nat} {vv fv : Value} {os : List (Option Nat × Option Nat)} {xs : List (List Value)} (h : RecAt B w rb R cm vv fv os xs) : (R.cols.map (·.2)).Nodup:=by
 have hn:=h.ok.names
 rw [List.Nodup,List.pairwise_map] at hn ⊢
 refine hn.imp_of_mem fun {x y} hx hy hne e=>hne ?_
 obtain ⟨a,c⟩:=x
 obtain ⟨a',c'⟩:=y
 obtain rfl : c = c':=e
 rw [cols_unique h hx hy]
theorem marks_len {B : Nat} {w : World} {rb : Nat} {R : Rec} {cm : Nat} {vv fv : Value} {os : List (Option Nat × Option Nat)} {xs : List (List Value)} (h : RecAt B w rb R cm vv fv os xs) {Bq : Nat} {W : World} {mb : Nat} {lm : List (Nat × Value)} {q : Qn} (hm : MarksAt Bq R W mb lm q.marks) : lm.length = marksN R q:=by
 have h1:=hm.nodup
 have h2 : ((R.cols.filter fun x=>(q.marks x.2).isSome).map (·.2)).Nodup:=((List.filter_sublist (l:=R.cols) (p:=fun x=>(q.marks x.2).isSome)).map (fun x : Attr × Nat=>x.2)).nodup (cols_nodup h)
 have h3:=nodup_sub h1 (m:=(R.cols.filter fun x=>(q.marks x.2).isSome).map (·.2)) fun c hc=>by
  obtain ⟨x,hx,rfl⟩:=List.mem_map.1 hc
  obtain ⟨a,ha⟩:=hm.cols x hx
  refine List.mem_map.2 ⟨(a,x.1),List.mem_filter.2 ⟨ha,?_⟩,rfl⟩
  obtain ⟨v,hv⟩:=Option.isSome_iff_exists.1 (look_isSome_iff.2 hc)
  obtain ⟨l,hl,_⟩:=hm.some_ _ v hv
  show (q.marks x.1).isSome = true
  rw [hl];rfl
 have h4:=nodup_sub h2 (m:=lm.map (·.1)) fun c hc=>by
  obtain ⟨x,hx,rfl⟩:=List.mem_map.1 hc
  have hs:=(List.mem_filter.1 hx).2
  refine look_isSome_iff.1 ?_
  cases hl : look lm x.2 with
  | none=>rw [hm.none_ _ hl] at hs;simp at hs
  | some v=>rfl
 rw [List.length_map,List.length_map] at h3 h4
 unfold marksN
 omega
theorem owns_low {w : World} {b b' : Nat} {e : TypeId} {k : Nat} {v : Value} {n : Nat} {xs : List Value} (h : w.ownsRow b e k v n xs) (hb : b' ≤ b) : w.ownsRow b' e k v n xs:=
 ⟨h.1,h.2.imp id fun ⟨g,cap,cur,h1,h2,h3⟩=>⟨g,cap,cur,h1,Nat.le_trans hb h2,h3⟩⟩
theorem QAt.wide {B B' hi hi' : Nat} {R : Rec} {w : World} {qb : Nat} {q : Qn} {tv : Value} {mb : Nat} {lm : List (Nat × Value)} (h : QAt B hi R w qb q tv mb lm) (h1 : B' ≤ B) (h2 : hi ≤ hi') (h3 : hi' ≤ w.heap.size) : QAt B' hi' R w qb q tv mb lm:=by
 obtain ⟨g,lb,t1,t2,t3⟩:=h.test
 obtain ⟨b1,b2,b3,b4⟩:=h.bk
 exact
  {blk:=h.blk,test:=⟨g,lb,t1,t2,fun W wb lw ρ hW=>t3 W wb lw ρ (hW.mono h1 h2)⟩,hiW:=h3,bk:=⟨by omega,by omega,by omega,by omega⟩,
   marks:={ h.marks with some_:=fun c v hc=>let ⟨l,k1,k2⟩:=h.marks.some_ c v hc;⟨l,k1,owns_low k2 h1⟩ } }
def ReadPost0 (R : Rec) (x : Exp) (w : World) (e : Ending) (w' : World) : Prop:=
 Ext w w' ∧ ((readF0 R x = none ∧ e = .returned (.tuple #[.pointer none,.int .i64 113])) ∨ ∃ q sb qb tv mb lm,readF0 R x = some q ∧ e = .returned (.tuple #[.pointer (some ⟨sb,0,none⟩),.int .i64 0]) ∧ QAt w.heap.size w'.heap.size R w' qb q tv mb lm ∧ w'.heap[sb]? = some (.cells #[.pointer (some ⟨qb,0,none⟩),.slice none 0 0] 163 (0,0)))
set_option maxHeartbeats 4000000 in
set_option maxRecDepth 100000 in
theorem read0_any {B : Nat} {w : World} {rb : Nat} {R : Rec} {cm : Nat} {vv fv : Value} {os : List (Option Nat × Option Nat)} {xs : List (List Value)} (h : RecAt B w rb R cm vv fv os xs) {x0 : Int} {x1 : ByteArray} {p2 : Option Addr} {n2 c2 : Nat} {x3 x4 : Int} {p5 : Option Addr} {n5 c5 : Nat} {e : Exp} (he : ExpAt w [.int .u8 x0,.string x1,.slice p2 n2 c2,.int .i64 x3,.int .i64 x4,.slice p5 n5 c5] e) (hn : e.nodes ≤ 1000) (p6 : Option Addr) (c6 : Nat) :
  Calls Tryz.prog 47 #[encP rb,.agg #[.int .u8 x0,.string x1,.slice p2 n2 c2,.int .i64 x3,.int .i64 x4,.slice p5 n5 c5,.slice p6 0 c6]] w fun r w'=>ReadPost0 R e w r w':=by
 obtain ⟨W1,hW1⟩ : ∃ W1,W1 = w.alloc (.cells #[.int .u8 x0,.string x1,.slice p2 n2 c2,.int .i64 x3,.int .i64 x4,.slice p5 n5 c5,.slice p6 0 c6] 31 (0,0)):=⟨_,rfl⟩
 have hx1 : Ext w W1:=by rw [hW1];exact bel
 have hb1 : W1.heap[w.heap.size]? = some (.cells #[.int .u8 x0,.string x1,.slice p2 n2 c2,.int .i64 x3,.int .i64 x4,.slice p5 n5 c5,.slice p6 0 c6] 31 (0,0)):=by rw [hW1];simp only [heap_drawn_get,heap_drew_get,heap_setCell_get,heap_alloc_get,World.size_alloc,World.size_setCell,size_drawn,putObj_get,putObj_size];(repeat (first | rw [if_pos trivial] | rw [if_pos rfl] | rw [if_neg (by omega)] | rw [if_pos (by omega)]))
 have hask:=ask_any (h.ext hx1) (he.ext hx1) hn
 replace hask : Calls Tryz.prog 64 #[.pointer (some ⟨rb,0,none⟩),.agg #[.int .u8 x0,.string x1,.slice p2 n2 c2,.int .i64 x3,.int .i64 x4,.slice p5 n5 c5]] W1 fun r w'=>AskPost R e W1 r w':=hask
 have d0:=cell_of hb1 0
 have d1:=cell_of hb1 1
 have d2:=cell_of hb1 2
 have d3:=cell_of hb1 3
 have d4:=cell_of hb1 4
 have d5:=cell_of hb1 5
 have d6:=cell_of hb1 6
 have HASK:=Lib.hid hask
 have HREC:=Lib.hid h
 have HX1:=Lib.hid hx1
 have HB1:=Lib.hid hb1
 have hmm : ∀ t w,(Instr.makeMap t none).run Tryz.prog w = .ok (.map (some w.heap.size)) (w.alloc (.map #[] 0)):=fun _ _=>rfl
 clear hask h hx1 hb1 he
 unfold encP at *
 go_enter Tryz.func47,Tryz.ntmps47
 go_upto_region 1 with fail
 rw [← hW1]
 clear hW1
 go_wp2_with fail
 refine HASK.out.mono ?_
 rintro r w2 ⟨hx,⟨hnone,v,rfl⟩ | ⟨q,qb,tv,mb,lm,hsome,rfl,hq⟩⟩
 ·clear d0 d1 d2 d3 d4 d5 d6
  go_wp2_with fail
  refine bodyPost_ret (v:=.tuple #[.pointer none,.int .i64 113]) (by simp [results,Tryz.results47,go_sem]) rfl ?_
  refine ⟨HX1.out.trans' hx,.inl ⟨?_,rfl⟩⟩
  unfold readF0
  rw [hnone]
 ·replace d6:=hx.cell' d6
  clear d0 d1 d2 d3 d4 d5
  simp only [List.getElem_toArray,List.getElem_cons_succ,List.getElem_cons_zero] at d6
  obtain ⟨Wa,hWa⟩ : ∃ Wa,Wa = w2.alloc (.cells #[.pointer (some ⟨qb,0,none⟩),.slice none 0 0] 163 (0,0)):=⟨_,rfl⟩
  have hxa : Ext w2 Wa:=by rw [hWa];exact bel
  have hba : Wa.heap[w2.heap.size]? = some (.cells #[.pointer (some ⟨qb,0,none⟩),.slice none 0 0] 163 (0,0)):=by rw [hWa];simp only [heap_drawn_get,heap_drew_get,heap_setCell_get,heap_alloc_get,World.size_alloc,World.size_setCell,size_drawn,putObj_get,putObj_size];(repeat (first | rw [if_pos trivial] | rw [if_pos rfl] | rw [if_neg (by omega)] | rw [if_pos (by omega)]))
  have hsa : Wa.heap.size = w2.heap.size + 1:=by rw [hWa];simp
  obtain ⟨W3,hW3⟩ : ∃ W3,W3 = Wa.alloc (.map #[] 0):=⟨_,rfl⟩
  have hx3' : Ext Wa W3:=by rw [hW3];exact bel
  have hx3:=hxa.trans' hx3'
  have hb3 : W3.heap[w2.heap.size]? = some (.cells #[.pointer (some ⟨qb,0,none⟩),.slice none 0 0] 163 (0,0)):=hx3'.obj hba
  have hm3 : MapIs encP W3 (w2.heap.size + 1) []:=by rw [hW3];unfold MapIs;rw [← hsa];simp only [heap_drawn_get,heap_drew_get,heap_setCell_get,heap_alloc_get,World.size_alloc,World.size_setCell,size_drawn,putObj_get,putObj_size];(repeat (first | rw [if_pos trivial] | rw [if_pos rfl] | rw [if_neg (by omega)] | rw [if_pos (by omega)]));rfl
  have hml:=marks_len HREC.out hq.marks
  have hl1 : ∀ z,(Builtin.len_ #[166] z #[.map (some mb)]).run Tryz.prog W3 = .ok (.int .i64 (lm.length : Int)) W3:=fun z=>run_lenMap (K:=101) (E:=35) (by kernel_rfl) (hq.marks.map.ext hx3) z
  have hl2 : ∀ z,(Builtin.len_ #[169] z #[.map (some (w2.heap.size + 1))]).run Tryz.prog W3 = .ok (.int .i64 0) W3:=fun z=>run_lenMap (K:=101) (E:=3) (by kernel_rfl) hm3 z
  have q1 : W3.cell? ⟨qb,1,none⟩ = some (.int .i64 (q.size : Int)):=cell_of (hq.ext hx3).blk 1
  have q2 : W3.cell? ⟨qb,2,none⟩ = some (.map (some mb)):=cell_of (hq.ext hx3).blk 2
  have q10 : Wa.cell? ⟨qb,1,none⟩ = some (.int .i64 (q.size : Int)):=cell_of (hq.ext hxa).blk 1
  have d63 : W3.cell? ⟨w.heap.size,6,none⟩ = some (.slice p6 0 c6):=(hx.trans' hx3).cell' (cell_of HB1.out 6)
  have HQ:=Lib.hid hq
  have HX:=Lib.hid hx
  have HX3:=Lib.hid hx3
  have HB3:=Lib.hid hb3
  have HML:=Lib.hid hml
  have HSO:=Lib.hid hsome
  clear hq hx hx3 hb3 hm3 hml hsome hxa hba hx3'
  go_upto_region 5 with fail
  rw [← hWa]
  clear hWa d6
  go_upto_region 7 with fail
  rw [← hW3]
  clear hW3 q10
  go_wp2_with fail
  clear d63
  go_loopw [9,42] (fun z i wr=>z = .int .i64 (q.size : Int) ∧ i = .int .i64 0 ∧ wr = W3) (fun _ _ _=>0)
  case atStart=>exact ⟨rfl,rfl,rfl⟩
  case round=>
   obtain ⟨rfl,rfl,rfl⟩:=hrel
   by_cases hz : 30 < q.size
   ·go_wp2_with fail
    refine bodyPost_ret (v:=.tuple #[.pointer none,.int .i64 113]) (by simp [results,Tryz.results47,go_sem]) rfl ?_
    refine ⟨(HX1.out.trans' HX.out).trans' HX3.out,.inl ⟨?_,rfl⟩⟩
    unfold readF0
    rw [HSO.out]
    show (if q.size ≤ 30 ∧ marksN R q ≤ 4 then some q else none) = none
    rw [if_neg (by omega)]
   ·by_cases hm : 4 < lm.length
    ·go_wp2_with fail
     refine bodyPost_ret (v:=.tuple #[.pointer none,.int .i64 113]) (by simp [results,Tryz.results47,go_sem]) rfl ?_
     refine ⟨(HX1.out.trans' HX.out).trans' HX3.out,.inl ⟨?_,rfl⟩⟩
     unfold readF0
     rw [HSO.out]
     show (if q.size ≤ 30 ∧ marksN R q ≤ 4 then some q else none) = none
     rw [if_neg (by rw [← HML.out];omega)]
    ·go_wp2_with fail
     refine bodyPost_ret (v:=.tuple #[.pointer (some ⟨w2.heap.size,0,none⟩),.int .i64 0]) (by simp [results,Tryz.results47,go_sem]) rfl ?_
     refine ⟨(HX1.out.trans' HX.out).trans' HX3.out,.inr ⟨q,w2.heap.size,qb,tv,mb,lm,?_,rfl,?_,HB3.out⟩⟩
     ·unfold readF0
      rw [HSO.out]
      show (if q.size ≤ 30 ∧ marksN R q ≤ 4 then some q else none) = some q
      rw [if_pos ⟨by omega,by rw [← HML.out];omega⟩]
     ·exact (HQ.out.ext HX3.out).wide HX1.out.size HX3.out.size (Nat.le_refl _)
end Go.Proofs.YtihfcjioilmmjaaGreat
namespace Go.Proofs.YtihfcjioilmmjaaGreat
open Go Go.RowKit
open Go.Lib Go.Sort Go.Maps Go.Shelf Go.Proofs
theorem held_len {R : Rec} (hok : RecOk R) {ver : Ver} (hv : ver ∈ R.vers) : (heldF R ver).length ≤ 300:=by
 obtain ⟨k1,_,k3⟩:=hok.keys ver hv
 have h1:=nodup_bound R.facts.length (ver.added.map (·.1)) k1 k3
 have h2:=hok.facts
 have h3 : (heldV ver).length ≤ (ver.added.map (·.1)).length:=by
  unfold heldV
  exact Nat.le_trans (List.length_filter_le _ _) (by rw [List.length_mergeSort];exact Nat.le_refl _)
 have h4 : (heldF R ver).length = (heldV ver).length:=List.length_map _
 omega
theorem subsV_len (hf : List (Int × FR)) (h : hf.length ≤ 300) : (subsV hf).length ≤ 600:=by
 have h1 : (subsV hf).length ≤ (sortB (subsL hf)).length:=compact_le _
 have h2 : (sortB (subsL hf)).length = (subsL hf).length:=by unfold sortB;rw [List.length_mergeSort,List.length_map]
 have h3:=subsL_len hf
 omega
theorem info64 : (Tryz.prog.info? 64).map (fun i=>(i.zero,i.size,i.bytes)) = some (some (.agg #[.string ⟨#[]⟩,.int .u8 0]),2,24):=by kernel_rfl
theorem append_match {W : World} {base : Nat} {v : Value} {k : Nat} {xs row : List Value} (hown : W.ownsRow base 64 2 v k xs) (ab m : Nat) (hl : row.length = m * 2) (hrow : ∀ j u,row[j]? = some u → W.cell? ⟨ab,0 + j,none⟩ = some u) (h1 : ∀ u ∈ row,u.oneCell' = true) (hk : k + m ≤ 1000000) (hb : base ≤ W.heap.size) (c : Nat) :
  ∃ v' w',(Builtin.append_ #[55,55] 55 #[v,.slice (some ⟨ab,0,none⟩) m c]).run Tryz.prog W = .ok v' w' ∧ w'.ownsRow base 64 2 v' (k + m) (xs ++ row) ∧ W.grownBy w' v.ownBlock:=by
 have hml : (1000000 : Nat) ≤ maxLen:=by decide
 obtain ⟨i0,hi,hz0,hz1,hz2⟩:=info_parts info64
 obtain ⟨v',w',q1,q2,q3,_⟩:=run_append_own (P:=Tryz.prog) (w:=W) base 55 55 64 i0 _ 2 24 (by kernel_rfl) hi hz0 hz1 hz2 rfl (by decide) v k xs hown ⟨ab,0,none⟩ m c row hl (fun j u hj=>add_cell (hrow j u hj)) h1 (by omega) (by omega) hb
 exact ⟨v',w',q1,q2,q3⟩
def ReadRel (S : Nat → World → Prop) (bad : Prop) (w : World) (r : Ending) (w' : World) : Prop:=
 Ext w w' ∧ ((bad ∧ r = .returned (.tuple #[.pointer none,.int .i64 113])) ∨ ∃ sb,r = .returned (.tuple #[.pointer (some ⟨sb,0,none⟩),.int .i64 0]) ∧ S sb w')
def matchL (l : List (List UInt8)) (ks : List Int) : List (List UInt8 × Int):=(l.zip ks).filter fun x=>decide (x.2 ≠ 3)
def matchCells (x : List UInt8 × Int) : List Value:=[encStr x.1,.int .u8 x.2]
theorem matchL_snoc (l : List (List UInt8)) (t : List UInt8) (ks : List Int) (k : Int) (h : ks.length = l.length) : matchL (l ++ [t]) (ks ++ [k]) = if k = 3 then matchL l ks else matchL l ks ++ [(t,k)]:=by
 unfold matchL
 rw [List.zip_append h.symm,List.filter_append]
 by_cases hk : k = 3 <;> simp [hk]
theorem matchL_le (l : List (List UInt8)) (ks : List Int) : (matchL l ks).length ≤ l.length:=Nat.le_trans (List.length_filter_le _ _) (by rw [List.length_zip];omega)
def KsOk (LK : ByteArray → Int → Prop) (l : List (List UInt8)) (ks : List Int) : Prop:=ks.length = l.length ∧ ∀ (i : Nat) t k,l[i]? = some t → ks[i]? = some k → LK (ofBytes t) k ∧ 1 ≤ k ∧ k ≤ 3
theorem KsOk.snoc {LK : ByteArray → Int → Prop} {l : List (List UInt8)} {ks : List Int} (h : KsOk LK l ks) {t : List UInt8} {k : Int} (hk : LK (ofBytes t) k ∧ 1 ≤ k ∧ k ≤ 3) : KsOk LK (l ++ [t]) (ks ++ [k]):=by
 refine ⟨by simp [h.1],fun i t' k' ht hk'=>?_⟩
 by_cases hi : i < l.length
 ·rw [List.getElem?_append_left hi] at ht
  rw [List.getElem?_append_left (by rw [h.1];exact hi)] at hk'
  exact h.2 i t' k' ht hk'
 ·rw [List.getElem?_append_right (by omega)] at ht
  rw [List.getElem?_append_right (by rw [h.1];omega),h.1] at hk'
  cases hz : i - l.length with
  | zero=>
   rw [hz] at ht hk'
   obtain rfl : t = t':=by simpa using ht
   obtain rfl : k = k':=by simpa using hk'
   exact hk
  | succ n=>rw [hz] at ht;simp at ht
def QueryRel (hf : List (Int × FR)) (bad : Prop) (LK : ByteArray → Int → Prop) (w : World) (r : Ending) (w' : World) : Prop:=
 Ext w w' ∧ ((bad ∧ r = .returned (.tuple #[.slice none 0 0,.int .i64 113])) ∨ (tooMany hf = true ∧ r = .returned (.tuple #[.slice none 0 0,.int .i64 5])) ∨
  (tooMany hf = false ∧ ∃ v ks,r = .returned (.tuple #[v,.int .i64 0]) ∧ KsOk LK (wholesV hf) ks ∧ w'.ownsRow w.heap.size 64 2 v (matchL (wholesV hf) ks).length ((matchL (wholesV hf) ks).flatMap matchCells)))
set_option maxHeartbeats 4000000 in
set_option maxRecDepth 100000 in
theorem query_any {B : Nat} {w : World} {rb : Nat} {R : Rec} {cm : Nat} {vv fv : Value} {os : List (Option Nat × Option Nat)} {xs : List (List Value)} (h : RecAt B w rb R cm vv fv os xs) (hg : Glob w) {iv : Nat} {ver : Ver} (hv : R.vers[iv]? = some ver)
  (x0 : Int) (x1 : ByteArray) (p2 : Option Addr) (n2 c2 : Nat) (x3 x4 : Int) (p5 : Option Addr) (n5 c5 : Nat) (p6 : Option Addr) (n6 c6 : Nat) (S : Nat → World → Prop) (hS : ∀ sb W W',S sb W → Ext W W' → S sb W') (bad : Prop) (LK : ByteArray → Int → Prop)
  (hread : ∀ W,Ext w W → Calls Tryz.prog 47 #[encP rb,.agg #[.int .u8 x0,.string x1,.slice p2 n2 c2,.int .i64 x3,.int .i64 x4,.slice p5 n5 c5,.slice p6 n6 c6]] W (ReadRel S bad W))
  (hlike : ∀ (W : World) (sb B2 vb : Nat) (sv : Value) (mp mk mf md : Nat) (lp : List (ByteArray × Value)) (lk lf ld : List ((ByteArray × Nat) × Value)) (t : List UInt8),Ext w W → S sb W → ViewAt B2 W vb (heldF R ver) sv mp mk mf md lp lk lf ld → t ∈ wholesV (heldF R ver) →
   Calls Tryz.prog 49 #[.pointer (some ⟨vb,0,none⟩),.string (ofBytes t),.pointer (some ⟨sb,0,none⟩)] W fun e w'=>∃ k,e = .returned (.int .u8 k) ∧ (LK (ofBytes t) k ∧ 1 ≤ k ∧ k ≤ 3) ∧ Ext W w') :
  Calls Tryz.prog 14 #[encP rb,.int .i64 (iv : Int),.agg #[.int .u8 x0,.string x1,.slice p2 n2 c2,.int .i64 x3,.int .i64 x4,.slice p5 n5 c5,.slice p6 n6 c6]] w fun r w'=>QueryRel (heldF R ver) bad LK w r w':=by
 have hvm : ver ∈ R.vers:=List.mem_of_getElem? hv
 have hsl:=subsV_len _ (held_len h.ok hvm)
 have hwl : (wholesV (heldF R ver)).length ≤ 600:=Nat.le_trans (List.length_filter_le _ _) hsl
 obtain ⟨vp,vc,rfl⟩:=owns_form h.vers
 obtain ⟨W1,hW1⟩ : ∃ W1,W1 = w.alloc (.cells #[.int .u8 x0,.string x1,.slice p2 n2 c2,.int .i64 x3,.int .i64 x4,.slice p5 n5 c5,.slice p6 n6 c6] 31 (0,0)):=⟨_,rfl⟩
 have hx1 : Ext w W1:=by rw [hW1];exact bel
 have hb1 : W1.heap[w.heap.size]? = some (.cells #[.int .u8 x0,.string x1,.slice p2 n2 c2,.int .i64 x3,.int .i64 x4,.slice p5 n5 c5,.slice p6 n6 c6] 31 (0,0)):=by rw [hW1];simp only [heap_drawn_get,heap_drew_get,heap_setCell_get,heap_alloc_get,World.size_alloc,World.size_setCell,size_drawn,putObj_get,putObj_size];(repeat (first | rw [if_pos trivial] | rw [if_pos rfl] | rw [if_neg (by omega)] | rw [if_pos (by omega)]))
 have hr1 : W1.cell? ⟨rb,1,none⟩ = some (.slice vp R.vers.length vc):=hx1.cell' (cell_of h.blk 1)
 have hck:=checkVersion_any rb vp R.vers.length vc (iv : Int) W1 hr1
 have hi : iv < R.vers.length:=(List.getElem?_eq_some_iff.1 hv).1
 rw [show (if decide (0 ≤ (iv : Int)) && decide ((iv : Int) < (R.vers.length : Int)) then (0 : Int) else 110) = 0 by simp [hi]] at hck
 have hrd:=hread W1 hx1
 have d0:=cell_of hb1 0
 have d1:=cell_of hb1 1
 have d2:=cell_of hb1 2
 have d3:=cell_of hb1 3
 have d4:=cell_of hb1 4
 have d5:=cell_of hb1 5
 have d6:=cell_of hb1 6
 have HCK:=Lib.hid hck
 have HRD:=Lib.hid hrd
 have HREC:=Lib.hid h
 have HGLB:=Lib.hid hg
 have HV:=Lib.hid hv
 have HS:=Lib.hid hS
 have HLIKE:=Lib.hid hlike
 have HX1:=Lib.hid hx1
 have HSL:=Lib.hid hsl
 obtain ⟨hf,hhf⟩ : ∃ hf,heldF R ver = hf:=⟨_,rfl⟩
 rw [hhf] at HLIKE HSL hwl ⊢
 have HHF:=Lib.hid hhf
 clear hck hrd h hg hv hS hlike hx1 hb1 hr1 hread hvm hsl hhf hi
 unfold encP at *
 go_enter Tryz.func14,Tryz.ntmps14
 go_upto_region 1 with fail
 rw [← hW1]
 clear hW1
 go_wp2_with fail
 refine HCK.out.mono ?_
 rintro e w1 ⟨rfl,rfl⟩
 go_wp2_with fail
 refine HRD.out.mono ?_
 rintro e w2 ⟨hx2,⟨hbad,rfl⟩ | ⟨sb,rfl,hsb⟩⟩
 ·go_wp2_with fail
  refine bodyPost_ret (v:=.tuple #[.slice none 0 0,.int .i64 113]) (by simp [results,Tryz.results14,go_sem]) rfl ?_
  exact ⟨HX1.out.trans' hx2,.inl ⟨hbad,rfl⟩⟩
 have HX2:=Lib.hid (HX1.out.trans' hx2)
 have HSB:=Lib.hid hsb
 have hlook:=look_any (HREC.out.ext HX2.out) (HGLB.out.ext HX2.out) HV.out
 unfold encP at hlook
 rw [HHF.out] at hlook
 have HLOOK:=Lib.hid hlook
 clear hx2 hsb hlook d0 d1 d2 d3 d4 d5 d6
 go_wp2_with fail
 refine HLOOK.out.mono ?_
 rintro e w3 ⟨vb,sv,mp,mk,mf,md,lp,lk,lf,ld,rfl,hV,hx3⟩
 have hwh:=wholes_any hV (by have:=HSL.out;omega)
 have HWH:=Lib.hid hwh
 have HVW:=Lib.hid hV
 have HX3:=Lib.hid (HX2.out.trans' hx3)
 have HSB3:=Lib.hid (HS.out sb w2 w3 HSB.out hx3)
 clear hwh hV hx3
 go_wp2_with fail
 refine HWH.out.mono ?_
 rintro e w4 ⟨⟨hto,rfl⟩ | ⟨hto,v,rfl,hrow⟩,hx4⟩
 ·have HX4:=Lib.hid (HX3.out.trans' hx4)
  clear hx4
  go_wp2_with fail
  go_loopw [13,42] (fun v i wr=>v = .slice none 0 0 ∧ i = .int .i64 0 ∧ wr = w4) (fun _ _ _=>0)
  case atStart=>exact ⟨rfl,rfl,rfl⟩
  case round=>
   obtain ⟨rfl,rfl,rfl⟩:=hrel
   go_wp2_with fail
   refine bodyPost_ret (v:=.tuple #[.slice none 0 0,.int .i64 5]) (by simp [results,Tryz.results14,go_sem]) rfl ?_
   exact ⟨HX4.out,.inr (.inl ⟨hto,rfl⟩)⟩
 obtain ⟨l,hl⟩ : ∃ l,wholesV hf = l:=⟨_,rfl⟩
 rw [hl] at hrow HLIKE hwl
 obtain ⟨lp',lc',rfl⟩:=owns_form hrow
 have hel : ∀ (j : Nat) t,l[j]? = some t → ∃ g,lp' = some ⟨g,0,none⟩ ∧ w4.cell? ⟨g,j,none⟩ = some (encStr t):=fun j t ht=>by
  have hlt:=(List.getElem?_eq_some_iff.1 ht).1
  rcases hrow.2 with ⟨_,h0⟩ | ⟨g,cap,cur,he,_,hgg,_,_,_,ht'⟩
  ·omega
  ·simp only [Value.slice.injEq] at he
   refine ⟨g,he.1,?_⟩
   rw [cell_of hgg]
   have h2 : (l.map encStr)[j]? = some (encStr t):=by rw [List.getElem?_map,ht];rfl
   rw [← ht',List.getElem?_take] at h2
   split at h2
   ·simpa using h2
   ·cases h2
 have HX4:=Lib.hid (HX3.out.trans' hx4)
 have HSB4:=Lib.hid (HS.out sb w3 w4 HSB3.out hx4)
 have HV4:=Lib.hid (HVW.out.ext hx4)
 have HEL:=Lib.hid hel
 have HL:=Lib.hid hl
 have HTO:=Lib.hid hto
 clear hx4 hrow hel hl hto
 go_wp2_with fail
 go_loopw [13,42] (fun v i wr=>∃ (j : Nat) (ks : List Int),j ≤ l.length ∧ i = .int .i64 j ∧ Ext w4 wr ∧ KsOk LK (l.take j) ks ∧ wr.ownsRow w4.heap.size 64 2 v (matchL (l.take j) ks).length ((matchL (l.take j) ks).flatMap matchCells)) (fun _ i _=>l.length - (intOf i).toNat)
 case atStart=>exact ⟨0,[],Nat.zero_le _,rfl,ext_refl _,⟨rfl,fun i t k h=>by simp at h⟩,World.ownsRow_nil _ _ _ _⟩
 case round=>
  obtain ⟨j,ks,hj,rfl,hx,hks,hrow⟩:=hrel
  have HXR:=Lib.hid hx
  have HXW:=Lib.hid (HX4.out.trans' hx)
  have HKS:=Lib.hid hks
  obtain ⟨op,oc,rfl⟩:=owns_form hrow
  have HROW:=Lib.hid hrow
  by_cases hlt : j < l.length
  ·obtain ⟨t,ht⟩ : ∃ t,l[j]? = some t:=⟨_,List.getElem?_eq_getElem hlt⟩
   obtain ⟨tb,rfl,hct0⟩:=HEL.out j t ht
   have hct : wr.cell? ⟨tb,j,none⟩ = some (encStr t):=hx.cell' hct0
   rw [show encStr t = .string (ofBytes t) from rfl] at hct
   have htk : l.take (j + 1) = l.take j ++ [t]:=by rw [List.take_add_one,ht];rfl
   have hcall:=HLIKE.out wr sb _ vb sv mp mk mf md lp lk lf ld t HXW.out (HS.out sb w4 wr HSB4.out hx) (HV4.out.ext hx) (List.mem_of_getElem? ht)
   obtain ⟨s,hs⟩ : ∃ s,ofBytes t = s:=⟨_,rfl⟩
   rw [hs] at hct hcall
   have hle : (matchL (l.take j) ks).length ≤ 600:=by
    have h1:=matchL_le (l.take j) ks
    rw [List.length_take] at h1
    omega
   have HTK:=Lib.hid htk
   have HSE:=Lib.hid hs
   have HCALL:=Lib.hid hcall
   clear htk hs hcall hx hks hrow hct0 ht
   go_wp2_with fail
   refine HCALL.out.mono ?_
   rintro e w5 ⟨k,rfl,hk,hx5⟩
   have hk13:=hk.2
   have hms:=matchL_snoc (l.take j) t ks k HKS.out.1
   rw [← HTK.out] at hms
   have hks' : Hid (KsOk LK (l.take (j + 1)) (ks ++ [k])):=by
    rw [HTK.out]
    exact HKS.out.snoc (by rw [HSE.out];exact hk)
   have HMS:=Lib.hid hms
   have HX5:=Lib.hid (HXR.out.trans' hx5)
   have HROW5:=Lib.hid (owns_keep HROW.out fun g cs _ hgg=>hx5.block g (heap_lt hgg))
   have hsz5:=(HXR.out.trans' hx5).size
   clear hms hx5 hk hct
   by_cases hk3 : k = 3
   ·subst hk3
    go_wp2_with fail
    refine ⟨⟨j + 1,ks ++ [3],by omega,rfl,HX5.out,hks'.out,?_⟩,by simp [intOf];omega⟩
    have h2:=HMS.out
    rw [if_pos trivial] at h2
    rw [h2];exact HROW5.out
   ·have hk3' : (k != 3) = true:=by rw [bne_iff_ne];exact hk3
    obtain ⟨W9,hW9⟩ : ∃ W9,W9 = w5.alloc (.cells #[.string s,.int .u8 k] 64 (0,0)):=⟨_,rfl⟩
    have hx9 : Ext w5 W9:=by rw [hW9];exact bel
    have hb9 : W9.heap[w5.heap.size]? = some (.cells #[.string s,.int .u8 k] 64 (0,0)):=by rw [hW9];simp only [heap_drawn_get,heap_drew_get,heap_setCell_get,heap_alloc_get,World.size_alloc,World.size_setCell,size_drawn,putObj_get,putObj_size];(repeat (first | rw [if_pos trivial] | rw [if_pos rfl] | rw [if_neg (by omega)] | rw [if_pos (by omega)]))
    have hrow9:=owns_keep HROW5.out fun g cs _ hgg=>hx9.block g (heap_lt hgg)
    obtain ⟨v',w10,happ,hrow',hgrow⟩:=append_match (row:=[.string s,.int .u8 k]) hrow9 w5.heap.size 1 rfl (fun k u hj=>by rw [Nat.zero_add,cell_of hb9 k,List.getElem?_toArray];exact hj) (fun u hu=>by simp at hu;rcases hu with rfl | rfl <;> rfl) (by omega) (Nat.le_trans hsz5 hx9.size) 1
    have hx10 : Ext w4 w10:=(HX5.out.trans' hx9).grown hgrow (Nat.le_trans HX5.out.size hx9.size) fun k hk=>(owns_block hrow9 hk).1
    rw [hW9] at happ
    have HAPP:=Lib.hid happ
    have HX10:=Lib.hid hx10
    have HROW':=Lib.hid hrow'
    clear hW9 hx9 hb9 hrow9 happ hrow' hgrow hx10
    go_wp2_with (at_builtin;refine wpList_append_run rfl _ _ 55 rfl rfl rfl HAPP.out ?_)
    refine ⟨⟨j + 1,ks ++ [k],by omega,rfl,HX10.out,hks'.out,?_⟩,by simp [intOf];omega⟩
    have h2:=HMS.out
    rw [if_neg hk3] at h2
    rw [h2,List.length_append,List.flatMap_append,List.flatMap_cons,List.flatMap_nil,List.append_nil,show matchCells (t,k) = [.string s,.int .u8 k] from congrArg (fun z=>[Value.string z,.int .u8 k]) HSE.out]
    exact HROW'.out
  ·obtain rfl : j = l.length:=by omega
   have hta : l.take l.length = l:=List.take_length
   clear hx hks hrow
   go_wp2_with fail
   refine bodyPost_ret (v:=.tuple #[.slice op (matchL (l.take l.length) ks).length oc,.int .i64 0]) (by simp [results,Tryz.results14,go_sem]) rfl ?_
   refine ⟨HXW.out,.inr (.inr ⟨HTO.out,_,ks,rfl,?_,?_⟩)⟩
   ·rw [HL.out,← hta];exact HKS.out
   ·rw [HL.out]
    have h1:=owns_low HROW.out HX4.out.size
    rw [hta] at h1 ⊢
    exact h1
end Go.Proofs.YtihfcjioilmmjaaGreat
namespace Go.Proofs.YtihfcjioilmmjaaGreat
open Go Go.RowKit
open Go.Lib Go.Sort Go.Maps Go.Shelf Go.Proofs
def LikeRel (hf : List (Int × FR)) (s : ByteArray) (bad : Prop) (LK : ByteArray → Int → Prop) (w : World) (r : Ending) (w' : World) : Prop:=
 Ext w w' ∧ ((nm s = false ∧ r = .returned (.tuple #[.int .u8 0,.int .i64 2])) ∨ (nm s = true ∧ bad ∧ r = .returned (.tuple #[.int .u8 0,.int .i64 113])) ∨
  (nm s = true ∧ 12 < (partsV hf s).length ∧ r = .returned (.tuple #[.int .u8 0,.int .i64 5])) ∨
  (nm s = true ∧ (partsV hf s).length ≤ 12 ∧ ∃ k,r = .returned (.tuple #[.int .u8 k,.int .i64 0]) ∧ LK s k ∧ 1 ≤ k ∧ k ≤ 3))
set_option maxHeartbeats 4000000 in
set_option maxRecDepth 100000 in
theorem like_any {B : Nat} {w : World} {rb : Nat} {R : Rec} {cm : Nat} {vv fv : Value} {os : List (Option Nat × Option Nat)} {xs : List (List Value)} (h : RecAt B w rb R cm vv fv os xs) (hg : Glob w) {iv : Nat} {ver : Ver} (hv : R.vers[iv]? = some ver) (s : ByteArray) (hs : s.size ≤ maxLen)
  (x0 : Int) (x1 : ByteArray) (p2 : Option Addr) (n2 c2 : Nat) (x3 x4 : Int) (p5 : Option Addr) (n5 c5 : Nat) (p6 : Option Addr) (n6 c6 : Nat) (S : Nat → World → Prop) (hS : ∀ sb W W',S sb W → Ext W W' → S sb W') (bad : Prop) (LK : ByteArray → Int → Prop)
  (hread : ∀ W,Ext w W → Calls Tryz.prog 47 #[encP rb,.agg #[.int .u8 x0,.string x1,.slice p2 n2 c2,.int .i64 x3,.int .i64 x4,.slice p5 n5 c5,.slice p6 n6 c6]] W (ReadRel S bad W))
  (hlike : ∀ (W : World) (sb B2 vb : Nat) (sv : Value) (mp mk mf md : Nat) (lp : List (ByteArray × Value)) (lk lf ld : List ((ByteArray × Nat) × Value)),Ext w W → S sb W → ViewAt B2 W vb (heldF R ver) sv mp mk mf md lp lk lf ld → nm s = true → (partsV (heldF R ver) s).length ≤ 12 →
   Calls Tryz.prog 49 #[.pointer (some ⟨vb,0,none⟩),.string s,.pointer (some ⟨sb,0,none⟩)] W fun e w'=>∃ k,e = .returned (.int .u8 k) ∧ (LK s k ∧ 1 ≤ k ∧ k ≤ 3) ∧ Ext W w') :
  Calls Tryz.prog 17 #[encP rb,.int .i64 (iv : Int),.string s,.agg #[.int .u8 x0,.string x1,.slice p2 n2 c2,.int .i64 x3,.int .i64 x4,.slice p5 n5 c5,.slice p6 n6 c6]] w fun r w'=>LikeRel (heldF R ver) s bad LK w r w':=by
 have hvm : ver ∈ R.vers:=List.mem_of_getElem? hv
 have hsl:=subsV_len _ (held_len h.ok hvm)
 obtain ⟨vp,vc,rfl⟩:=owns_form h.vers
 obtain ⟨W1,hW1⟩ : ∃ W1,W1 = w.alloc (.cells #[.int .u8 x0,.string x1,.slice p2 n2 c2,.int .i64 x3,.int .i64 x4,.slice p5 n5 c5,.slice p6 n6 c6] 31 (0,0)):=⟨_,rfl⟩
 have hx1 : Ext w W1:=by rw [hW1];exact bel
 have hb1 : W1.heap[w.heap.size]? = some (.cells #[.int .u8 x0,.string x1,.slice p2 n2 c2,.int .i64 x3,.int .i64 x4,.slice p5 n5 c5,.slice p6 n6 c6] 31 (0,0)):=by rw [hW1];simp only [heap_drawn_get,heap_drew_get,heap_setCell_get,heap_alloc_get,World.size_alloc,World.size_setCell,size_drawn,putObj_get,putObj_size];(repeat (first | rw [if_pos trivial] | rw [if_pos rfl] | rw [if_neg (by omega)] | rw [if_pos (by omega)]))
 have hr1 : W1.cell? ⟨rb,1,none⟩ = some (.slice vp R.vers.length vc):=hx1.cell' (cell_of h.blk 1)
 have hck:=checkVersion_any rb vp R.vers.length vc (iv : Int) W1 hr1
 have hi : iv < R.vers.length:=(List.getElem?_eq_some_iff.1 hv).1
 rw [show (if decide (0 ≤ (iv : Int)) && decide ((iv : Int) < (R.vers.length : Int)) then (0 : Int) else 110) = 0 by simp [hi]] at hck
 have hrd:=hread W1 hx1
 have hnm:=isName_any s W1 hs
 obtain ⟨b,hb⟩ : ∃ b,nm s = b:=⟨_,rfl⟩
 rw [hb] at hnm
 have HB:=Lib.hid hb
 have d0:=cell_of hb1 0
 have d1:=cell_of hb1 1
 have d2:=cell_of hb1 2
 have d3:=cell_of hb1 3
 have d4:=cell_of hb1 4
 have d5:=cell_of hb1 5
 have d6:=cell_of hb1 6
 have HCK:=Lib.hid hck
 have HRD:=Lib.hid hrd
 have HNM:=Lib.hid hnm
 have HREC:=Lib.hid h
 have HGLB:=Lib.hid hg
 have HV:=Lib.hid hv
 have HS:=Lib.hid hS
 have HLIKE:=Lib.hid hlike
 have HX1:=Lib.hid hx1
 have HSL:=Lib.hid hsl
 obtain ⟨hf,hhf⟩ : ∃ hf,heldF R ver = hf:=⟨_,rfl⟩
 rw [hhf] at HLIKE HSL ⊢
 have HHF:=Lib.hid hhf
 clear hck hrd h hg hv hS hlike hx1 hb1 hr1 hread hvm hsl hhf hi hnm hb
 unfold encP at *
 go_enter Tryz.func17,Tryz.ntmps17
 go_upto_region 1 with fail
 rw [← hW1]
 clear hW1
 go_wp2_with fail
 refine HCK.out.mono ?_
 rintro e w1 ⟨rfl,rfl⟩
 go_wp2_with fail
 refine HNM.out.mono ?_
 rintro e w1 ⟨rfl,rfl⟩
 cases b with
 | false=>
  go_wp2_with fail
  refine bodyPost_ret (v:=.tuple #[.int .u8 0,.int .i64 2]) (by simp [results,Tryz.results17,go_sem]) rfl ?_
  exact ⟨HX1.out,.inl ⟨HB.out,rfl⟩⟩
 | true=>
  go_wp2_with fail
  refine HRD.out.mono ?_
  rintro e w2 ⟨hx2,⟨hbad,rfl⟩ | ⟨sb,rfl,hsb⟩⟩
  ·go_wp2_with fail
   refine bodyPost_ret (v:=.tuple #[.int .u8 0,.int .i64 113]) (by simp [results,Tryz.results17,go_sem]) rfl ?_
   exact ⟨HX1.out.trans' hx2,.inr (.inl ⟨HB.out,hbad,rfl⟩)⟩
  have HX2:=Lib.hid (HX1.out.trans' hx2)
  have HSB:=Lib.hid hsb
  have hlook:=look_any (HREC.out.ext HX2.out) (HGLB.out.ext HX2.out) HV.out
  unfold encP at hlook
  rw [HHF.out] at hlook
  have HLOOK:=Lib.hid hlook
  clear hx2 hsb hlook d0 d1 d2 d3 d4 d5 d6
  go_wp2_with fail
  refine HLOOK.out.mono ?_
  rintro e w3 ⟨vb,sv,mp,mk,mf,md,lp,lk,lf,ld,rfl,hV,hx3⟩
  obtain ⟨pp,pc,_,hpl⟩:=hV.partLook s
  have hlk:=hpl w3 (ext_refl _)
  have hpn : (partsV hf s).length ≤ 600:=by
   have h1 : (partsV hf s).length ≤ (subsV hf).length:=List.length_filter_le _ _
   have:=HSL.out
   omega
  obtain ⟨pn,hpe⟩ : ∃ pn,(partsV hf s).length = pn:=⟨_,rfl⟩
  rw [hpe] at hlk hpn
  have HPE:=Lib.hid hpe
  have v1:=cell_of hV.view 1
  have HVW:=Lib.hid hV
  have HX3:=Lib.hid (HX2.out.trans' hx3)
  have HSB3:=Lib.hid (HS.out sb w2 w3 HSB.out hx3)
  clear hV hx3 hpl hpe
  by_cases h12 : 12 < pn
  ·go_wp2_with fail
   refine bodyPost_ret (v:=.tuple #[.int .u8 0,.int .i64 5]) (by simp [results,Tryz.results17,go_sem]) rfl ?_
   exact ⟨HX3.out,.inr (.inr (.inl ⟨HB.out,by rw [HPE.out];exact h12,rfl⟩))⟩
  ·have hcall:=HLIKE.out w3 sb _ vb sv mp mk mf md lp lk lf ld HX3.out HSB3.out HVW.out HB.out (by rw [HPE.out];omega)
   have HCALL:=Lib.hid hcall
   clear hcall
   go_wp2_with fail
   refine HCALL.out.mono ?_
   rintro e w5 ⟨k,rfl,hk,hx5⟩
   have HK:=Lib.hid hk
   have HX5:=Lib.hid (HX3.out.trans' hx5)
   clear hk hx5
   go_wp2_with fail
   refine bodyPost_ret (v:=.tuple #[.int .u8 k,.int .i64 0]) (by simp [results,Tryz.results17,go_sem]) rfl ?_
   exact ⟨HX5.out,.inr (.inr (.inr ⟨HB.out,by rw [HPE.out];omega,k,rfl,HK.out⟩))⟩
end Go.Proofs.YtihfcjioilmmjaaGreat
namespace Go.Proofs.YtihfcjioilmmjaaGreat
open Go Go.RowKit
open Go.Lib Go.Sort Go.Maps Go.Shelf Go.Proofs
def Grid (smp : Nat → List Int) (cols : List Nat) (ρ : Nat → Int) : Prop:=(∀ d ∈ cols,ρ d ∈ smp d) ∧ ∀ d,d ∉ cols → ρ d = 0
def outs1 (smp : Nat → List Int) (φ : (Nat → Int) → Bool) (cols : List Nat) : List Nat:=(runW smp (fun ρ=>bitsK [φ ρ] 1) cols (fun _=>0,[])).2
theorem outs1_one {smp : Nat → List Int} {φ : (Nat → Int) → Bool} {cols : List Nat} (hn : cols.Nodup) : 1 ∈ outs1 smp φ cols ↔ ∃ ρ,Grid smp cols ρ ∧ φ ρ = true:=by
 unfold outs1
 rw [runW_mem hn]
 constructor
 ·rintro ⟨ρ,h1,h2,h3⟩
  refine ⟨ρ,⟨h1,h2⟩,?_⟩
  rw [bitsK_one] at h3
  cases h : φ ρ with
  | true=>rfl
  | false=>rw [h] at h3;simp at h3
 ·rintro ⟨ρ,⟨h1,h2⟩,h3⟩
  exact ⟨ρ,h1,h2,by rw [bitsK_one,h3];rfl⟩
theorem outs1_zero {smp : Nat → List Int} {φ : (Nat → Int) → Bool} {cols : List Nat} (hn : cols.Nodup) : 0 ∈ outs1 smp φ cols ↔ ∃ ρ,Grid smp cols ρ ∧ φ ρ = false:=by
 unfold outs1
 rw [runW_mem hn]
 constructor
 ·rintro ⟨ρ,h1,h2,h3⟩
  refine ⟨ρ,⟨h1,h2⟩,?_⟩
  rw [bitsK_one] at h3
  cases h : φ ρ with
  | false=>rfl
  | true=>rw [h] at h3;simp at h3
 ·rintro ⟨ρ,⟨h1,h2⟩,h3⟩
  exact ⟨ρ,h1,h2,by rw [bitsK_one,h3];rfl⟩
theorem outs1_sub {smp : Nat → List Int} {φ : (Nat → Int) → Bool} {cols : List Nat} (hn : cols.Nodup) : ∀ x ∈ outs1 smp φ cols,x = 0 ∨ x = 1:=fun x hx=>by
 obtain ⟨ρ,_,_,rfl⟩:=(runW_mem hn x).1 hx
 rw [bitsK_one]
 split <;> simp
theorem outs1_nodup {smp : Nat → List Int} {φ : (Nat → Int) → Bool} {cols : List Nat} : (outs1 smp φ cols).Nodup:=runW_nodup _ _ _ _ List.nodup_nil
theorem outs1_len {smp : Nat → List Int} {φ : (Nat → Int) → Bool} {cols : List Nat} (hn : cols.Nodup) (h1 : 1 ∈ outs1 smp φ cols) : (outs1 smp φ cols).length = 1 ↔ 0 ∉ outs1 smp φ cols:=by
 obtain ⟨l,hl⟩ : ∃ l,outs1 smp φ cols = l:=⟨_,rfl⟩
 have hs:=outs1_sub (smp:=smp) (φ:=φ) hn
 have hnd:=outs1_nodup (smp:=smp) (φ:=φ) (cols:=cols)
 rw [hl] at h1 hs hnd ⊢
 constructor
 ·intro h h0
  obtain ⟨x,rfl⟩:=List.length_eq_one_iff.1 h
  have e1:=List.mem_singleton.1 h1
  have e2:=List.mem_singleton.1 h0
  omega
 ·intro h0
  have h2:=nodup_sub (m:=[1]) hnd fun x hx=>by
   rcases hs x hx with rfl | rfl
   ·exact absurd hx h0
   ·simp
  have h3:=List.length_pos_of_mem h1
  simp at h2
  omega
theorem likeK_spec {smp : Nat → List Int} {φ : (Nat → Int) → Bool} {cols : List Nat} (hn : cols.Nodup) :
  (likeK (outs1 smp φ cols) = 3 ∧ ∀ ρ,Grid smp cols ρ → φ ρ = false) ∨ (likeK (outs1 smp φ cols) = 1 ∧ (∃ ρ,Grid smp cols ρ) ∧ ∀ ρ,Grid smp cols ρ → φ ρ = true) ∨
  (likeK (outs1 smp φ cols) = 2 ∧ (∃ ρ,Grid smp cols ρ ∧ φ ρ = true) ∧ ∃ ρ,Grid smp cols ρ ∧ φ ρ = false):=by
 unfold likeK
 by_cases h1 : 1 ∈ outs1 smp φ cols
 ·rw [if_pos h1]
  obtain ⟨ρ,hg,hf⟩:=(outs1_one hn).1 h1
  by_cases h0 : 0 ∈ outs1 smp φ cols
  ·rw [if_neg fun h=>(outs1_len hn h1).1 h h0]
   exact .inr (.inr ⟨rfl,⟨ρ,hg,hf⟩,(outs1_zero hn).1 h0⟩)
  ·rw [if_pos ((outs1_len hn h1).2 h0)]
   refine .inr (.inl ⟨rfl,⟨ρ,hg⟩,fun ρ' hg'=>?_⟩)
   cases h : φ ρ' with
   | true=>rfl
   | false=>exact absurd ((outs1_zero hn).2 ⟨ρ',hg',h⟩) h0
 ·rw [if_neg h1]
  refine .inl ⟨rfl,fun ρ hg=>?_⟩
  cases h : φ ρ with
  | false=>rfl
  | true=>exact absurd ((outs1_one hn).2 ⟨ρ,hg,h⟩) h1
theorem likeK_range (l : List Nat) : 1 ≤ likeK l ∧ likeK l ≤ 3:=by unfold likeK;split <;> (try split) <;> omega
theorem sorted_ext : ∀ {l m : List Int},l.Pairwise (· < ·) → m.Pairwise (· < ·) → (∀ n,n ∈ l ↔ n ∈ m) → l = m
 | [],[],_,_,_=>rfl
 | [],b :: m,_,_,h=>by have:=(h b).2 List.mem_cons_self;cases this
 | a :: l,[],_,_,h=>by have:=(h a).1 List.mem_cons_self;cases this
 | a :: l,b :: m,h1,h2,h=>by
  obtain ⟨ha,hl⟩:=List.pairwise_cons.1 h1
  obtain ⟨hb,hm⟩:=List.pairwise_cons.1 h2
  have hab : a = b:=by
   rcases List.mem_cons.1 ((h a).1 List.mem_cons_self) with h3 | h3
   ·exact h3
   ·rcases List.mem_cons.1 ((h b).2 List.mem_cons_self) with h4 | h4
    ·exact h4.symm
    ·have:=hb a h3;have:=ha b h4;omega
  subst hab
  congr 1
  refine sorted_ext hl hm fun n=>⟨fun hn=>?_,fun hn=>?_⟩
  ·rcases List.mem_cons.1 ((h n).1 (List.mem_cons_of_mem _ hn)) with rfl | h3
   ·have:=ha n hn;omega
   ·exact h3
  ·rcases List.mem_cons.1 ((h n).2 (List.mem_cons_of_mem _ hn)) with rfl | h3
   ·have:=hb n hn;omega
   ·exact h3
theorem holds_added {v : Ver} {n : Int} (h : v.holds n = true) : (look v.added n).isSome = true:=by
 unfold Ver.holds at h
 simp only [Bool.and_eq_true] at h
 exact h.1
theorem heldV_mem (v : Ver) (n : Int) : n ∈ heldV v ↔ v.holds n = true:=by
 unfold heldV
 rw [List.mem_filter,List.mem_mergeSort]
 exact ⟨fun h=>h.2,fun h=>⟨look_isSome_iff.1 (holds_added h),h⟩⟩
theorem heldV_sorted (v : Ver) (h : (v.added.map (·.1)).Nodup) : (heldV v).Pairwise (· < ·):=by
 unfold heldV
 refine List.Pairwise.filter _ ?_
 have h1 : ((v.added.map (·.1)).mergeSort (fun x y=>decide (x ≤ y))).Pairwise (fun a b : Int=>a ≤ b):=by
  have:=List.pairwise_mergeSort (le:=fun x y : Int=>decide (x ≤ y)) (fun a b c h1 h2=>by simp at *;omega) (fun a b=>by simp;omega) (v.added.map (·.1))
  exact List.Pairwise.imp (fun h=>by simpa using h) this
 have h2 : ((v.added.map (·.1)).mergeSort (fun x y=>decide (x ≤ y))).Nodup:=(List.mergeSort_perm _ _).nodup_iff.2 h
 exact (h1.and h2).imp fun ⟨a,b⟩=>by omega
end Go.Proofs.YtihfcjioilmmjaaGreat
namespace Go.Proofs.YtihfcjioilmmjaaGreat
open Go Go.RowKit
open Go.Lib Go.Sort Go.Maps Go.Shelf Go.Proofs
def LK0 (R : Rec) (hf : List (Int × FR)) (q : Qn) (s : ByteArray) (k : Int) : Prop:=∃ (smp : Nat → List Int) (cols : List Nat),cols.Nodup ∧ (∀ c,c ∈ cols ↔ (q.marks c).isSome = true) ∧ (∀ a c,(a,c) ∈ R.cols → smp c = sampF a (ofV hf (s,c) a) ((q.marks c).getD [])) ∧ k = likeK (outs1 smp q.φ cols)
def smpOf (R : Rec) (hf : List (Int × FR)) (s : ByteArray) (μ : Nat → Option (List Int)) (c : Nat) : List Int:=match R.cols.find? fun x=>decide (x.2 = c) with
 | none=>[]
 | some x=>sampF x.1 (ofV hf (s,c) x.1) ((μ c).getD [])
theorem smpOf_at {B : Nat} {w : World} {rb : Nat} {R : Rec} {cm : Nat} {vv fv : Value} {os : List (Option Nat × Option Nat)} {xs : List (List Value)} (h : RecAt B w rb R cm vv fv os xs) (hf : List (Int × FR)) (s : ByteArray) (μ : Nat → Option (List Int)) {a : Attr} {c : Nat} (hc : (a,c) ∈ R.cols) :
  smpOf R hf s μ c = sampF a (ofV hf (s,c) a) ((μ c).getD []):=by
 unfold smpOf
 cases hfi : R.cols.find? fun x=>decide (x.2 = c) with
 | none=>exact absurd (List.find?_eq_none.1 hfi (a,c) hc) (by simp)
 | some x=>
  have h1:=List.find?_some hfi
  have h2:=List.mem_of_find?_eq_some hfi
  obtain ⟨a',c'⟩:=x
  obtain rfl : c' = c:=by simpa using h1
  rw [cols_unique h h2 hc]
theorem readF0_ask {R : Rec} {e : Exp} {q : Qn} (h : readF0 R e = some q) : askF R e = some q ∧ q.size ≤ 30:=by
 unfold readF0 at h
 cases ha : askF R e with
 | none=>rw [ha] at h;cases h
 | some q'=>
  rw [ha] at h
  simp only at h
  split at h
  ·rename_i hq
   obtain rfl:=Option.some.inj h
   exact ⟨rfl,hq.1⟩
  ·cases h
def Srch0 (R : Rec) (q : Qn) (sb : Nat) (W : World) : Prop:=∃ Bq hi qb tv mb lm,QAt Bq hi R W qb q tv mb lm ∧ W.heap[sb]? = some (.cells #[.pointer (some ⟨qb,0,none⟩),.slice none 0 0] 163 (0,0))
theorem Srch0.ext {R : Rec} {q : Qn} {sb : Nat} {W W' : World} (h : Srch0 R q sb W) (hx : Ext W W') : Srch0 R q sb W':=let ⟨a,b,c,d,e,f,h1,h2⟩:=h;⟨a,b,c,d,e,f,h1.ext hx,hx.obj h2⟩
theorem like0_srch {B : Nat} {w : World} {rb : Nat} {R : Rec} {cm : Nat} {vv fv : Value} {os : List (Option Nat × Option Nat)} {xs : List (List Value)} (h : RecAt B w rb R cm vv fv os xs) {ver : Ver} (hvm : ver ∈ R.vers) {e : Exp} {q : Qn} (hr : readF0 R e = some q) {W : World} (hx : Ext w W) {sb B2 vb : Nat} {sv : Value} {mp mk mf md : Nat} {lp : List (ByteArray × Value)} {lk lf ld : List ((ByteArray × Nat) × Value)}
  (hs : Srch0 R q sb W) (hV : ViewAt B2 W vb (heldF R ver) sv mp mk mf md lp lk lf ld) (s : ByteArray) (hp : partsV (heldF R ver) s = []) :
  Calls Tryz.prog 49 #[.pointer (some ⟨vb,0,none⟩),.string s,.pointer (some ⟨sb,0,none⟩)] W fun e w'=>∃ k,e = .returned (.int .u8 k) ∧ (LK0 R (heldF R ver) q s k ∧ 1 ≤ k ∧ k ≤ 3) ∧ Ext W w':=by
 obtain ⟨Bq,hi,qb,tv,mb,lm,hq,hsb⟩:=hs
 obtain ⟨ha,hz⟩:=readF0_ask hr
 have hm:=fun (y : Int × FR) (hy : y ∈ heldF R ver)=>heldF_mem h.ok hvm hy
 have hsm:=fun a c (hc : (a,c) ∈ R.cols)=>smpOf_at h (heldF R ver) s q.marks hc
 refine (like0_any (h.ext hx) hV (fun y hy=>(h.ok.fact _ (hm y hy)).1) (fun y hy=>(h.ok.fact _ (hm y hy)).2.2.2.1) hq sb hsb (fun c l hl=>by
  have:=(askF_ok R e q ha).2 c l hl
  omega) s hp (smpOf R (heldF R ver) s q.marks) hsm).mono ?_
 rintro e' w' ⟨cols,rfl,hn,hk,hx'⟩
 exact ⟨_,rfl,⟨⟨_,cols,hn,hk,hsm,rfl⟩,likeK_range _⟩,hx'⟩
theorem read0_rel {B : Nat} {w : World} {rb : Nat} {R : Rec} {cm : Nat} {vv fv : Value} {os : List (Option Nat × Option Nat)} {xs : List (List Value)} (h : RecAt B w rb R cm vv fv os xs) {x0 : Int} {x1 : ByteArray} {p2 : Option Addr} {n2 c2 : Nat} {x3 x4 : Int} {p5 : Option Addr} {n5 c5 : Nat} {e : Exp} (he : ExpAt w [.int .u8 x0,.string x1,.slice p2 n2 c2,.int .i64 x3,.int .i64 x4,.slice p5 n5 c5] e) (hn : e.nodes ≤ 1000) (p6 : Option Addr) (c6 : Nat) {q : Qn} (hr : readF0 R e = some q) :
  ∀ W,Ext w W → Calls Tryz.prog 47 #[encP rb,.agg #[.int .u8 x0,.string x1,.slice p2 n2 c2,.int .i64 x3,.int .i64 x4,.slice p5 n5 c5,.slice p6 0 c6]] W (ReadRel (Srch0 R q) False W):=by
 intro W hx
 refine (read0_any (h.ext hx) (he.ext hx) hn p6 c6).mono ?_
 rintro r w' ⟨hx',⟨hno,_⟩ | ⟨q',sb,qb,tv,mb,lm,hq',rfl,hq,hsb⟩⟩
 ·rw [hr] at hno;cases hno
 ·rw [hr] at hq'
  obtain rfl:=Option.some.inj hq'
  exact ⟨hx',.inr ⟨sb,rfl,_,_,_,_,_,_,hq,hsb⟩⟩
theorem query0_any {B : Nat} {w : World} {rb : Nat} {R : Rec} {cm : Nat} {vv fv : Value} {os : List (Option Nat × Option Nat)} {xs : List (List Value)} (h : RecAt B w rb R cm vv fv os xs) (hg : Glob w) {iv : Nat} {ver : Ver} (hv : R.vers[iv]? = some ver) {x0 : Int} {x1 : ByteArray} {p2 : Option Addr} {n2 c2 : Nat} {x3 x4 : Int} {p5 : Option Addr} {n5 c5 : Nat} {e : Exp} (he : ExpAt w [.int .u8 x0,.string x1,.slice p2 n2 c2,.int .i64 x3,.int .i64 x4,.slice p5 n5 c5] e) (hn : e.nodes ≤ 1000) (p6 : Option Addr) (c6 : Nat) {q : Qn} (hr : readF0 R e = some q) (hp : ∀ t ∈ wholesV (heldF R ver),partsV (heldF R ver) (ofBytes t) = []) :
  Calls Tryz.prog 14 #[encP rb,.int .i64 (iv : Int),.agg #[.int .u8 x0,.string x1,.slice p2 n2 c2,.int .i64 x3,.int .i64 x4,.slice p5 n5 c5,.slice p6 0 c6]] w fun r w'=>QueryRel (heldF R ver) False (LK0 R (heldF R ver) q) w r w':=
 query_any h hg hv x0 x1 p2 n2 c2 x3 x4 p5 n5 c5 p6 0 c6 (Srch0 R q) (fun _ _ _ h hx=>h.ext hx) False _ (read0_rel h he hn p6 c6 hr) fun _ _ _ _ _ _ _ _ _ _ _ _ _ t hx hs hV ht=>like0_srch h (List.mem_of_getElem? hv) hr hx hs hV (ofBytes t) (hp t ht)
theorem likes0_any {B : Nat} {w : World} {rb : Nat} {R : Rec} {cm : Nat} {vv fv : Value} {os : List (Option Nat × Option Nat)} {xs : List (List Value)} (h : RecAt B w rb R cm vv fv os xs) (hg : Glob w) {iv : Nat} {ver : Ver} (hv : R.vers[iv]? = some ver) (s : ByteArray) (hs : s.size ≤ maxLen) {x0 : Int} {x1 : ByteArray} {p2 : Option Addr} {n2 c2 : Nat} {x3 x4 : Int} {p5 : Option Addr} {n5 c5 : Nat} {e : Exp} (he : ExpAt w [.int .u8 x0,.string x1,.slice p2 n2 c2,.int .i64 x3,.int .i64 x4,.slice p5 n5 c5] e) (hn : e.nodes ≤ 1000) (p6 : Option Addr) (c6 : Nat) {q : Qn} (hr : readF0 R e = some q) (hp : partsV (heldF R ver) s = []) :
  Calls Tryz.prog 17 #[encP rb,.int .i64 (iv : Int),.string s,.agg #[.int .u8 x0,.string x1,.slice p2 n2 c2,.int .i64 x3,.int .i64 x4,.slice p5 n5 c5,.slice p6 0 c6]] w fun r w'=>LikeRel (heldF R ver) s False (LK0 R (heldF R ver) q) w r w':=
 like_any h hg hv s hs x0 x1 p2 n2 c2 x3 x4 p5 n5 c5 p6 0 c6 (Srch0 R q) (fun _ _ _ h hx=>h.ext hx) False _ (read0_rel h he hn p6 c6 hr) fun _ _ _ _ _ _ _ _ _ _ _ _ _ hx hs hV _ _=>like0_srch h (List.mem_of_getElem? hv) hr hx hs hV s hp
end Go.Proofs.YtihfcjioilmmjaaGreat
namespace Go.Proofs.YtihfcjioilmmjaaGreat
open Go Go.RowKit
open Go.Lib Go.Sort Go.Maps Go.Shelf Go.Proofs
def QIn (lo hi : Nat) (R : Rec) (W : World) (qb : Nat) (q : Qn) : Prop:=∃ W0 tv mb lm,QAt lo hi R W0 qb q tv mb lm ∧ W0.heap.size ≤ hi ∧ Btw lo hi W0 W
theorem QIn.move {lo hi : Nat} {R : Rec} {W W' : World} {qb : Nat} {q : Qn} (h : QIn lo hi R W qb q) (hx : Btw lo hi W W') : QIn lo hi R W' qb q:=
 let ⟨W0,tv,mb,lm,h1,h2,h3⟩:=h;⟨W0,tv,mb,lm,h1,h2,h3.trans hx⟩
theorem QIn.le {lo hi : Nat} {R : Rec} {W : World} {qb : Nat} {q : Qn} (h : QIn lo hi R W qb q) : hi ≤ W.heap.size:=let ⟨_,_,_,_,_,_,h3⟩:=h;h3.1
theorem QIn.at {lo hi : Nat} {R : Rec} {W : World} {qb : Nat} {q : Qn} (h : QIn lo hi R W qb q) : ∃ tv mb lm,QAt lo hi R W qb q tv mb lm:=by
 obtain ⟨W0,tv,mb,lm,h1,h2,h3⟩:=h
 exact ⟨tv,mb,lm,(h3.2 qb h1.bk.1 h1.bk.2.1).trans h1.blk,h1.test.move h3,h3.1,h1.bk,h1.marks.btw ⟨h1.bk.2.2.1,h1.bk.2.2.2⟩ h2 h3⟩
theorem QIn.of {lo : Nat} {R : Rec} {W : World} {qb : Nat} {q : Qn} {tv : Value} {mb : Nat} {lm : List (Nat × Value)} (h : QAt lo W.heap.size R W qb q tv mb lm) : QIn lo W.heap.size R W qb q:=
 ⟨W,tv,mb,lm,h,Nat.le_refl _,Nat.le_refl _,fun _ _ _=>rfl⟩
theorem owns_at {w w' : World} {base : Nat} {e : TypeId} {k : Nat} {v : Value} {n : Nat} {xs : List Value} (h : w.ownsRow base e k v n xs) (hk : ∀ g,v.ownBlock = some g → w'.heap[g]? = w.heap[g]?) : w'.ownsRow base e k v n xs:=by
 obtain ⟨hl,h⟩:=h
 refine ⟨hl,?_⟩
 rcases h with h | ⟨g,cap,cur,rfl,h2,h3,h4⟩
 ·exact .inl h
 ·exact .inr ⟨g,cap,cur,rfl,h2,(hk g rfl).trans h3,h4⟩
structure ReI (w : World) (R : Rec) (q0 : Qn) (qb0 sb ab N M : Nat) (qs : List Qn) (qbs : List Nat) (pv : Value) (la : List (Nat × Value)) (P : Nat → Prop) (wr : World) : Prop where
 ext : Ext w wr
 low : w.heap.size ≤ sb ∧ w.heap.size ≤ ab ∧ sb ≠ ab ∧ sb < N ∧ ab < N ∧ N ≤ M ∧ M ≤ wr.heap.size
 blk : wr.heap[sb]? = some (.cells #[.pointer (some ⟨qb0,0,none⟩),pv] 163 (0,0))
 own : ∃ hi,QIn w.heap.size hi R wr qb0 q0 ∧ hi ≤ sb ∧ hi ≤ ab
 row : wr.ownsRow N 158 1 pv qbs.length (qbs.map encP)
 top : ∀ g,pv.ownBlock = some g → g < M
 len : qs.length = qbs.length
 qat : ∀ (i : Nat) qb q,qbs[i]? = some qb → qs[i]? = some q → ∃ lo hi,QIn lo hi R wr qb q ∧ N ≤ lo ∧ hi ≤ M ∧ ∀ g,pv.ownBlock = some g → g < lo ∨ hi ≤ g
 map : MapIs encP wr ab la
 nodup : (la.map (·.1)).Nodup
 keys : ∀ x ∈ la,(∃ a,(a,x.1) ∈ R.cols) ∧ ∃ n : Int,x.2 = .int .i64 n
 marks : ∀ c,(look la c).isSome = true ↔ P c
theorem ReI.below {w : World} {R : Rec} {q0 : Qn} {qb0 sb ab N M : Nat} {qs : List Qn} {qbs : List Nat} {pv : Value} {la : List (Nat × Value)} {P : Nat → Prop} {wr W : World} (h : ReI w R q0 qb0 sb ab N M qs qbs pv la P wr) (hx : Below M wr W) : ReI w R q0 qb0 sb ab N M qs qbs pv la P W:=by
 obtain ⟨l1,l2,l3,l4,l5,l6,l7⟩:=h.low
 have hbt : ∀ lo hi,hi ≤ M → Btw lo hi wr W:=fun lo hi hh=>⟨Nat.le_trans hh (Nat.le_trans l7 hx.size),fun k _ hk=>hx.block k (by omega)⟩
 exact
  {ext:=Below.trans h.ext ⟨hx.os,hx.tape,hx.output,hx.size,fun k hk=>hx.block k (by omega)⟩
   low:=⟨l1,l2,l3,l4,l5,l6,Nat.le_trans l7 hx.size⟩
   blk:=(hx.block sb (by omega)).trans h.blk
   own:=let ⟨hi,k1,k2,k3⟩:=h.own;⟨hi,k1.move (hbt _ _ (by omega)),k2,k3⟩
   row:=owns_at h.row fun g hv=>hx.block g (h.top g hv)
   top:=h.top,len:=h.len
   qat:=fun i qb q hb hq=>let ⟨lo,hi,k1,k2,k3,k4⟩:=h.qat i qb q hb hq;⟨lo,hi,k1.move (hbt _ _ k3),k2,k3,k4⟩
   map:=(hx.block ab (by omega)).trans h.map
   nodup:=h.nodup,keys:=h.keys,marks:=h.marks }
theorem ReI.mark {w : World} {R : Rec} {q0 : Qn} {qb0 sb ab N M : Nat} {qs : List Qn} {qbs : List Nat} {pv : Value} {la : List (Nat × Value)} {P : Nat → Prop} {wr : World} (h : ReI w R q0 qb0 sb ab N M qs qbs pv la P wr) (c : Nat) (hc : ∃ a,(a,c) ∈ R.cols) (n : Int) : ReI w R q0 qb0 sb ab N M qs qbs pv (mput la c (.int .i64 n)) (fun d=>P d ∨ d = c) (wput encP wr ab (mput la c (.int .i64 n))):=by
 obtain ⟨l1,l2,l3,l4,l5,l6,l7⟩:=h.low
 have hsz : (wput encP wr ab (mput la c (.int .i64 n))).heap.size = wr.heap.size:=by unfold wput;rw [putObj_size]
 have hget : ∀ k,k ≠ ab → (wput encP wr ab (mput la c (.int .i64 n))).heap[k]? = wr.heap[k]?:=fun k hk=>by unfold wput;rw [putObj_get,if_neg hk]
 have hbt : ∀ lo hi,hi ≤ wr.heap.size → (hi ≤ ab ∨ N ≤ lo) → Btw lo hi wr (wput encP wr ab (mput la c (.int .i64 n))):=fun lo hi hh hd=>⟨by rw [hsz];exact hh,fun k _ hk=>hget k (by omega)⟩
 have hm:=h.map
 unfold MapIs at hm
 exact
  {ext:=Below.trans h.ext (by unfold wput;exact below_putObj (Below.refl _ _) l2 _)
   low:=⟨l1,l2,l3,l4,l5,l6,by rw [hsz];exact l7⟩
   blk:=(hget sb l3).trans h.blk
   own:=let ⟨hi,k1,k2,k3⟩:=h.own;⟨hi,k1.move (hbt _ _ k1.le (.inl k3)),k2,k3⟩
   row:=put_owns hm h.row
   top:=h.top,len:=h.len
   qat:=fun i qb q hb hq=>let ⟨lo,hi,k1,k2,k3,k4⟩:=h.qat i qb q hb hq;⟨lo,hi,k1.move (hbt _ _ k1.le (.inr k2)),k2,k3,k4⟩
   map:=wput_same (by omega)
   nodup:=nodup_mput h.nodup c _
   keys:=fun x hx=>(mput_mem la c _ x hx).elim (fun e=>by rw [e];exact ⟨hc,n,rfl⟩) fun e=>h.keys x e.1
   marks:=fun d=>by
    by_cases hd : d = c
    ·subst hd
     rw [look_mput_same]
     simp
    ·rw [look_mput_other _ _ _ _ hd,h.marks d]
     simp [hd] }
theorem info158 : (Tryz.prog.info? 158).map (fun i=>(i.zero,i.size,i.bytes)) = some (some (.pointer none),1,8):=by kernel_rfl
theorem ReI.push {w : World} {R : Rec} {q0 : Qn} {qb0 sb ab N M : Nat} {qs : List Qn} {qbs : List Nat} {pv : Value} {la : List (Nat × Value)} {P : Nat → Prop} {wr : World} (h : ReI w R q0 qb0 sb ab N M qs qbs pv la P wr) {lo qb : Nat} {q : Qn} (hq : QIn lo wr.heap.size R wr qb q) (hlo : M ≤ lo) (hk : qbs.length ≤ 1000) :
  ∃ pv' w',(Builtin.append_ #[161,161] 161 #[pv,.slice (some ⟨wr.heap.size,0,none⟩) 1 1]).run Tryz.prog (wr.alloc (.cells #[.pointer (some ⟨qb,0,none⟩)] 158 (0,0))) = .ok pv' w' ∧ w'.heap[sb]? = some (.cells #[.pointer (some ⟨qb0,0,none⟩),pv] 163 (0,0)) ∧ Below w.heap.size wr (w'.setCell ⟨sb,1,none⟩ pv') ∧ Btw lo wr.heap.size wr (w'.setCell ⟨sb,1,none⟩ pv') ∧
   ReI w R q0 qb0 sb ab N (w'.setCell ⟨sb,1,none⟩ pv').heap.size (qs ++ [q]) (qbs ++ [qb]) pv' la P (w'.setCell ⟨sb,1,none⟩ pv'):=by
 obtain ⟨l1,l2,l3,l4,l5,l6,l7⟩:=h.low
 obtain ⟨W9,hW9⟩ : ∃ W9,W9 = wr.alloc (.cells #[.pointer (some ⟨qb,0,none⟩)] 158 (0,0)):=⟨_,rfl⟩
 have hx9 : Ext wr W9:=by rw [hW9];exact bel
 have hb9 : W9.heap[wr.heap.size]? = some (.cells #[.pointer (some ⟨qb,0,none⟩)] 158 (0,0)):=by rw [hW9];simp only [heap_drawn_get,heap_drew_get,heap_setCell_get,heap_alloc_get,World.size_alloc,World.size_setCell,size_drawn,putObj_get,putObj_size];(repeat (first | rw [if_pos trivial] | rw [if_pos rfl] | rw [if_neg (by omega)] | rw [if_pos (by omega)]))
 have hs9 : W9.heap.size = wr.heap.size + 1:=by rw [hW9];simp
 have hrow9 : W9.ownsRow N 158 1 pv qbs.length (qbs.map encP):=owns_keep h.row fun g cs _ hg=>hx9.block g (heap_lt hg)
 rw [← hW9]
 have hml : (1000000 : Nat) ≤ maxLen:=by decide
 obtain ⟨i0,hi,hz0,hz1,hz2⟩:=info_parts info158
 obtain ⟨pv',w',q1,q2,q3,_,q4⟩:=Go.run_append_own_at (P:=Tryz.prog) (w:=W9) N 161 161 158 i0 _ 1 8 (by kernel_rfl) hi hz0 hz1 hz2 rfl (by decide) pv qbs.length (qbs.map encP) hrow9 ⟨wr.heap.size,0,none⟩ 1 1 [.pointer (some ⟨qb,0,none⟩)] rfl (fun j u hj=>add_cell (by rw [Nat.zero_add,cell_of hb9 j,List.getElem?_toArray];exact hj)) (fun x hx=>by obtain rfl:=List.mem_singleton.1 hx;rfl) (by omega) (by omega) (by omega)
 have hown : pv'.ownBlock = pv.ownBlock ∨ pv'.ownBlock = some W9.heap.size:=q4
 have hfr:=frm_grown hrow9 q3
 have hblk : w'.heap[sb]? = some (.cells #[.pointer (some ⟨qb0,0,none⟩),pv] 163 (0,0)):=hfr.cells (hx9.obj h.blk) (by decide)
 have hget : ∀ k,k < wr.heap.size → k ≠ sb → (∀ g,pv.ownBlock = some g → k ≠ g) → (w'.setCell ⟨sb,1,none⟩ pv').heap[k]? = wr.heap[k]?:=fun k h1 h2 h3=>by
  rw [heap_setCell_get,if_neg h2,q3.block k (by omega) (fun e=>h3 k e.symm rfl),hx9.block k h1]
 have hsz : (w'.setCell ⟨sb,1,none⟩ pv').heap.size = w'.heap.size:=World.size_setCell _ _ _
 have hs' : wr.heap.size + 1 ≤ w'.heap.size:=by rw [← hs9];exact q3.size
 have hbt : ∀ lo hi,hi ≤ wr.heap.size → (hi ≤ sb ∨ N ≤ lo) → (∀ g,pv.ownBlock = some g → g < lo ∨ hi ≤ g) → Btw lo hi wr (w'.setCell ⟨sb,1,none⟩ pv'):=fun lo hi h1 h2 h3=>⟨by rw [hsz];omega,fun k k1 k2=>hget k (by omega) (by omega) fun g hg e=>by have:=h3 g hg;omega⟩
 have hrowlow : ∀ g,pv.ownBlock = some g → N ≤ g:=fun g hg=>(owns_block hrow9 hg).1
 have hbel : Below w.heap.size wr (w'.setCell ⟨sb,1,none⟩ pv'):=Below.setCell ((hx9.mono (Nat.le_trans l1 (by omega))).grown q3 (by omega) fun k hk=>by have:=hrowlow k hk;omega) l1 _
 have hnew : QIn lo wr.heap.size R (w'.setCell ⟨sb,1,none⟩ pv') qb q:=hq.move (hbt lo _ (Nat.le_refl _) (.inr (by omega)) fun g hg=>.inl (by have:=h.top g hg;omega))
 refine ⟨pv',w',q1,hblk,hbel,hbt lo _ (Nat.le_refl _) (.inr (by omega)) fun g hg=>.inl (by have:=h.top g hg;omega),?_⟩
 exact
  {ext:=Below.trans h.ext hbel
   low:=⟨l1,l2,l3,l4,l5,by rw [hsz];omega,Nat.le_refl _⟩
   blk:=by rw [heap_setCell_get,if_pos rfl,hblk];rfl
   own:=let ⟨hi,k1,k2,k3⟩:=h.own;⟨hi,k1.move (hbt _ _ k1.le (.inl k2) fun g hg=>.inr (by have:=hrowlow g hg;omega)),k2,k3⟩
   row:=by
    have:=q2
    rw [List.length_append,List.map_append]
    exact owns_at this fun g hg=>by
     rw [heap_setCell_get,if_neg]
     rintro rfl
     rcases hown with e | e
     ·rw [e] at hg;have:=hrowlow _ hg;omega
     ·rw [e] at hg;have:=Option.some.inj hg;omega
   top:=fun g hg=>by
    obtain ⟨_,cs,fr,hc⟩:=owns_block q2 hg
    rw [hsz]
    exact heap_lt hc
   len:=by simp [h.len]
   qat:=fun i qb' q' hb hq'=>by
    by_cases hlt : i < qbs.length
    ·rw [List.getElem?_append_left hlt] at hb
     rw [List.getElem?_append_left (by rw [h.len];exact hlt)] at hq'
     obtain ⟨lo',hi',k1,k2,k3,k4⟩:=h.qat i qb' q' hb hq'
     refine ⟨lo',hi',k1.move (hbt _ _ k1.le (.inr k2) k4),k2,by rw [hsz];omega,fun g hg=>?_⟩
     rcases hown with e | e
     ·exact k4 g (by rw [← e];exact hg)
     ·rw [e] at hg;have:=Option.some.inj hg;omega
    ·have hi2:=(List.getElem?_eq_some_iff.1 hb).1
     simp at hi2
     obtain rfl : i = qbs.length:=by omega
     rw [List.getElem?_append_right (Nat.le_refl _),Nat.sub_self] at hb
     rw [List.getElem?_append_right (by rw [h.len];exact Nat.le_refl _),h.len,Nat.sub_self] at hq'
     obtain rfl:=Option.some.inj hb
     obtain rfl:=Option.some.inj hq'
     refine ⟨lo,wr.heap.size,hnew,by omega,by rw [hsz];omega,fun g hg=>?_⟩
     rcases hown with e | e
     ·rw [e] at hg;have:=h.top g hg;exact .inl (by omega)
     ·rw [e] at hg;have:=Option.some.inj hg;exact .inr (by omega)
   map:=by
    unfold MapIs
    rw [hget ab (by omega) (fun e=>l3 e.symm) fun g hg e=>by have:=hrowlow g hg;omega]
    exact h.map
   nodup:=h.nodup,keys:=h.keys,marks:=h.marks }
theorem ReI.iff {w : World} {R : Rec} {q0 : Qn} {qb0 sb ab N M : Nat} {qs : List Qn} {qbs : List Nat} {pv : Value} {la : List (Nat × Value)} {P P' : Nat → Prop} {wr : World} (h : ReI w R q0 qb0 sb ab N M qs qbs pv la P wr) (hp : ∀ c,P c ↔ P' c) : ReI w R q0 qb0 sb ab N M qs qbs pv la P' wr:=
 {h with marks:=fun c=>(h.marks c).trans (hp c) }
theorem btw_wput {lo hi : Nat} {wr : World} {ab : Nat} {l : List (Nat × Value)} (hh : hi ≤ wr.heap.size) (hd : hi ≤ ab ∨ ab < lo) : Btw lo hi wr (wput encP wr ab l):=
 ⟨by unfold wput;rw [putObj_size];exact hh,fun k _ hk=>by unfold wput;rw [putObj_get,if_neg (by omega)]⟩
def SeenP (qs : List Qn) (lm : List (Nat × Value)) (seen : List Nat) (c : Nat) : Prop:=(∃ x ∈ qs,(x.marks c).isSome = true) ∨ ∃ i ∈ seen,∃ v,lm[i]? = some (c,v)
theorem SeenP.snoc {qs : List Qn} {lm : List (Nat × Value)} {seen : List Nat} {i c : Nat} {v : Value} (hl : lm[i]? = some (c,v)) (d : Nat) : (SeenP qs lm seen d ∨ d = c) ↔ SeenP qs lm (seen ++ [i]) d:=by
 unfold SeenP
 constructor
 ·rintro ((h | ⟨j,hj,u,hu⟩) | rfl)
  ·exact .inl h
  ·exact .inr ⟨j,List.mem_append_left _ hj,u,hu⟩
  ·exact .inr ⟨i,by simp,v,hl⟩
 ·rintro (h | ⟨j,hj,u,hu⟩)
  ·exact .inl (.inl h)
  ·rcases List.mem_append.1 hj with hj | hj
   ·exact .inl (.inr ⟨j,hj,u,hu⟩)
   ·obtain rfl:=List.mem_singleton.1 hj
    rw [hl] at hu
    obtain ⟨rfl,_⟩:=Prod.mk.inj (Option.some.inj hu)
    exact .inr rfl
theorem SeenP.done {B : Nat} {R : Rec} {w : World} {mb : Nat} {qs : List Qn} {q : Qn} {lm : List (Nat × Value)} {seen : List Nat} (hm : MarksAt B R w mb lm q.marks) (hall : ∀ i,i < lm.length → i ∈ seen) (c : Nat) : SeenP qs lm seen c ↔ ∃ x ∈ qs ++ [q],(x.marks c).isSome = true:=by
 unfold SeenP
 constructor
 ·rintro (⟨x,hx,h⟩ | ⟨i,_,v,hl⟩)
  ·exact ⟨x,List.mem_append_left _ hx,h⟩
  ·obtain ⟨l,h1,_⟩:=hm.some_ c v (look_mem hm.nodup (List.mem_of_getElem? hl))
   exact ⟨q,by simp,by rw [h1];rfl⟩
 ·rintro ⟨x,hx,h⟩
  rcases List.mem_append.1 hx with hx | hx
  ·exact .inl ⟨x,hx,h⟩
  ·obtain rfl:=List.mem_singleton.1 hx
   cases hl : look lm c with
   | none=>rw [hm.none_ c hl] at h;cases h
   | some v=>
    have : c ∈ lm.map (·.1):=look_isSome_iff.1 (by rw [hl];rfl)
    obtain ⟨y,hy,rfl⟩:=List.mem_map.1 this
    obtain ⟨i,hi⟩:=List.mem_iff_getElem?.1 hy
    exact .inr ⟨i,hall i (List.getElem?_eq_some_iff.1 hi).1,y.2,hi⟩
end Go.Proofs.YtihfcjioilmmjaaGreat
namespace Go.Proofs.YtihfcjioilmmjaaGreat
open Go Go.RowKit
open Go.Lib Go.Sort Go.Maps Go.Shelf Go.Proofs
def marksU (R : Rec) (qs : List Qn) : Nat:=(R.cols.filter fun x=>qs.any fun q=>(q.marks x.2).isSome).length
def ReadOk (R : Rec) (own : Exp) (parts : List Exp) (q : Qn) (qs : List Qn) : Prop:=
 askF R own = some q ∧ parts.map (askF R) = qs.map some ∧ parts.length ≤ 3 ∧ q.size + (qs.map (·.size)).sum ≤ 30 ∧ marksN R q ≤ 4 ∧ marksU R qs ≤ 4
def ReadPost (R : Rec) (own : Exp) (parts : List Exp) (w : World) (e : Ending) (w' : World) : Prop:=
 Ext w w' ∧ (((¬ ∃ q qs,ReadOk R own parts q qs) ∧ e = .returned (.tuple #[.pointer none,.int .i64 113])) ∨
  ∃ (q : Qn) (qs : List Qn) (sb qb : Nat) (qbs : List Nat) (pv : Value),ReadOk R own parts q qs ∧ e = .returned (.tuple #[.pointer (some ⟨sb,0,none⟩),.int .i64 0]) ∧ w'.heap[sb]? = some (.cells #[.pointer (some ⟨qb,0,none⟩),pv] 163 (0,0)) ∧
   w'.ownsRow w.heap.size 158 1 pv qbs.length (qbs.map encP) ∧ qs.length = qbs.length ∧ (∃ tv mb lm,QAt w.heap.size w'.heap.size R w' qb q tv mb lm) ∧
   ∀ (i : Nat) qb q,qbs[i]? = some qb → qs[i]? = some q → ∃ tv mb lm,QAt w.heap.size w'.heap.size R w' qb q tv mb lm)
structure RgI (w : World) (R : Rec) (q0 : Qn) (parts : List Exp) (sb : Nat) (qb0 k size : Nat) (wr : World) : Prop where
 le : k ≤ parts.length
 st : ∃ (M : Nat) (qs : List Qn) (qbs : List Nat) (pv : Value) (la : List (Nat × Value)),ReI w R q0 qb0 sb (sb + 1) (sb + 2) M qs qbs pv la (fun c=>∃ x ∈ qs,(x.marks c).isSome = true) wr ∧ (parts.take k).map (askF R) = qs.map some ∧ size = q0.size + (qs.map (·.size)).sum
 few : size ≤ 1000 * (k + 1)
theorem ReadOk.same {R : Rec} {own : Exp} {parts : List Exp} {q q' : Qn} {qs qs' : List Qn} (h : ReadOk R own parts q' qs') (h1 : askF R own = some q) (h2 : parts.map (askF R) = qs.map some) : q' = q ∧ qs' = qs:=by
 refine ⟨?_,?_⟩
 ·have:=h.1
  rw [h1] at this
  exact (Option.some.inj this).symm
 ·have:=h.2.1
  rw [h2] at this
  exact ((List.map_inj_right (fun _ _ e=>Option.some.inj e)).1 this).symm
theorem count_len {B : Nat} {w : World} {rb : Nat} {R : Rec} {cm : Nat} {vv fv : Value} {os : List (Option Nat × Option Nat)} {xs : List (List Value)} (h : RecAt B w rb R cm vv fv os xs) {la : List (Nat × Value)} (h1 : (la.map (·.1)).Nodup) (hk : ∀ x ∈ la,∃ a,(a,x.1) ∈ R.cols) (p : Nat → Bool) (hm : ∀ c,(look la c).isSome = true ↔ p c = true) : la.length = (R.cols.filter fun x=>p x.2).length:=by
 have h2 : ((R.cols.filter fun x=>p x.2).map (·.2)).Nodup:=((List.filter_sublist (l:=R.cols) (p:=fun x=>p x.2)).map (fun x : Attr × Nat=>x.2)).nodup (cols_nodup h)
 have h3:=nodup_sub h1 (m:=(R.cols.filter fun x=>p x.2).map (·.2)) fun c hc=>by
  obtain ⟨x,hx,rfl⟩:=List.mem_map.1 hc
  obtain ⟨a,ha⟩:=hk x hx
  exact List.mem_map.2 ⟨(a,x.1),List.mem_filter.2 ⟨ha,(hm x.1).1 (look_isSome_iff.2 hc)⟩,rfl⟩
 have h4:=nodup_sub h2 (m:=la.map (·.1)) fun c hc=>by
  obtain ⟨x,hx,rfl⟩:=List.mem_map.1 hc
  exact look_isSome_iff.1 ((hm x.2).2 (List.mem_filter.1 hx).2)
 rw [List.length_map,List.length_map] at h3 h4
 omega
set_option maxHeartbeats 4000000 in
set_option maxRecDepth 100000 in
theorem recRead_any {B : Nat} {w : World} {rb : Nat} {R : Rec} {cm : Nat} {vv fv : Value} {os : List (Option Nat × Option Nat)} {xs : List (List Value)} (h : RecAt B w rb R cm vv fv os xs) {x0 : Int} {x1 : ByteArray} {p2 : Option Addr} {n2 c2 : Nat} {x3 x4 : Int} {p5 : Option Addr} {n5 c5 : Nat} {own : Exp} (he : ExpAt w [.int .u8 x0,.string x1,.slice p2 n2 c2,.int .i64 x3,.int .i64 x4,.slice p5 n5 c5] own) (hn : own.nodes ≤ 1000) {p6 : Option Addr} {c6 : Nat} {parts : List Exp} (hps : ExpsAt w (.slice p6 parts.length c6) parts) (hpn : ∀ x ∈ parts,x.nodes ≤ 1000) :
  Calls Tryz.prog 47 #[encP rb,.agg #[.int .u8 x0,.string x1,.slice p2 n2 c2,.int .i64 x3,.int .i64 x4,.slice p5 n5 c5,.slice p6 parts.length c6]] w fun r w'=>ReadPost R own parts w r w':=by
 obtain ⟨W1,hW1⟩ : ∃ W1,W1 = w.alloc (.cells #[.int .u8 x0,.string x1,.slice p2 n2 c2,.int .i64 x3,.int .i64 x4,.slice p5 n5 c5,.slice p6 parts.length c6] 31 (0,0)):=⟨_,rfl⟩
 have hx1 : Ext w W1:=by rw [hW1];exact bel
 have hb1 : W1.heap[w.heap.size]? = some (.cells #[.int .u8 x0,.string x1,.slice p2 n2 c2,.int .i64 x3,.int .i64 x4,.slice p5 n5 c5,.slice p6 parts.length c6] 31 (0,0)):=by rw [hW1];simp only [heap_drawn_get,heap_drew_get,heap_setCell_get,heap_alloc_get,World.size_alloc,World.size_setCell,size_drawn,putObj_get,putObj_size];(repeat (first | rw [if_pos trivial] | rw [if_pos rfl] | rw [if_neg (by omega)] | rw [if_pos (by omega)]))
 have hask:=ask_any (h.ext hx1) (he.ext hx1) hn
 replace hask : Calls Tryz.prog 64 #[.pointer (some ⟨rb,0,none⟩),.agg #[.int .u8 x0,.string x1,.slice p2 n2 c2,.int .i64 x3,.int .i64 x4,.slice p5 n5 c5]] W1 fun r w'=>AskPost R own W1 r w':=hask
 obtain ⟨_,_,hpe,_,hpat⟩:=hps.at
 simp only [Value.slice.injEq,true_and] at hpe
 obtain ⟨rfl,rfl⟩:=hpe
 have d0:=cell_of hb1 0
 have d1:=cell_of hb1 1
 have d2:=cell_of hb1 2
 have d3:=cell_of hb1 3
 have d4:=cell_of hb1 4
 have d5:=cell_of hb1 5
 have d6:=cell_of hb1 6
 have HASK:=Lib.hid hask
 have HREC:=Lib.hid h
 have HX1:=Lib.hid hx1
 have HB1:=Lib.hid hb1
 have HPAT:=Lib.hid hpat
 have HPN:=Lib.hid hpn
 have hmm : ∀ t w,(Instr.makeMap t none).run Tryz.prog w = .ok (.map (some w.heap.size)) (w.alloc (.map #[] 0)):=fun _ _=>rfl
 clear hask h hx1 hb1 he hpat hpn hps
 unfold encP at *
 go_enter Tryz.func47,Tryz.ntmps47
 go_upto_region 1 with fail
 rw [← hW1]
 clear hW1
 go_wp2_with fail
 refine HASK.out.mono ?_
 rintro r w2 ⟨hx,⟨hnone,v,rfl⟩ | ⟨q,qb,tv,mb,lm,hsome,rfl,hq⟩⟩
 ·clear d0 d1 d2 d3 d4 d5 d6
  go_wp2_with fail
  refine bodyPost_ret (v:=.tuple #[.pointer none,.int .i64 113]) (by simp [results,Tryz.results47,go_sem]) rfl ?_
  exact ⟨HX1.out.trans' hx,.inl ⟨fun ⟨q,qs,hr⟩=>(by have:=hr.1;rw [hnone] at this;cases this),rfl⟩⟩
 ·replace d6:=hx.cell' d6
  clear d0 d1 d2 d3 d4 d5
  simp only [List.getElem_toArray,List.getElem_cons_succ,List.getElem_cons_zero] at d6
  by_cases h3 : (3 : Int) < (parts.length : Int)
  ·have HXX:=Lib.hid (HX1.out.trans' hx)
   have HSO:=Lib.hid hsome
   clear hx hsome hq
   go_wp2_with fail
   refine bodyPost_ret (v:=.tuple #[.pointer none,.int .i64 113]) (by simp [results,Tryz.results47,go_sem]) rfl ?_
   exact ⟨HXX.out,.inl ⟨fun ⟨q,qs,hr⟩=>(by have:=hr.2.2.1;omega),rfl⟩⟩
  obtain ⟨Wa,hWa⟩ : ∃ Wa,Wa = w2.alloc (.cells #[.pointer (some ⟨qb,0,none⟩),.slice none 0 0] 163 (0,0)):=⟨_,rfl⟩
  have hxa : Ext w2 Wa:=by rw [hWa];exact bel
  have hba : Wa.heap[w2.heap.size]? = some (.cells #[.pointer (some ⟨qb,0,none⟩),.slice none 0 0] 163 (0,0)):=by rw [hWa];simp only [heap_drawn_get,heap_drew_get,heap_setCell_get,heap_alloc_get,World.size_alloc,World.size_setCell,size_drawn,putObj_get,putObj_size];(repeat (first | rw [if_pos trivial] | rw [if_pos rfl] | rw [if_neg (by omega)] | rw [if_pos (by omega)]))
  have hsa : Wa.heap.size = w2.heap.size + 1:=by rw [hWa];simp
  obtain ⟨W3,hW3⟩ : ∃ W3,W3 = Wa.alloc (.map #[] 0):=⟨_,rfl⟩
  have hx3' : Ext Wa W3:=by rw [hW3];exact bel
  have hx3:=hxa.trans' hx3'
  have hs3 : W3.heap.size = w2.heap.size + 2:=by rw [hW3];simp [hsa]
  have hb3 : W3.heap[w2.heap.size]? = some (.cells #[.pointer (some ⟨qb,0,none⟩),.slice none 0 0] 163 (0,0)):=hx3'.obj hba
  have hm3 : MapIs encP W3 (w2.heap.size + 1) []:=by rw [hW3];unfold MapIs;rw [← hsa];simp only [heap_drawn_get,heap_drew_get,heap_setCell_get,heap_alloc_get,World.size_alloc,World.size_setCell,size_drawn,putObj_get,putObj_size];(repeat (first | rw [if_pos trivial] | rw [if_pos rfl] | rw [if_neg (by omega)] | rw [if_pos (by omega)]));rfl
  have q10 : Wa.cell? ⟨qb,1,none⟩ = some (.int .i64 (q.size : Int)):=cell_of (hq.ext hxa).blk 1
  have d63 : W3.cell? ⟨w.heap.size,6,none⟩ = some (.slice p6 parts.length c6):=(hx.trans' hx3).cell' (cell_of HB1.out 6)
  have hq1000 : q.size ≤ 1000:=by rw [(askF_ok R own q hsome).1];exact hn
  have hI3 : RgI w R q parts w2.heap.size qb 0 q.size W3:=
   {le:=Nat.zero_le _
    st:=⟨W3.heap.size,[],[],.slice none 0 0,[],
     {ext:=(HX1.out.trans' hx).trans' hx3
      low:=⟨(HX1.out.trans' hx).size,Nat.le_succ_of_le (HX1.out.trans' hx).size,by omega,by omega,by omega,by omega,Nat.le_refl _⟩
      blk:=hb3
      own:=⟨w2.heap.size,(QIn.of (hq.wide HX1.out.size (Nat.le_refl _) (Nat.le_refl _))).move (btw_ext (Nat.le_refl _) hx3),Nat.le_refl _,by omega⟩
      row:=World.ownsRow_nil _ _ _ _
      top:=fun g hg=>by cases hg
      len:=rfl
      qat:=fun i qb q hb=>by simp at hb
      map:=hm3
      nodup:=List.nodup_nil
      keys:=fun x hx=>by cases hx
      marks:=fun c=>by simp [look] },rfl,by simp⟩
    few:=by omega }
  have HI3:=Lib.hid hI3
  have HSO:=Lib.hid hsome
  have HXX:=Lib.hid ((HX1.out.trans' hx).trans' hx3)
  clear hq hx hx3 hb3 hm3 hsome hxa hba hx3' hI3 hs3
  go_upto_region 5 with fail
  rw [← hWa]
  clear hWa d6
  go_upto_region 7 with fail
  rw [← hW3]
  clear hW3 q10
  go_wp2_with fail
  clear d63
  go_loopw [9,42] (fun z i wr=>∃ k size : Nat,z = .int .i64 (size : Int) ∧ i = .int .i64 k ∧ k ≤ parts.length ∧ Hid (RgI w R q parts w2.heap.size qb k size wr)) (fun _ i _=>parts.length - (intOf i).toNat)
  case atStart=>exact ⟨0,q.size,rfl,rfl,Nat.zero_le _,HI3.out⟩
  case round=>
   obtain ⟨k,size,rfl,rfl,hk,hI⟩:=hrel
   by_cases hlt : k < parts.length
   ·obtain ⟨x,hxj⟩ : ∃ x,parts[k]? = some x:=⟨_,List.getElem?_eq_getElem hlt⟩
    obtain ⟨kb,koff,cs,rfl,hc6,hex,hcl⟩:=HPAT.out k x hxj
    obtain ⟨yo,ya,yp,yn,yc,yl,yh,zp,zn,zc,rfl⟩:=exp_form hex
    obtain ⟨M,qs,qbs,pv,la,hI2,heq,hsize⟩:=hI.out.st
    have hfew:=hI.out.few
    have hx : Ext w wr:=hI2.ext
    have g0 : wr.cell? ⟨kb,koff + k * 6,none⟩ = some (.int .u8 yo):=hx.cell' (hcl 0 _ rfl)
    have g1 : wr.cell? ⟨kb,koff + k * 6 + 1,none⟩ = some (.string ya):=hx.cell' (hcl 1 _ rfl)
    have g2 : wr.cell? ⟨kb,koff + k * 6 + 2,none⟩ = some (.slice yp yn yc):=hx.cell' (hcl 2 _ rfl)
    have g3 : wr.cell? ⟨kb,koff + k * 6 + 3,none⟩ = some (.int .i64 yl):=hx.cell' (hcl 3 _ rfl)
    have g4 : wr.cell? ⟨kb,koff + k * 6 + 4,none⟩ = some (.int .i64 yh):=hx.cell' (hcl 4 _ rfl)
    have g5 : wr.cell? ⟨kb,koff + k * 6 + 5,none⟩ = some (.slice zp zn zc):=hx.cell' (hcl 5 _ rfl)
    have htk : parts.take (k + 1) = parts.take k ++ [x]:=by rw [List.take_add_one,hxj];rfl
    have HTK:=Lib.hid htk
    have HXJ:=Lib.hid hxj
    have HEX:=Lib.hid hex
    have HI2:=Lib.hid hI2
    have HEQ:=Lib.hid heq
    have HSIZE:=Lib.hid hsize
    have HFEW:=Lib.hid hfew
    have HX:=Lib.hid hx
    clear hI hc6 hex hcl hxj hI2 heq hsize hfew hx htk
    go_upto_region 10 with fail
    obtain ⟨W4,hW4⟩ : ∃ W4,W4 = wr.alloc (.cells #[.int .u8 yo,.string ya,.slice yp yn yc,.int .i64 yl,.int .i64 yh,.slice zp zn zc] 29 (0,0)):=⟨_,rfl⟩
    rw [← hW4]
    have hx4 : Ext wr W4:=by rw [hW4];exact bel
    have hb12 : W4.heap[wr.heap.size]? = some (.cells #[.int .u8 yo,.string ya,.slice yp yn yc,.int .i64 yl,.int .i64 yh,.slice zp zn zc] 29 (0,0)):=by rw [hW4];simp only [heap_drawn_get,heap_drew_get,heap_setCell_get,heap_alloc_get,World.size_alloc,World.size_setCell,size_drawn,putObj_get,putObj_size];(repeat (first | rw [if_pos trivial] | rw [if_pos rfl] | rw [if_neg (by omega)] | rw [if_pos (by omega)]))
    replace g0:=cell_of hb12 0
    replace g1:=cell_of hb12 1
    replace g2:=cell_of hb12 2
    replace g3:=cell_of hb12 3
    replace g4:=cell_of hb12 4
    replace g5:=cell_of hb12 5
    have HXW4:=Lib.hid (HX.out.trans' hx4)
    have HX4:=Lib.hid hx4
    have hask2:=ask_any (HREC.out.ext HXW4.out) (HEX.out.ext HXW4.out) (HPN.out x (List.mem_of_getElem? HXJ.out))
    replace hask2 : Calls Tryz.prog 64 #[.pointer (some ⟨rb,0,none⟩),.agg #[.int .u8 yo,.string ya,.slice yp yn yc,.int .i64 yl,.int .i64 yh,.slice zp zn zc]] W4 fun r w'=>AskPost R x W4 r w':=hask2
    have HASK2:=Lib.hid hask2
    clear hW4 hx4 hb12 hask2
    go_wp2_with fail
    refine HASK2.out.mono ?_
    rintro e w5 ⟨hx5,⟨hno,v,rfl⟩ | ⟨q2,qb2,tv2,mb2,lm2,hq2,rfl,hQ⟩⟩
    ·have HXX5:=Lib.hid (HXW4.out.trans' hx5)
     have HNO:=Lib.hid hno
     clear g0 g1 g2 g3 g4 g5 hno hx5
     go_wp2_with fail
     refine bodyPost_ret (v:=.tuple #[.pointer none,.int .i64 113]) (by simp [results,Tryz.results47,go_sem]) rfl ?_
     refine ⟨HXX5.out,.inl ⟨fun ⟨q',qs',hr⟩=>?_,rfl⟩⟩
     have h1:=congrArg (fun l=>l[k]?) hr.2.1
     simp only [List.getElem?_map,HXJ.out,Option.map_some,HNO.out] at h1
     cases hz : qs'[k]? with
     | none=>rw [hz] at h1;cases h1
     | some z=>rw [hz] at h1;cases h1
    ·clear g0 g1 g2 g3 g4 g5
     have hI5:=HI2.out.below ((HX4.out.trans' hx5).mono HI2.out.low.2.2.2.2.2.2)
     have hlo : M ≤ W4.heap.size:=Nat.le_trans HI2.out.low.2.2.2.2.2.2 HX4.out.size
     have hql : qbs.length = k:=by
      have h1:=congrArg List.length HEQ.out
      simp only [List.length_map,List.length_take] at h1
      rw [← HI2.out.len]
      omega
     have hab : w2.heap.size + 1 < W4.heap.size:=by have:=HI2.out.low;omega
     obtain ⟨pv',w6,happ,hblk6,hbel6,hbt6,hI6⟩:=hI5.push (QIn.of hQ) hlo (by omega)
     obtain ⟨pp,pc,rfl⟩:=owns_form hI5.row
     obtain ⟨pp',pc',hpe⟩:=owns_form hI6.row
     rw [List.length_append,List.length_singleton] at hpe
     subst hpe
     have c5 : w5.cell? ⟨w2.heap.size,1,none⟩ = some (.slice pp qbs.length pc):=cell_of hI5.blk 1
     have c6:=cell_of hblk6 1
     have c6f:=frozen_of hblk6 1
     obtain ⟨W7,hW7⟩ : ∃ W7,W7 = w6.setCell ⟨w2.heap.size,1,none⟩ (.slice pp' (qbs.length + 1) pc'):=⟨_,rfl⟩
     rw [← hW7] at hI6 hbt6
     have hqb7 : W7.heap[qb2]? = some (.cells #[tv2,.int .i64 (q2.size : Int),.map (some mb2)] 168 (0,0)):=(hbt6.2 qb2 hQ.bk.1 hQ.bk.2.1).trans hQ.blk
     have hmk7:=hQ.marks.btw ⟨hQ.bk.2.2.1,hQ.bk.2.2.2⟩ (Nat.le_refl _) hbt6
     have y1 : W7.cell? ⟨qb2,1,none⟩ = some (.int .i64 (q2.size : Int)):=cell_of hqb7 1
     have y2 : W7.cell? ⟨qb2,2,none⟩ = some (.map (some mb2)):=cell_of hqb7 2
     have hrg:=range_law (T:=166) (K:=101) (E:=35) (by kernel_rfl) hmk7.map
     have hq21 : q2.size ≤ 1000:=by rw [(askF_ok R x q2 hq2).1];exact HPN.out x (List.mem_of_getElem? HXJ.out)
     have hsz : size ≤ 4000:=by have:=HFEW.out;omega
     obtain ⟨w8,hw8⟩ : ∃ w8,w8 = W7.alloc (.mapIter (some mb2) lm2.length #[] lm2.length):=⟨_,rfl⟩
     rw [← hw8] at hrg
     have hx8 : Ext W7 w8:=by rw [hw8];exact bel
     have hit8 : IterAt w8 W7.heap.size mb2 lm2.length []:=by unfold IterAt;rw [hw8];simp only [heap_drawn_get,heap_drew_get,heap_setCell_get,heap_alloc_get,World.size_alloc,World.size_setCell,size_drawn,putObj_get,putObj_size];(repeat (first | rw [if_pos trivial] | rw [if_pos rfl] | rw [if_neg (by omega)] | rw [if_pos (by omega)]))
     have HI8:=Lib.hid ((hI6.below (hx8.mono (Nat.le_refl _))).iff (P':=SeenP qs lm2 []) fun c=>by simp [SeenP])
     have HBT8:=Lib.hid (hbt6.trans (btw_ext hbt6.1 hx8))
     have HQ:=Lib.hid hQ
     have HIT8:=Lib.hid hit8
     have HQL:=Lib.hid hql
     have HAPP:=Lib.hid happ
     have HQ2:=Lib.hid hq2
     have HAB:=Lib.hid hab
     have HS5:=Lib.hid hbt6.1
     have HS45:=Lib.hid hx5.size
     have hwrp : IntKind.i64.wrap ((size : Int) + (q2.size : Int)) = ((size + q2.size : Nat) : Int):=by rw [wrap_id (by omega) (by omega)];rfl
     clear hql hI5 hlo happ hbel6 hbt6 hI6 hqb7 hmk7 hx8 hit8 hw8 hx5 hQ hq2 hblk6 hab
     go_upto_region 14 with (at_builtin;refine wpList_append_run rfl _ _ 161 rfl rfl rfl HAPP.out ?_)
     rw [← hW7]
     clear hW7 c5 c6 c6f HAPP
     go_wp2_with fail
     go_loopw [15] (fun _ wr=>∃ (seen : List Nat) (la2 : List (Nat × Value)),Hid (ReI w R q qb w2.heap.size (w2.heap.size + 1) (w2.heap.size + 2) W7.heap.size (qs ++ [q2]) (qbs ++ [qb2]) (.slice pp' (qbs.length + 1) pc') la2 (SeenP qs lm2 seen) wr) ∧ Hid (Btw W4.heap.size w5.heap.size w5 wr) ∧ IterAt wr W7.heap.size mb2 lm2.length seen ∧ seen.Nodup ∧ (∀ j ∈ seen,j < lm2.length)) (fun _ wr=>lm2.length - (wr.iterSeen W7.heap.size).size)
     case atStart=>exact ⟨[],la,HI8,HBT8,HIT8.out,List.nodup_nil,fun j h=>by cases h⟩
     case round=>
      obtain ⟨seen,la2,hA,hB,hit,hnd,hfew⟩:=hrel
      have hmkr:=HQ.out.marks.btw ⟨HQ.out.bk.2.2.1,HQ.out.bk.2.2.2⟩ (Nat.le_refl _) hB.out
      rcases next_law hmkr.map hit 0 with ⟨hall,hn⟩ | ⟨i,c,v,hl,hni,w1,hw1,hn⟩
      ·have hn' : ∀ ty,(Instr.next (.pointer (some ⟨W7.heap.size,0,none⟩)) false ty).run Tryz.prog wr = _:=fun ty=>hn
       have HA2:=Lib.hid (hA.out.iff (SeenP.done hmkr hall))
       clear hA hB hit hnd hfew hmkr hall hn hrg y1 y2
       go_wp2_with fail
       refine ⟨⟨k + 1,size + q2.size,by first | rfl | (rw [Int.natCast_add]),rfl,by omega,?_⟩,by simp [intOf];omega⟩
       exact
        {le:=by omega
         st:=⟨_,qs ++ [q2],qbs ++ [qb2],_,la2,HA2.out,by rw [HTK.out,List.map_append,List.map_append,HEQ.out];simp [HQ2.out],by rw [HSIZE.out,List.map_append,List.sum_append];simp;omega⟩
         few:=by have:=HFEW.out;omega }
      ·have hil : i < lm2.length:=(List.getElem?_eq_some_iff.1 hl).1
       have hlt2:=seen_lt hnd hfew hil hni
       obtain ⟨WN,hWN⟩ : ∃ WN,WN = w1.putObj W7.heap.size (.mapIter (some mb2) lm2.length (seen ++ [i]).toArray lm2.length):=⟨_,rfl⟩
       rw [← hWN] at hn
       have hn' : ∀ ty,(Instr.next (.pointer (some ⟨W7.heap.size,0,none⟩)) false ty).run Tryz.prog wr = .ok (.tuple #[.bool true,.pointer (some ⟨c,0,none⟩),v]) WN:=fun ty=>hn
       have hits : wr.iterSeen W7.heap.size = seen.toArray:=by
        unfold IterAt at hit
        unfold World.iterSeen
        rw [hit]
       have hitl : W7.heap.size < wr.heap.size:=heap_lt hit
       have hx1 : Ext wr w1:=by
        rcases hw1 with rfl | rfl
        ·exact ext_refl _
        ·exact bel
       have hh1 : w1.heap.size = wr.heap.size:=by rcases hw1 with rfl | rfl <;> rfl
       have hs57:=HS5.out
       have hs45:=HS45.out
       have hA2:=hA.out.below (show Below W7.heap.size wr WN by rw [hWN];exact below_putObj (hx1.mono (Nat.le_of_lt hitl)) (Nat.le_refl _) _)
       have hit2 : IterAt WN W7.heap.size mb2 lm2.length (seen ++ [i]):=by unfold IterAt;rw [hWN,putObj_get,if_pos rfl,if_pos (by omega)]
       have hB2 : Btw W4.heap.size w5.heap.size w5 WN:=by
        refine (hB.out.trans (btw_ext hB.out.1 hx1)).trans ?_
        rw [hWN]
        exact ⟨by rw [putObj_size];omega,fun b h1 h2=>by rw [putObj_get,if_neg (by omega)]⟩
       have hmk2:=HQ.out.marks.btw ⟨HQ.out.bk.2.2.1,HQ.out.bk.2.2.2⟩ (Nat.le_refl _) hB2
       have hent : (Instr.entry (.pointer (some ⟨W7.heap.size,0,none⟩))).run Tryz.prog WN = .ok (.tuple #[.pointer (some ⟨c,0,none⟩),v]) WN:=entry_law (enc:=encP) hmk2.map hit2 hl
       obtain ⟨a,hcm⟩:=hmk2.cols (c,v) (List.mem_of_getElem? hl)
       have hco : ColsAt R WN:=fun x hm=>(HREC.out.ext hA2.ext).isCol hm
       have hfi:=finds_ptr WN la2 c (hco (a,c) hcm) (fun x hx=>let ⟨a',ha'⟩:=(hA2.keys x hx).1;hco (a',x.1) ha')
       obtain ⟨n,hn0⟩ : ∃ n : Int,(look la2 c).getD (.int .i64 0) = .int .i64 n:=by
        cases hlk : look la2 c with
        | none=>exact ⟨0,rfl⟩
        | some u=>
         obtain ⟨j,hj1,hj2⟩ : ∃ x ∈ la2,x = (c,u):=⟨(c,u),look_some_mem hlk,rfl⟩
         obtain ⟨_,n,hn⟩:=hA2.keys j hj1
         subst hj2
         exact ⟨n,hn⟩
       have hlook:=run_lookup1 (P:=Tryz.prog) (T:=169) (K:=101) (E:=3) (z:=.int .i64 0) (k:=c) (by kernel_rfl) hA2.map hfi (by kernel_rfl)
       rw [hn0] at hlook
       replace hlook : (Instr.lookup 169 (.map (some (w2.heap.size + 1))) (.pointer (some ⟨c,0,none⟩)) false).run Tryz.prog WN = _:=hlook
       have hup : ∀ m : Int,(Instr.mapUpdate 169 (.map (some (w2.heap.size + 1))) (.pointer (some ⟨c,0,none⟩)) (.int .i64 m)).run Tryz.prog WN = .ok () (wput encP WN (w2.heap.size + 1) (mput la2 c (.int .i64 m))):=fun m=>run_mapUpdate (P:=Tryz.prog) (T:=169) (K:=101) (E:=3) (k:=c) (v:=.int .i64 m) (by kernel_rfl) hA2.map hfi
       have hab:=HAB.out
       have HA3:=Lib.hid (fun m : Int=>(hA2.mark c ⟨a,hcm⟩ m).iff (SeenP.snoc (qs:=qs) hl))
       have HB3:=Lib.hid (fun l=>hB2.trans (btw_wput (l:=l) hB2.1 (.inr hab)))
       have HIT3:=Lib.hid (fun l=>(show IterAt (wput encP WN (w2.heap.size + 1) l) W7.heap.size mb2 lm2.length (seen ++ [i]) by unfold IterAt wput;rw [putObj_get,if_neg (by omega)];exact hit2))
       have HITS:=Lib.hid hits
       have HNI:=Lib.hid hni
       have HND:=Lib.hid hnd
       have HFEW2:=Lib.hid hfew
       clear hA hB hit hnd hfew hmkr hn hrg y1 y2 hits hx1 hh1 hA2 hit2 hB2 hmk2 hcm hco hfi hn0 hWN hw1 hl hni hs57 hab hs45
       go_wp2_with fail
       have hnd' : (seen ++ [i]).Nodup:=by
        rw [List.nodup_append]
        exact ⟨HND.out,by simp,fun a ha b hb e=>HNI.out (by rw [List.mem_singleton.1 hb] at e;rw [← e];exact ha)⟩
       have e1 : ∀ l,(wput encP WN (w2.heap.size + 1) l).iterSeen W7.heap.size = (seen ++ [i]).toArray:=fun l=>by
        have:=HIT3.out l
        unfold IterAt at this
        unfold World.iterSeen
        rw [this]
       refine ⟨⟨seen ++ [i],_,HA3.out _,HB3.out _,HIT3.out _,hnd',fun j hj=>(List.mem_append.1 hj).elim (HFEW2.out j) fun h=>by rw [List.mem_singleton.1 h];exact hil⟩,?_⟩
       rw [e1,HITS.out]
       simp only [List.size_toArray,List.length_append,List.length_singleton]
       omega
   ·obtain rfl : k = parts.length:=by omega
    obtain ⟨M,qs,qbs,pv,la,hI2,heq,hsize⟩:=hI.out.st
    rw [List.take_length] at heq
    obtain ⟨hi0,hq0,hq1,hq2⟩:=hI2.own
    have hle0:=hq0.le
    obtain ⟨tv2,mb2,lm2,hqa⟩:=hq0.at
    have hml:=marks_len (HREC.out.ext hI2.ext) hqa.marks
    have hmu:=count_len (HREC.out.ext hI2.ext) hI2.nodup (fun x hx=>(hI2.keys x hx).1) (fun c=>qs.any fun q=>(q.marks c).isSome) (fun c=>by rw [hI2.marks c,List.any_eq_true])
    have hl1 : ∀ z,(Builtin.len_ #[166] z #[.map (some mb2)]).run Tryz.prog wr = .ok (.int .i64 (lm2.length : Int)) wr:=fun z=>run_lenMap (K:=101) (E:=35) (by kernel_rfl) hqa.marks.map z
    have hl2 : ∀ z,(Builtin.len_ #[169] z #[.map (some (w2.heap.size + 1))]).run Tryz.prog wr = .ok (.int .i64 (la.length : Int)) wr:=fun z=>run_lenMap (K:=101) (E:=3) (by kernel_rfl) hI2.map z
    have q2 : wr.cell? ⟨qb,2,none⟩ = some (.map (some mb2)):=cell_of hqa.blk 2
    have HQA:=Lib.hid hqa
    have HI2:=Lib.hid hI2
    have HEQ:=Lib.hid heq
    have HML:=Lib.hid hml
    have HMU:=Lib.hid (show la.length = marksU R qs from hmu)
    have HSIZE:=Lib.hid hsize
    have HLE:=Lib.hid hle0
    have H3:=Lib.hid (show parts.length ≤ 3 by omega)
    have hbad : ¬ (size ≤ 30 ∧ lm2.length ≤ 4 ∧ la.length ≤ 4) → ¬ ∃ q qs,ReadOk R own parts q qs:=fun hb ⟨q',qs',hr⟩=>by
     obtain ⟨rfl,rfl⟩:=hr.same HSO.out HEQ.out
     refine hb ⟨?_,?_,?_⟩
     ·rw [HSIZE.out];exact hr.2.2.2.1
     ·rw [HML.out];exact hr.2.2.2.2.1
     ·rw [HMU.out];exact hr.2.2.2.2.2
    have HBAD:=Lib.hid hbad
    clear hqa hI2 heq hml hmu hsize hle0 hbad hI hq0 hq1 hq2
    by_cases hz : 30 < size
    ·go_wp2_with fail
     refine bodyPost_ret (v:=.tuple #[.pointer none,.int .i64 113]) (by simp [results,Tryz.results47,go_sem]) rfl ?_
     exact ⟨HI2.out.ext,.inl ⟨HBAD.out (by omega),rfl⟩⟩
    ·by_cases hm : 4 < lm2.length
     ·go_wp2_with fail
      refine bodyPost_ret (v:=.tuple #[.pointer none,.int .i64 113]) (by simp [results,Tryz.results47,go_sem]) rfl ?_
      exact ⟨HI2.out.ext,.inl ⟨HBAD.out (by omega),rfl⟩⟩
     ·by_cases hm2 : 4 < la.length
      ·go_wp2_with fail
       refine bodyPost_ret (v:=.tuple #[.pointer none,.int .i64 113]) (by simp [results,Tryz.results47,go_sem]) rfl ?_
       exact ⟨HI2.out.ext,.inl ⟨HBAD.out (by omega),rfl⟩⟩
      ·go_wp2_with fail
       refine bodyPost_ret (v:=.tuple #[.pointer (some ⟨w2.heap.size,0,none⟩),.int .i64 0]) (by simp [results,Tryz.results47,go_sem]) rfl ?_
       refine ⟨HI2.out.ext,.inr ⟨q,qs,w2.heap.size,qb,qbs,pv,⟨HSO.out,HEQ.out,H3.out,by rw [← HSIZE.out];omega,by rw [← HML.out];omega,by rw [← HMU.out];omega⟩,rfl,HI2.out.blk,owns_low HI2.out.row (Nat.le_succ_of_le (Nat.le_succ_of_le HI2.out.low.1)),HI2.out.len,⟨tv2,mb2,lm2,HQA.out.wide (Nat.le_refl _) HLE.out (Nat.le_refl _)⟩,fun i qb' q' hb hq=>?_⟩⟩
       obtain ⟨lo,hi,k1,k2,k3,_⟩:=HI2.out.qat i qb' q' hb hq
       obtain ⟨tv3,mb3,lm3,hqa3⟩:=k1.at
       exact ⟨tv3,mb3,lm3,hqa3.wide (Nat.le_trans HI2.out.low.1 (by omega)) k1.le (Nat.le_refl _)⟩
end Go.Proofs.YtihfcjioilmmjaaGreat
namespace Go.Proofs.YtihfcjioilmmjaaGreat
open Go Go.RowKit
open Go.Lib Go.Sort Go.Maps Go.Shelf Go.Proofs
def SrchN (R : Rec) (own : Exp) (parts : List Exp) (sb : Nat) (W : World) : Prop:=
 ∃ (q : Qn) (qs : List Qn) (qb : Nat) (qbs : List Nat) (pv : Value) (b : Nat),ReadOk R own parts q qs ∧ W.heap[sb]? = some (.cells #[.pointer (some ⟨qb,0,none⟩),pv] 163 (0,0)) ∧
  W.ownsRow b 158 1 pv qbs.length (qbs.map encP) ∧ qs.length = qbs.length ∧ (∃ lo hi tv mb lm,QAt lo hi R W qb q tv mb lm) ∧
  ∀ (i : Nat) qb q,qbs[i]? = some qb → qs[i]? = some q → ∃ lo hi tv mb lm,QAt lo hi R W qb q tv mb lm
theorem SrchN.ext {R : Rec} {own : Exp} {parts : List Exp} {sb : Nat} {W W' : World} (h : SrchN R own parts sb W) (hx : Ext W W') : SrchN R own parts sb W':=
 let ⟨q,qs,qb,qbs,pv,b,h1,h2,h3,h4,⟨lo,hi,tv,mb,lm,h5⟩,h6⟩:=h
 ⟨q,qs,qb,qbs,pv,b,h1,hx.obj h2,owns_keep h3 fun g _ _ hg=>hx.block g (heap_lt hg),h4,⟨lo,hi,tv,mb,lm,h5.ext hx⟩,fun i qb q k1 k2=>let ⟨lo,hi,tv,mb,lm,k⟩:=h6 i qb q k1 k2;⟨lo,hi,tv,mb,lm,k.ext hx⟩⟩
theorem read_rel {R : Rec} {own : Exp} {parts : List Exp} {w : World} {e : Ending} {w' : World} (h : ReadPost R own parts w e w') : ReadRel (SrchN R own parts) (¬ ∃ q qs,ReadOk R own parts q qs) w e w':=by
 obtain ⟨hx,h | ⟨q,qs,sb,qb,qbs,pv,h1,h2,h3,h4,h5,⟨tv,mb,lm,h6⟩,h7⟩⟩:=h
 ·exact ⟨hx,.inl h⟩
 ·exact ⟨hx,.inr ⟨sb,h2,q,qs,qb,qbs,pv,_,h1,h3,h4,h5,⟨_,_,tv,mb,lm,h6⟩,fun i qb q k1 k2=>let ⟨tv,mb,lm,k⟩:=h7 i qb q k1 k2;⟨_,_,tv,mb,lm,k⟩⟩⟩
end Go.Proofs.YtihfcjioilmmjaaGreat
namespace Go.Proofs.YtihfcjioilmmjaaGreat
open Go Go.RowKit
open Go.Lib Go.Sort Go.Maps Go.Shelf Go.Proofs
def memS (a : Attr) (s : St) (n : Int) : Prop:=(a.values = [] → s.low ≤ n ∧ n ≤ s.high) ∧ (a.values ≠ [] → 0 ≤ n ∧ n < a.values.length ∧ s.bits.testBit n.toNat = true)
theorem mem_samp {a : Attr} (ha : a.values = []) (s : St) (marks : List Int) (n : Int) : n ∈ sampF a s marks ↔ n = s.low ∨ (n ∈ marks ∧ s.low < n ∧ n ≤ s.high):=by
 unfold sampF
 rw [if_pos ha]
 have hs : (sortedP (s.low :: marks.filter (inS s))).Pairwise (fun x y : Int=>x ≤ y):=by
  unfold sortedP
  refine (List.pairwise_mergeSort (fun a b c h1 h2=>?_) (fun a b=>?_) _).imp fun h=>by simpa using h
  ·simp only [decide_eq_true_eq] at *;omega
  ·simp only [Bool.or_eq_true,decide_eq_true_eq];omega
 rw [(compact_spec _ hs (fun a b h1 h2=>by omega) (fun a b c h1 h2=>by omega)).2]
 unfold sortedP
 rw [(List.mergeSort_perm _ _).mem_iff,List.mem_cons,List.mem_filter]
 unfold inS
 simp
theorem mem_samp_choice {a : Attr} (ha : a.values ≠ []) (s : St) (marks : List Int) (n : Int) : n ∈ sampF a s marks ↔ memS a s n:=by
 unfold sampF memS
 rw [if_neg ha,List.mem_map]
 constructor
 ·rintro ⟨i,hi,rfl⟩
  rw [List.mem_filter,List.mem_range] at hi
  exact ⟨fun h=>absurd h ha,fun _=>⟨by omega,by omega,by rw [Int.toNat_natCast];exact hi.2⟩⟩
 ·rintro ⟨_,h⟩
  obtain ⟨h1,h2,h3⟩:=h ha
  exact ⟨n.toNat,by rw [List.mem_filter,List.mem_range];exact ⟨by omega,h3⟩,by omega⟩
theorem samp_mem {a : Attr} {s : St} {marks : List Int} {n : Int} (h : n ∈ sampF a s marks) (hs : a.values = [] → s.low ≤ s.high) : memS a s n:=by
 by_cases ha : a.values = []
 ·rw [mem_samp ha] at h
  refine ⟨fun _=>?_,fun h'=>absurd ha h'⟩
  rcases h with rfl | ⟨_,h1,h2⟩
  ·exact ⟨Int.le_refl _,hs ha⟩
  ·exact ⟨by omega,h2⟩
 ·exact (mem_samp_choice ha s marks n).1 h
theorem greatest (n : Int) : ∀ l : List Int,(∃ x ∈ l,x ≤ n) → ∃ y ∈ l,y ≤ n ∧ ∀ z ∈ l,z ≤ n → z ≤ y
 | [],h=>by obtain ⟨x,hx,_⟩:=h;cases hx
 | x :: r,h=>by
  by_cases hr : ∃ y ∈ r,y ≤ n
  ·obtain ⟨y,hy,hyn,hmax⟩:=greatest n r hr
   by_cases hx : x ≤ n ∧ y < x
   ·exact ⟨x,List.mem_cons_self,hx.1,fun z hz hzn=>by
     rcases List.mem_cons.1 hz with rfl | hz
     ·exact Int.le_refl _
     ·have:=hmax z hz hzn;omega⟩
   ·exact ⟨y,List.mem_cons_of_mem _ hy,hyn,fun z hz hzn=>by
     rcases List.mem_cons.1 hz with rfl | hz
     ·omega
     ·exact hmax z hz hzn⟩
  ·obtain ⟨y,hy,hyn⟩:=h
   rcases List.mem_cons.1 hy with rfl | hy
   ·exact ⟨y,List.mem_cons_self,hyn,fun z hz hzn=>by
     rcases List.mem_cons.1 hz with rfl | hz
     ·exact Int.le_refl _
     ·exact absurd ⟨z,hz,hzn⟩ hr⟩
   ·exact absurd ⟨y,hy,hyn⟩ hr
theorem samp_near {a : Attr} {s : St} (marks : List Int) {n : Int} (h : memS a s n) : ∃ m ∈ sampF a s marks,(a.values = [] → ∀ k ∈ marks,(k ≤ n ↔ k ≤ m)) ∧ (a.values ≠ [] → n = m):=by
 by_cases ha : a.values = []
 ·obtain ⟨h1,h2⟩:=h.1 ha
  obtain ⟨m,hm,hmn,hmax⟩:=greatest n (sampF a s marks) ⟨s.low,(mem_samp ha s marks _).2 (.inl rfl),h1⟩
  refine ⟨m,hm,fun _ k hk=>⟨fun hkn=>?_,fun hkm=>by omega⟩,fun h'=>absurd ha h'⟩
  by_cases hkl : s.low < k
  ·exact hmax k ((mem_samp ha s marks _).2 (.inr ⟨hk,hkl,by omega⟩)) hkn
  ·have:=hmax s.low ((mem_samp ha s marks _).2 (.inl rfl)) h1
   omega
 ·exact ⟨n,(mem_samp_choice ha s marks n).2 h,fun h'=>absurd h' ha,fun _=>rfl⟩
def AlikeQ (R : Rec) (μ : Nat → Option (List Int)) (ρ σ : Nat → Int) : Prop:=
 ∀ a c l,(a,c) ∈ R.cols → μ c = some l → (a.values = [] → ∀ k ∈ l,(k ≤ ρ c ↔ k ≤ σ c)) ∧ (a.values ≠ [] → ρ c = σ c)
theorem AlikeQ.merge {R : Rec} {μ ν : Nat → Option (List Int)} {ρ σ : Nat → Int} (h : AlikeQ R (mergeM μ ν) ρ σ) : AlikeQ R μ ρ σ ∧ AlikeQ R ν ρ σ:=by
 refine ⟨fun a c l hc hl=>?_,fun a c l hc hl=>?_⟩
 ·cases hν : ν c with
  | none=>exact h a c l hc (by unfold mergeM;rw [hν];exact hl)
  | some l2=>
   have:=h a c (l ++ l2) hc (by unfold mergeM;rw [hν,hl];rfl)
   exact ⟨fun ha k hk=>this.1 ha k (List.mem_append_left _ hk),this.2⟩
 ·have:=h a c ((μ c).getD [] ++ l) hc (by unfold mergeM;rw [hl])
  exact ⟨fun ha k hk=>this.1 ha k (List.mem_append_right _ hk),this.2⟩
theorem closeQ_alike {op : Int} {acc : Acc} {q : Qn} (h : closeQ op acc = some q) : q.marks = acc.marks ∧ ∀ ρ σ : Nat → Int,(∀ φ ∈ acc.φs,φ ρ = φ σ) → q.φ ρ = q.φ σ:=by
 unfold closeQ at h
 split at h
 ·simp only [Option.some.injEq] at h;subst h
  refine ⟨rfl,fun ρ σ hh=>?_⟩
  cases hφ : acc.φs with
  | nil=>rfl
  | cons φ r=>rw [hφ] at hh;simp only [hh φ List.mem_cons_self]
 ·split at h
  ·simp only [Option.some.injEq] at h;subst h
   refine ⟨rfl,fun ρ σ hh=>?_⟩
   show (acc.φs.all fun φ=>φ ρ) = acc.φs.all fun φ=>φ σ
   rw [Bool.eq_iff_iff,List.all_eq_true,List.all_eq_true]
   exact ⟨fun k φ hφ=>by rw [← hh φ hφ];exact k φ hφ,fun k φ hφ=>by rw [hh φ hφ];exact k φ hφ⟩
  ·split at h
   ·simp only [Option.some.injEq] at h;subst h
    refine ⟨rfl,fun ρ σ hh=>?_⟩
    show (acc.φs.any fun φ=>φ ρ) = acc.φs.any fun φ=>φ σ
    rw [Bool.eq_iff_iff,List.any_eq_true,List.any_eq_true]
    exact ⟨fun ⟨φ,hφ,k⟩=>⟨φ,hφ,by rw [← hh φ hφ];exact k⟩,fun ⟨φ,hφ,k⟩=>⟨φ,hφ,by rw [hh φ hφ];exact k⟩⟩
   ·cases h
theorem inQ_alike {R : Rec} {a : Attr} {c : Nat} (hc : (a,c) ∈ R.cols) (values : List ByteArray) (lo hi : Int) {ρ σ : Nat → Int} (h : AlikeQ R (inQ a c (readF a values lo hi).1 lo hi).marks ρ σ) : (inQ a c (readF a values lo hi).1 lo hi).φ ρ = (inQ a c (readF a values lo hi).1 lo hi).φ σ:=by
 have:=h a c (if a.values = [] then [lo,hi + 1] else []) hc (by unfold inQ;simp)
 show (if a.values = [] then decide ((readF a values lo hi).1.low ≤ ρ c) && decide (ρ c ≤ (readF a values lo hi).1.high) else (readF a values lo hi).1.bits.testBit (ρ c).toNat) = (if a.values = [] then decide ((readF a values lo hi).1.low ≤ σ c) && decide (σ c ≤ (readF a values lo hi).1.high) else (readF a values lo hi).1.bits.testBit (σ c).toNat)
 by_cases ha : a.values = []
 ·have h1:=this.1 ha
  rw [if_pos ha] at h1
  have hlo:=h1 lo (by simp)
  have hhi:=h1 (hi + 1) (by simp)
  rw [if_pos ha,if_pos ha]
  have e1 : (readF a values lo hi).1.low = lo:=by unfold readF;rw [if_pos ha]
  have e2 : (readF a values lo hi).1.high = hi:=by unfold readF;rw [if_pos ha]
  rw [e1,e2,Bool.eq_iff_iff]
  simp only [Bool.and_eq_true,decide_eq_true_eq]
  omega
 ·rw [if_neg ha,if_neg ha,this.2 ha]
mutual
theorem askF_alike (R : Rec) (ρ σ : Nat → Int) : ∀ (e : Exp) (q : Qn),askF R e = some q → AlikeQ R q.marks ρ σ → q.φ ρ = q.φ σ
 | .mk op attr values lo hi kids,q,h,hal=>by
  rw [askF] at h
  split at h
  ·cases hc : colOf R attr with
   | none=>rw [hc] at h;cases h
   | some c=>
    rw [hc] at h
    simp only at h
    split at h
    ·split at h
     ·simp only [Option.some.injEq] at h
      subst h
      exact inQ_alike (colOf_mem hc).1 values lo hi hal
     ·cases h
    ·cases h
  ·split at h
   ·cases h
   ·cases hL : askL R kids ⟨1,fun _=>none,[]⟩ with
    | none=>rw [hL] at h;cases h
    | some acc=>
     rw [hL] at h
     simp only at h
     obtain ⟨h1,h2⟩:=closeQ_alike h
     rw [h1] at hal
     exact h2 ρ σ ((askL_alike R ρ σ kids _ acc hL hal).2 (by simp))
theorem askL_alike (R : Rec) (ρ σ : Nat → Int) : ∀ (l : List Exp) (a b : Acc),askL R l a = some b → AlikeQ R b.marks ρ σ → AlikeQ R a.marks ρ σ ∧ ((∀ φ ∈ a.φs,φ ρ = φ σ) → ∀ φ ∈ b.φs,φ ρ = φ σ)
 | [],a,b,h,hal=>by
  rw [askL] at h
  simp only [Option.some.injEq] at h
  subst h
  exact ⟨hal,id⟩
 | k :: r,a,b,h,hal=>by
  rw [askL] at h
  cases hk : askF R k with
  | none=>rw [hk] at h;cases h
  | some q=>
   rw [hk] at h
   simp only at h
   split at h
   ·obtain ⟨h1,h4⟩:=askL_alike R ρ σ r _ b h hal
    have hq:=askF_alike R ρ σ k q hk h1.merge.2
    refine ⟨h1.merge.1,fun ha=>h4 ?_⟩
    intro φ hφ
    rcases List.mem_append.1 hφ with hφ | hφ
    ·exact ha φ hφ
    ·rw [List.mem_singleton.1 hφ];exact hq
   ·cases h
end
def AtCols (R : Rec) (μ : Nat → Option (List Int)) : Prop:=∀ c,(μ c).isSome = true → ∃ a,(a,c) ∈ R.cols
theorem AtCols.merge {R : Rec} {μ ν : Nat → Option (List Int)} (h : AtCols R μ) (k : AtCols R ν) : AtCols R (mergeM μ ν):=fun c hc=>by
 unfold mergeM at hc
 cases hν : ν c with
 | none=>rw [hν] at hc;exact h c hc
 | some l=>exact k c (by rw [hν];rfl)
mutual
theorem askF_cols (R : Rec) : ∀ (e : Exp) (q : Qn),askF R e = some q → AtCols R q.marks
 | .mk op attr values lo hi kids,q,h=>by
  rw [askF] at h
  split at h
  ·cases hc : colOf R attr with
   | none=>rw [hc] at h;cases h
   | some c=>
    rw [hc] at h
    simp only at h
    split at h
    ·split at h
     ·simp only [Option.some.injEq] at h
      subst h
      intro c' hc'
      unfold inQ at hc'
      simp only at hc'
      split at hc'
      ·rename_i e;subst e;exact ⟨c.1,(colOf_mem hc).1⟩
      ·cases hc'
     ·cases h
    ·cases h
  ·split at h
   ·cases h
   ·cases hL : askL R kids ⟨1,fun _=>none,[]⟩ with
    | none=>rw [hL] at h;cases h
    | some acc=>
     rw [hL] at h
     simp only at h
     rw [(closeQ_alike h).1]
     exact askL_cols R kids _ acc hL (fun c hc=>by cases hc)
theorem askL_cols (R : Rec) : ∀ (l : List Exp) (a b : Acc),askL R l a = some b → AtCols R a.marks → AtCols R b.marks
 | [],a,b,h,hal=>by
  rw [askL] at h
  simp only [Option.some.injEq] at h
  subst h
  exact hal
 | k :: r,a,b,h,hal=>by
  rw [askL] at h
  cases hk : askF R k with
  | none=>rw [hk] at h;cases h
  | some q=>
   rw [hk] at h
   simp only at h
   split at h
   ·exact askL_cols R r _ b h (hal.merge (askF_cols R k q hk))
   ·cases h
end
theorem allM_cols {R : Rec} {qs : List Qn} (h : ∀ q ∈ qs,AtCols R q.marks) : AtCols R (allM qs):=by
 have hrev : ∀ r : List Qn,(∀ q ∈ r,AtCols R q.marks) → AtCols R (allM r.reverse):=by
  intro r
  induction r with
  | nil=>intro _ c hc;simp [allM] at hc
  | cons q r ih=>
   intro hq
   rw [List.reverse_cons,allM_snoc]
   exact (ih fun x hx=>hq x (List.mem_cons_of_mem _ hx)).merge (hq q List.mem_cons_self)
 have:=hrev qs.reverse (fun q hq=>h q (List.mem_reverse.1 hq))
 rwa [List.reverse_reverse] at this
theorem allM_alike {R : Rec} {ρ σ : Nat → Int} {qs : List Qn} (h : AlikeQ R (allM qs) ρ σ) : ∀ q ∈ qs,AlikeQ R q.marks ρ σ:=by
 have hrev : ∀ r : List Qn,AlikeQ R (allM r.reverse) ρ σ → ∀ q ∈ r,AlikeQ R q.marks ρ σ:=by
  intro r
  induction r with
  | nil=>intro _ q hq;cases hq
  | cons q r ih=>
   intro hal q' hq'
   rw [List.reverse_cons,allM_snoc] at hal
   rcases List.mem_cons.1 hq' with rfl | hq'
   ·exact hal.merge.2
   ·exact ih hal.merge.1 q' hq'
 have:=hrev qs.reverse (by rwa [List.reverse_reverse])
 exact fun q hq=>this q (List.mem_reverse.2 hq)
def OutS (R : Rec) (hf : List (Int × FR)) (s : ByteArray) (qs : List Qn) (x : Nat) : Prop:=
 ∃ σ : Nat → Int,(∀ a c,(a,c) ∈ R.cols → (allM qs c).isSome = true → memS a (ofV hf (s,c) a) (σ c)) ∧ bitsK ((qs.map (·.φ)).map fun φ=>φ σ) qs.length = x
def Full (R : Rec) (hf : List (Int × FR)) : Prop:=∀ (s : ByteArray) a c,(a,c) ∈ R.cols → a.values = [] → (ofV hf (s,c) a).low ≤ (ofV hf (s,c) a).high
theorem runW_outs {B : Nat} {w : World} {rb : Nat} {R : Rec} {cm : Nat} {vv fv : Value} {os : List (Option Nat × Option Nat)} {xs : List (List Value)} (h : RecAt B w rb R cm vv fv os xs) {hf : List (Int × FR)} (hfull : Full R hf) (s : ByteArray) {qs : List Qn} (hq : ∀ q ∈ qs,∃ e,askF R e = some q)
  {cols : List Nat} (hn : cols.Nodup) (hk : ∀ c,c ∈ cols ↔ (allM qs c).isSome = true) (x : Nat) :
  x ∈ (runW (smpOf R hf s (allM qs)) (fun ρ=>bitsK ((qs.map (·.φ)).map fun φ=>φ ρ) qs.length) cols (fun _=>0,[])).2 ↔ OutS R hf s qs x:=by
 have hac : AtCols R (allM qs):=allM_cols fun q hqm=>let ⟨e,he⟩:=hq q hqm;askF_cols R e q he
 have huniq : ∀ {a a' : Attr} {c : Nat},(a,c) ∈ R.cols → (a',c) ∈ R.cols → a = a':=by
  intro a a' c h1 h2
  have hcn:=cols_nodup h
  rw [List.Nodup,List.pairwise_map] at hcn
  obtain ⟨i,hi,e1⟩:=List.mem_iff_getElem.1 h1
  obtain ⟨j,hj,e2⟩:=List.mem_iff_getElem.1 h2
  rw [List.pairwise_iff_getElem] at hcn
  rcases Nat.lt_trichotomy i j with hij | hij | hij
  ·exact absurd (by rw [e1,e2]) (hcn i j hi hj hij)
  ·subst hij;rw [e1] at e2;exact congrArg Prod.fst e2
  ·exact absurd (by rw [e1,e2]) (hcn j i hj hi hij)
 rw [runW_mem hn]
 constructor
 ·rintro ⟨ρ,h1,_,h3⟩
  refine ⟨ρ,fun a c hc hs=>?_,h3⟩
  have:=h1 c ((hk c).2 hs)
  rw [smpOf_at h hf s (allM qs) hc] at this
  exact samp_mem this (hfull s a c hc)
 ·rintro ⟨σ,h1,h3⟩
  have hch : ∀ c,∃ m : Int,(c ∈ cols → m ∈ smpOf R hf s (allM qs) c ∧ ∀ a,(a,c) ∈ R.cols → (a.values = [] → ∀ k ∈ (allM qs c).getD [],(k ≤ m ↔ k ≤ σ c)) ∧ (a.values ≠ [] → m = σ c)) ∧ (c ∉ cols → m = 0):=by
   intro c
   by_cases hc : c ∈ cols
   ·obtain ⟨a,ha⟩:=hac c ((hk c).1 hc)
    obtain ⟨m,m1,m2,m3⟩:=samp_near ((allM qs c).getD []) (h1 a c ha ((hk c).1 hc))
    refine ⟨m,fun _=>⟨by rw [smpOf_at h hf s (allM qs) ha];exact m1,fun a' ha'=>?_⟩,fun h'=>absurd hc h'⟩
    obtain rfl:=huniq ha ha'
    exact ⟨fun hv k hk'=>(m2 hv k hk').symm,fun hv=>(m3 hv).symm⟩
   ·exact ⟨0,fun h'=>absurd h' hc,fun _=>rfl⟩
  obtain ⟨ρ,hρ⟩:=Classical.axiomOfChoice hch
  have hal : AlikeQ R (allM qs) ρ σ:=fun a c l hc hl=>by
   have hcc : c ∈ cols:=(hk c).2 (by rw [hl];rfl)
   have:=((hρ c).1 hcc).2 a hc
   rw [hl] at this
   exact this
  refine ⟨ρ,fun d hd=>((hρ d).1 hd).1,fun d hd=>(hρ d).2 hd,?_⟩
  rw [← h3]
  congr 1
  rw [List.map_map,List.map_map]
  refine List.map_congr_left fun q hqm=>?_
  obtain ⟨e,he⟩:=hq q hqm
  exact askF_alike R ρ σ e q he (allM_alike hal q hqm)
end Go.Proofs.YtihfcjioilmmjaaGreat
namespace Go.Proofs.YtihfcjioilmmjaaGreat
open Go Go.RowKit
open Go.Lib Go.Proofs
def ltN (x y : Nat) : Bool:=decide (x < y)
theorem swo_ltN : Sort.SWO ltN where
 irrefl x:=by unfold ltN;simp
 trans x y z h1 h2:=by unfold ltN at *;simp only [decide_eq_true_eq] at *;omega
 ntrans x y z h1 h2:=by unfold ltN at *;simp only [decide_eq_false_iff_not] at *;omega
theorem But.setCell {b : Nat} {x y : World} (h : But b x y) (p : Addr) (hr : p.block = b ∨ x.heap.size ≤ p.block) (u : Value) : But b x (y.setCell p u):=
 ⟨h.os,h.tape,h.output,by simp [World.setCell];exact h.size,fun k hk hn=>by
  rw [RowKit.Below.heap_setCell _ _ _ _ (by rcases hr with hr | hr <;> omega)];exact h.block k hk hn⟩
theorem But.alloc {b : Nat} {x y : World} (h : But b x y) (o : Obj) : But b x (y.alloc o):=
 ⟨h.os,h.tape,h.output,by rw [World.size_alloc];exact Nat.le_succ_of_le h.size,fun k hk hn=>by
  rw [RowKit.Below.heap_alloc _ _ _ (Nat.lt_of_lt_of_le hk h.size)];exact h.block k hk hn⟩
structure US (w : World) (g n : Nat) (rest : Array Value) (d : Array Nat) (wr : World) : Prop where
 but : But g w wr
 gw : g < w.heap.size
 row : wr.heap[g]? = some (.cells (d.map U64 ++ rest) 118 (0,0))
 len : d.size = n
theorem US.at {w : World} {g n : Nat} {rest : Array Value} {d : Array Nat} {wr : World} (h : US w g n rest d wr) {j : Nat} (hj : j < n) : (d.map U64 ++ rest)[j]? = some (.int .u64 ((d[j]! : Nat) : Int)):=by
 have hjd : j < d.size:=by rw [h.len];exact hj
 rw [Array.getElem?_append_left (by rw [Array.size_map];exact hjd),Array.getElem?_map,Array.getElem?_eq_getElem hjd,getElem!_pos d j hjd]
 rfl
theorem US.cell {w : World} {g n : Nat} {rest : Array Value} {d : Array Nat} {wr : World} (h : US w g n rest d wr) {j : Nat} (hj : j < n) : wr.cell? ⟨g,j,none⟩ = some (.int .u64 ((d[j]! : Nat) : Int)):=(cell_of h.row j).trans (h.at hj)
theorem US.froz {w : World} {g n : Nat} {rest : Array Value} {d : Array Nat} {wr : World} (h : US w g n rest d wr) (j : Nat) : wr.frozen? ⟨g,j,none⟩ = false:=frozen_of h.row j
theorem US.drew {w : World} {g n : Nat} {rest : Array Value} {d : Array Nat} {wr : World} (h : US w g n rest d wr) : US w g n rest d wr.drew:=⟨h.but.drew,h.gw,h.row,h.len⟩
theorem US.drawn {w : World} {g n : Nat} {rest : Array Value} {d : Array Nat} {wr : World} (h : US w g n rest d wr) (k : Nat) : US w g n rest d { wr with drawn:=k }:=⟨⟨h.but.os,h.but.tape,h.but.output,h.but.size,h.but.block⟩,h.gw,h.row,h.len⟩
theorem US.put {w : World} {g n : Nat} {rest : Array Value} {d : Array Nat} {wr : World} (h : US w g n rest d wr) {j : Nat} (hj : j < n) (x : Nat) : US w g n rest (d.setIfInBounds j x) (wr.setCell ⟨g,j,none⟩ (.int .u64 (x : Int))):=by
 refine ⟨But.setCell h.but _ (.inl rfl) _,h.gw,?_,by rw [Array.size_setIfInBounds];exact h.len⟩
 rw [heap_setCell_get,if_pos rfl,h.row]
 have hjd : j < d.size:=by rw [h.len];exact hj
 simp only [Option.map_some]
 congr 2
 apply Array.ext_getElem?
 intro i
 rw [Array.getElem?_setIfInBounds,Array.size_append,Array.size_map]
 by_cases hij : j = i
 ·subst hij
  rw [if_pos rfl,if_pos (by omega),Array.getElem?_append_left (by rw [Array.size_map,Array.size_setIfInBounds];exact hjd),Array.getElem?_map,Array.getElem?_setIfInBounds,if_pos rfl,if_pos hjd]
  rfl
 ·rw [if_neg hij]
  by_cases hi : i < d.size
  ·rw [Array.getElem?_append_left (by rw [Array.size_map];exact hi),Array.getElem?_append_left (by rw [Array.size_map,Array.size_setIfInBounds];exact hi),Array.getElem?_map,Array.getElem?_map,Array.getElem?_setIfInBounds,if_neg hij]
  ·rw [Array.getElem?_append_right (by rw [Array.size_map];omega),Array.getElem?_append_right (by rw [Array.size_map,Array.size_setIfInBounds];omega),Array.size_map,Array.size_map,Array.size_setIfInBounds]
theorem US.swp {w : World} {g n : Nat} {rest : Array Value} {d : Array Nat} {wr : World} (h : US w g n rest d wr) {i j : Nat} (hi : i < n) (hj : j < n) : US w g n rest (Sort.swp d i j) ((wr.setCell ⟨g,i,none⟩ (.int .u64 ((d[j]! : Nat) : Int))).setCell ⟨g,j,none⟩ (.int .u64 ((d[i]! : Nat) : Int))):=
 (h.put hi d[j]!).put hj d[i]!
theorem US.other {w : World} {g n : Nat} {rest : Array Value} {d : Array Nat} {wr : World} (h : US w g n rest d wr) {p : Addr} (hp : w.heap.size ≤ p.block) (u : Value) : US w g n rest d (wr.setCell p u):=
 ⟨But.setCell h.but _ (.inr hp) _,h.gw,by rw [RowKit.Below.heap_setCell _ _ _ _ (by have:=h.gw;omega)];exact h.row,h.len⟩
theorem US.alloc {w : World} {g n : Nat} {rest : Array Value} {d : Array Nat} {wr : World} (h : US w g n rest d wr) (o : Obj) : US w g n rest d (wr.alloc o):=
 ⟨But.alloc h.but _,h.gw,by rw [RowKit.Below.heap_alloc _ _ _ (Nat.lt_of_lt_of_le h.gw h.but.size)];exact h.row,h.len⟩
def SwI (w : World) (g n : Nat) (rest : Array Value) (d : Array Nat) (i j : Nat) (us : List Value) (W : World) : Prop:=
 match us with
 | []=>US w g n rest d W
 | [_]=>US w g n rest (d.setIfInBounds i d[j]!) W
 | _=>US w g n rest (Sort.swp d i j) W
theorem SwI.out {w : World} {g n : Nat} {rest : Array Value} {d : Array Nat} {i j : Nat} {u v : Value} {W : World} (h : SwI w g n rest d i j ([] ++ [u] ++ [v]) W) : US w g n rest (Sort.swp d i j) W:=h
theorem wrapN {k : Nat} (h : k ≤ 4000000) : IntKind.i64.wrap (k : Int) = (k : Int):=by rw [IntKind.wrap_i64];omega
end Go.Proofs.YtihfcjioilmmjaaGreat
