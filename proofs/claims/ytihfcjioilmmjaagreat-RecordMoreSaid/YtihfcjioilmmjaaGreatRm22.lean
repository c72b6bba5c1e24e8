/- Lemmas: walk. -/
import Derived.Test.YtihfcjioilmmjaaGreatRm1
import Derived.Test.YtihfcjioilmmjaaGreatRm21
set_option linter.all false
namespace Go.Proofs.YtihfcjioilmmjaaGreat
open Go Go.RowKit
open Go.Lib Go.Proofs
def Tr (b : Nat) (cs : List Value) (W : World) : Prop:=W.heap[b]? = some (.cells cs.toArray 33 (0,0))
theorem Tr.ext {b : Nat} {cs : List Value} {W W' : World} (h : Tr b cs W) (hx : Ext W W') : Tr b cs W':=hx.obj h
theorem Tr.keep {b : Nat} {cs : List Value} {B : Nat} {W W' : World} (h : Tr b cs W) (hb : b < B) (hx : Keep B W W') : Tr b cs W':=hx.block b _ h (.inl hb)
theorem Tr.cell {b : Nat} {cs : List Value} {W : World} (h : Tr b cs W) (j : Nat) : W.cell? ⟨b,j,none⟩ = cs[j]?:=by
 rw [cell_of h,List.getElem?_toArray]
def truL (sp : Option Addr) (sn sc : Nat) (seed : Int) (fp : Option Addr) (fn fc : Nat) (zp : Option Addr) (zn zc : Nat) (o : Int) (at_ : ByteArray) (p : Option Addr) (n c : Nat) (l h : Int) (p2 : Option Addr) (n2 c2 : Nat) (p6 : Option Addr) (n6 c6 : Nat) : List Value:=
 [.slice sp sn sc,.int .u32 seed,.slice fp fn fc,.slice zp zn zc,.int .u8 o,.string at_,.slice p n c,.int .i64 l,.int .i64 h,.slice p2 n2 c2,.slice p6 n6 c6]
structure MoI (w : World) (tb : Nat) (cs : List Value) (B rb cm b0 : Nat) (sv : Value) (sl : List (List UInt8)) (iw : Nat) (R : Rec) (wr : World) : Prop where
 ext : Ext w wr
 tr : Tr tb cs wr
 reco : ∃ vv fv os xs,RecAt B wr rb R cm vv fv os xs
 nowd : NoWd R
 vers : ∃ vV vW,R.vers[1]? = some vV ∧ R.vers[iw]? = some vW ∧ MoreK R (heldF R vV) (heldF R vW) ∧ subsV (heldF R vV) = sl
 srow : wr.ownsRow b0 9 1 sv sl.length (sl.map encStr)
theorem MoI.stay {w : World} {tb : Nat} {cs : List Value} {B rb cm b0 : Nat} {sv : Value} {sl : List (List UInt8)} {iw : Nat} {R : Rec} {wr W : World} (h : MoI w tb cs B rb cm b0 sv sl iw R wr) (hx : Ext wr W) : MoI w tb cs B rb cm b0 sv sl iw R W:=
 {ext:=h.ext.trans' hx,tr:=h.tr.ext hx,reco:=let ⟨_,_,_,_,k⟩:=h.reco;⟨_,_,_,_,k.ext hx⟩,nowd:=h.nowd,vers:=h.vers,srow:=owns_keep h.srow fun g _ _ hg=>hx.block g (heap_lt hg) }
theorem MoI.facts {w : World} {tb : Nat} {cs : List Value} {B rb cm b0 : Nat} {sv : Value} {sl : List (List UInt8)} {iw : Nat} {R : Rec} {wr : World} (h : MoI w tb cs B rb cm b0 sv sl iw R wr) {v : Ver} (hv : v ∈ R.vers) : ∀ y ∈ heldF R v,(y.2.attr,y.2.col) ∈ R.cols:=fun y hy=>
 let ⟨_,_,_,_,k⟩:=h.reco;(k.ok.fact _ (heldF_mem k.ok hv hy)).1
theorem Keep.typ {B : Nat} {W W' : World} (hK : Keep B W W') {k : Nat} {cs : Array Value} {T : TypeId} {fr : Nat × Nat} (h : W.heap[k]? = some (.cells cs T fr)) (hT : T ≠ 100 ∧ T ≠ 96 ∧ T ≠ 122) : W'.heap[k]? = some (.cells cs T fr):=
 hK.block k _ h (.inr fun cs' T' fr' e=>by injection e with e1 e2 e3;subst e2;exact hT)
theorem KnJ.done {wr : World} {D : Bool → Int → Prop} {b : Nat} {p1 : Option Addr} {n1 c1 : Nat} {lo hi : Int} {p2 : Option Addr} {n2 c2 : Nat} {d : Bool} {er : Int} {v : Value} {W : World} (h : KnJ wr D (some (.pointer (some ⟨b,0,none⟩))) ([] ++ [.tuple #[.agg #[.slice p1 n1 c1,.int .i64 lo,.int .i64 hi,.slice p2 n2 c2,.bool d],.int .i64 er]] ++ [v]) W) :
  Ext wr W ∧ D d er ∧ W.heap[b]? = some (.cells #[.slice p1 n1 c1,.int .i64 lo,.int .i64 hi,.slice p2 n2 c2,.bool d] 52 (0,0)):=by
 obtain ⟨hx,b',q1,m1,k1,lo',hi',q2,m2,k2,d',er',e1,e2,hd,_,hb⟩:=h
 simp only [Option.some.injEq,Value.pointer.injEq,Addr.mk.injEq,and_true] at e1
 subst e1
 simp only [Value.tuple.injEq,Array.mk.injEq,List.cons.injEq,Value.agg.injEq,Value.bool.injEq,Value.int.injEq,Value.slice.injEq,and_true,true_and] at e2
 obtain ⟨⟨⟨rfl,rfl,rfl⟩,rfl,rfl,⟨rfl,rfl,rfl⟩,rfl⟩,rfl⟩:=e2
 exact ⟨hx,hd,hb⟩
theorem MoI.commit {w : World} {tb : Nat} {cs : List Value} {B rb cm b0 : Nat} {sv : Value} {sl : List (List UInt8)} {iw : Nat} {R : Rec} {wr W : World} (h : MoI w tb cs B rb cm b0 sv sl iw R wr) (hw : w.heap.size ≤ B) (htb : tb < B) {f : Fct} {frs : List FR} {la lw : List (Int × Value)} (hC : ComOk R [(iw : Int)] [f] [] frs la lw) {v' f' : Value} {os' : List (Option Nat × Option Nat)} {xs' : List (List Value)} (hR : RecAt B W rb (commitR R frs la lw) cm v' f' os' xs') (hK : Keep B wr W) :
  MoI w tb cs B rb cm b0 sv sl iw (commitR R frs la lw) W ∧ ((∀ vW,R.vers[iw]? = some vW → ∀ x : FR,frs = [x] → doubtK (heldF (commitR R frs la lw) ⟨la,lw⟩) (keyOf x) = doubtK (heldF R vW) (keyOf x)) → bytesOf f.subject ∈ sl → MoI w tb cs B rb cm b0 sv sl R.vers.length (commitR R frs la lw) W):=by
 obtain ⟨vV,vW,h1,h2,h3,h4⟩:=h.vers
 obtain ⟨_,_,_,_,hrec⟩:=h.reco
 have hVm:=List.mem_of_getElem? h1
 have hWm:=List.mem_of_getElem? h2
 have e1 : heldF (commitR R frs la lw) vV = heldF R vV:=held_old hVm h.nowd hrec.ok
 have e2 : heldF (commitR R frs la lw) vW = heldF R vW:=held_old hWm h.nowd hrec.ok
 have g1 : (commitR R frs la lw).vers[1]? = some vV:=by
  show (R.vers ++ _)[1]? = _
  rw [List.getElem?_append_left (List.getElem?_eq_some_iff.1 h1).1];exact h1
 have g2 : (commitR R frs la lw).vers[iw]? = some vW:=by
  show (R.vers ++ _)[iw]? = _
  rw [List.getElem?_append_left (List.getElem?_eq_some_iff.1 h2).1];exact h2
 have hxW : Ext w W:=ext_keep h.ext hw hK
 have hM : MoreK (commitR R frs la lw) (heldF R vV) (heldF R vW):=⟨h3.sub,h3.subs⟩
 have hs : W.ownsRow b0 9 1 sv sl.length (sl.map encStr):=hK.owns h.srow (by decide)
 refine ⟨{ ext:=hxW,tr:=h.tr.keep htb hK,reco:=⟨_,_,_,_,hR⟩,nowd:=h.nowd.commit hC,vers:=⟨vV,vW,g1,g2,by rw [e1,e2];exact hM,by rw [e1];exact h4⟩,srow:=hs },fun hd hin=>?_⟩
 obtain ⟨x,hx,rfl⟩:=rowsF_one hC.rows
 obtain ⟨c,hc,_,_,hxe⟩:=checkF_some hx
 have hch:=child_held hC h2 h.nowd hrec.ok hR.ok
 have hnum : numF R.facts.length [x] = [((R.facts.length : Int) + 1,x)]:=rfl
 rw [hnum] at hch
 have hnew : (⟨la,lw⟩ : Ver) ∈ (commitR R [x] la lw).vers:=List.mem_append_right _ (List.mem_singleton_self _)
 have hl : ∀ y ∈ heldF R vW ++ [((R.facts.length : Int) + 1,x)],(y.2.attr,y.2.col) ∈ R.cols:=fun y hy=>by
  rw [← hch] at hy
  exact (hR.ok.fact _ (heldF_mem hR.ok hnew hy)).1
 have hdd:=hd vW h2 x rfl
 rw [hch] at hdd
 have hsub : x.subject ∈ subsL (heldF R vW):=by
  have : bytesOf f.subject ∈ subsV (heldF R vW):=by rw [h3.subs,h4];exact hin
  rw [subs_mem,of_bytes] at this
  rw [hxe];exact this
 have hmore:=more_step (R:=R) (cols_nodup hrec) hl hdd hsub
 refine { ext:=hxW,tr:=h.tr.keep htb hK,reco:=⟨_,_,_,_,hR⟩,nowd:=h.nowd.commit hC,vers:=⟨vV,⟨la,lw⟩,g1,?_,?_,by rw [e1];exact h4⟩,srow:=hs }
 ·show (R.vers ++ _)[R.vers.length]? = _
  simp
 ·rw [e1,hch]
  have:=h3.trans hmore
  exact ⟨this.sub,this.subs⟩
set_option maxHeartbeats 16000000 in
set_option maxRecDepth 100000 in
theorem more_any {w : World} (hg : Glob w) {sv fv zv : Value} (seed : Int) {schema : List Attr} {facts fals : List Fct} (hatt : AttrsAt w sv schema) (hbig : ∀ a ∈ schema,a.values.length * 16 ≤ 140737488355328) (hfa : FactsAt w fv facts) (hfb : ∀ f ∈ facts,FactBig f) (hza : FactsAt w zv fals) (hzb : ∀ f ∈ fals,FactBig f)
  {o : Int} {at_ : ByteArray} {p : Option Addr} {n c : Nat} {l h : Int} {p2 : Option Addr} {n2 c2 : Nat} {p6 : Option Addr} {c6 : Nat} {own : Exp} {parts : List Exp} (hp : PatC w o at_ p n c l h p2 n2 c2 p6 c6 own parts) (hpb : PatBig own parts) :
  Calls Tryz.prog 5 #[.agg #[sv,.int .u32 seed,fv,zv,.int .u8 o,.string at_,.slice p n c,.int .i64 l,.int .i64 h,.slice p2 n2 c2,.slice p6 parts.length c6]] w fun e w'=>e = .returned (.bool true) ∧ Ext w w':=by
 obtain ⟨vs,hvs,⟨sp,sc,rfl,hv0⟩,hv1⟩:=id hatt
 obtain ⟨vs2,hvs2,⟨fp,fc,rfl,hv2⟩,hv3⟩:=id hfa
 obtain ⟨vs3,hvs3,⟨zp,zc,rfl,hv4⟩,hv5⟩:=id hza
 clear hvs hv0 hv1 vs hvs2 hv2 hv3 vs2 hvs3 hv4 hv5 vs3
 obtain ⟨W1,hW1⟩ : ∃ W1,W1 = w.alloc (.cells #[.slice sp schema.length sc,.int .u32 seed,.slice fp facts.length fc,.slice zp fals.length zc,.int .u8 o,.string at_,.slice p n c,.int .i64 l,.int .i64 h,.slice p2 n2 c2,.slice p6 parts.length c6] 33 (0,0)):=⟨_,rfl⟩
 have hx1 : Ext w W1:=by rw [hW1];exact bel
 have hb1 : W1.heap[w.heap.size]? = some (.cells #[.slice sp schema.length sc,.int .u32 seed,.slice fp facts.length fc,.slice zp fals.length zc,.int .u8 o,.string at_,.slice p n c,.int .i64 l,.int .i64 h,.slice p2 n2 c2,.slice p6 parts.length c6] 33 (0,0)):=by rw [hW1];simp only [heap_drawn_get,heap_drew_get,heap_setCell_get,heap_alloc_get,World.size_alloc,World.size_setCell,size_drawn,putObj_get,putObj_size];(repeat (first | rw [if_pos trivial] | rw [if_pos rfl] | rw [if_neg (by omega)] | rw [if_pos (by omega)]))
 have hs1 : W1.heap.size = w.heap.size + 1:=by rw [hW1];simp
 obtain ⟨W2,hW2⟩ : ∃ W2,W2 = W1.alloc (.cells #[.int .i64 0,.slice none 0 0,.slice none 0 0,.slice fp facts.length fc,.int .i64 0,.int .i64 0,.string ⟨#[]⟩,.string ⟨#[]⟩,.int .u8 o,.string at_,.slice p n c,.int .i64 l,.int .i64 h,.slice p2 n2 c2,.slice p6 parts.length c6,.int .i64 0,.slice none 0 0,.slice none 0 0,.slice zp fals.length zc,.int .i64 0,.int .i64 0,.string ⟨#[]⟩,.string ⟨#[]⟩,.int .u8 0,.string ⟨#[]⟩,.slice none 0 0,.int .i64 0,.int .i64 0,.slice none 0 0,.slice none 0 0] 37 (0,0)):=⟨_,rfl⟩
 have hx2 : Ext W1 W2:=by rw [hW2];exact bel
 have hb2:=hW2
 have hops : OpsAt W2 (.slice (some ⟨w.heap.size + 1,0,none⟩) 2 2) [opOf facts own parts,opOf fals (.mk 0 ⟨#[]⟩ [] 0 0 []) []]:=by
  have hX:=hx1.trans' hx2
  refine ops_two (opOf_at (hfa.ext hX) hfb ⟨_,_,rfl,hp.own.ext hX,hp.parts.ext hX⟩ hpb) (opOf_at (hza.ext hX) hzb ⟨_,_,rfl,exp_zero W2,exps_zero W2⟩ ⟨⟨by decide,trivial⟩,fun k hk=>by cases hk⟩) rfl rfl ?_
  rw [hW2,← hs1]
  simp only [heap_drawn_get,heap_drew_get,heap_setCell_get,heap_alloc_get,World.size_alloc,World.size_setCell,size_drawn,putObj_get,putObj_size];(repeat (first | rw [if_pos trivial] | rw [if_pos rfl] | rw [if_neg (by omega)] | rw [if_pos (by omega)]))
  rfl
 have HWIDE:=Lib.hid (wide_any (hatt.ext (hx1.trans' hx2)) hops)
 have HB1:=Lib.hid hb1
 have HX2:=Lib.hid (hx1.trans' hx2)
 have HX12:=Lib.hid hx2
 have HGLB:=Lib.hid hg
 have HATT:=Lib.hid hatt
 have HBIG:=Lib.hid hbig
 have HFA:=Lib.hid (And.intro hfa hfb)
 have HZA:=Lib.hid (And.intro hza hzb)
 have HPA:=Lib.hid hp
 have HS1:=Lib.hid hs1
 have HT1 : Hid (Tr w.heap.size (truL sp schema.length sc seed fp facts.length fc zp fals.length zc o at_ p n c l h p2 n2 c2 p6 parts.length c6) W1):=hb1
 have d0 : W1.cell? ⟨w.heap.size,0,none⟩ = some (.slice sp schema.length sc):=cell_of hb1 0
 have d1 : W1.cell? ⟨w.heap.size,1,none⟩ = some (.int .u32 seed):=cell_of hb1 1
 have d2 : W1.cell? ⟨w.heap.size,2,none⟩ = some (.slice fp facts.length fc):=cell_of hb1 2
 have d3 : W1.cell? ⟨w.heap.size,3,none⟩ = some (.slice zp fals.length zc):=cell_of hb1 3
 have d4 : W1.cell? ⟨w.heap.size,4,none⟩ = some (.int .u8 o):=cell_of hb1 4
 have d5 : W1.cell? ⟨w.heap.size,5,none⟩ = some (.string at_):=cell_of hb1 5
 have d6 : W1.cell? ⟨w.heap.size,6,none⟩ = some (.slice p n c):=cell_of hb1 6
 have d7 : W1.cell? ⟨w.heap.size,7,none⟩ = some (.int .i64 l):=cell_of hb1 7
 have d8 : W1.cell? ⟨w.heap.size,8,none⟩ = some (.int .i64 h):=cell_of hb1 8
 have d9 : W1.cell? ⟨w.heap.size,9,none⟩ = some (.slice p2 n2 c2):=cell_of hb1 9
 have d10 : W1.cell? ⟨w.heap.size,10,none⟩ = some (.slice p6 parts.length c6):=cell_of hb1 10
 clear hx1 hb1 hx2 hb2 hops hg hatt hbig hfa hfb hza hzb hp hpb
 go_enter Tryz.func5,Tryz.ntmps5
 go_upto_region 1 with fail
 rw [← hW1]
 clear hW1
 go_wp2_with fail
 rw [← hW2]
 clear hW2 d1 d4 d5 d6 d7 d8 d9 d10 d0 d2 d3
 refine HWIDE.out.mono ?_
 rintro e w3 ⟨b,rfl,hnar,hx3⟩
 have HX3:=Lib.hid (HX2.out.trans' hx3)
 have HT3:=Lib.hid (HT1.out.ext (HX12.out.trans' hx3))
 have HKN:=Lib.hid (fun W (hW : Ext w W)=>knows_any W (HGLB.out.ext hW))
 have d0:=HT3.out.cell 0
 have hs3 : w.heap.size < w3.heap.size:=heap_lt HT3.out
 clear hx3
 cases b with
 | true=>
  clear hnar
  go_wp2_with fail
  refine (HKN.out w3 HX3.out).mono ?_
  rintro e w4 ⟨rfl,hx4⟩
  go_wp2_with fail
  go_ret
  exact ⟨rfl,HX3.out.trans' hx4⟩
 | false=>
  have hn:=hnar rfl
  have hn1:=narrow_opOf (hn.op _ List.mem_cons_self)
  have hn2:=narrow_opOf (hn.op _ (List.mem_cons_of_mem _ List.mem_cons_self))
  have hnf:=narrow_facts hn1.1
  have hnz:=narrow_facts hn2.1
  have hnp:=narrow_pat hn1.2
  have HNF:=Lib.hid hnf
  have HNZ:=Lib.hid hnz
  have HNP:=Lib.hid hnp
  have hn8:=hnz.1
  have HNEW:=Lib.hid (new_any _ schema w3 (HATT.out.ext HX3.out) HBIG.out)
  clear hnar hn hn1 hn2 hnf hnz hnp
  unfold truL at d0
  simp only [List.getElem?_cons_zero] at d0
  go_wp2_with fail
  refine HNEW.out.mono ?_
  rintro e w4 ⟨hx4,⟨_,rfl⟩ | ⟨_,rb,cm,vv,cols,hcm,rfl,hrec⟩⟩
  ·have HX4:=Lib.hid (HX3.out.trans' hx4)
   clear hx4
   go_wp2_with fail
   refine (HKN.out w4 HX4.out).mono ?_
   rintro e w5 ⟨rfl,hx5⟩
   go_wp2_with fail
   go_ret
   exact ⟨rfl,HX4.out.trans' hx5⟩
  have HX4:=Lib.hid (HX3.out.trans' hx4)
  obtain ⟨W5,hW5⟩ : ∃ W5,W5 = w4.alloc (.cells #[.int .i64 0] 3 (0,0)):=⟨_,rfl⟩
  have hx5 : Ext w4 W5:=by rw [hW5];exact bel
  have hb5 : W5.heap[w4.heap.size]? = some (.cells #[.int .i64 0] 3 (0,0)):=by rw [hW5];simp only [heap_drawn_get,heap_drew_get,heap_setCell_get,heap_alloc_get,World.size_alloc,World.size_setCell,size_drawn,putObj_get,putObj_size];(repeat (first | rw [if_pos trivial] | rw [if_pos rfl] | rw [if_neg (by omega)] | rw [if_pos (by omega)]))
  have HX5:=Lib.hid (HX4.out.trans' hx5)
  have HT5:=Lib.hid (HT3.out.ext (hx4.trans' hx5))
  have d2 : w4.cell? ⟨w.heap.size,2,none⟩ = some (.slice fp facts.length fc):=(HT3.out.ext hx4).cell 2
  have hlt4 : w.heap.size < w4.heap.size:=Nat.lt_of_lt_of_le hs3 hx4.size
  have HOWN:=Lib.hid (ownL_any (HFA.out.1.ext HX5.out) (by have:=HNF.out.1;omega) (fun f hf=>by have:=(HNF.out.2 f hf).1;omega))
  have HR5:=Lib.hid (hrec.ext hx5)
  have HI5 : Hid (IntsAt W5 (.slice (some ⟨w4.heap.size,0,none⟩) 1 1) [0]):=sl_one hb5
  have HSZ:=Lib.hid hs3
  clear hx4 hrec hx5 hb5 d0 hs3
  unfold encP at *
  go_wp2_with fail
  rw [← hW5]
  clear hW5 d2 hlt4
  refine HOWN.out.mono ?_
  rintro e w6 ⟨ov,rfl,hof,hx6⟩
  have hcom:=commit_gen (HR5.out.ext hx6) (HGLB.out.ext (HX5.out.trans' hx6)) _ ov [0] (HI5.out.ext hx6) (by simp) facts hof (by have:=HNF.out.1;omega) (fun f hf=>⟨(HNF.out.2 f hf).2,HFA.out.2 f hf⟩)
  unfold encP at hcom
  have HCOM:=Lib.hid hcom
  have HX6:=Lib.hid (HX5.out.trans' hx6)
  have HT6:=Lib.hid (HT5.out.ext hx6)
  clear hcom hof hx6
  go_wp2_with fail
  refine HCOM.out.mono ?_
  rintro e w7 ⟨vn,ve,rfl,⟨hne,hx7⟩ | ⟨rfl,rfl,frs,la,lw,vv7,fv7,os7,xs7,hC7,hR7,hK7⟩⟩
  ·have HX7:=Lib.hid (HX6.out.trans' hx7)
   clear hx7
   go_wp2_with fail
   refine (HKN.out w7 HX7.out).mono ?_
   rintro e w8 ⟨rfl,hx8⟩
   go_wp2_with fail
   go_ret
   exact ⟨rfl,HX7.out.trans' hx8⟩
  ·have hBs : w.heap.size < w3.heap.size:=HSZ.out
   have hT7:=HT6.out.keep hBs hK7
   have hX7:=ext_keep HX6.out HX3.out.size hK7
   have hnw:=(NoWd.new cols).commit hC7
   have hv1 : (commitR ⟨cols,[⟨[],[]⟩],[]⟩ frs la lw).vers[1]? = some ⟨la,lw⟩:=rfl
   obtain ⟨R1,hR1⟩ : ∃ R1,commitR ⟨cols,[⟨[],[]⟩],[]⟩ frs la lw = R1:=⟨_,rfl⟩
   rw [hR1] at hnw hv1 hR7
   have hsub:=subjectsV_any hR7 (HGLB.out.ext hX7) hv1
   unfold encP at hsub
   have HSUB:=Lib.hid hsub
   have HR7:=Lib.hid hR7
   have HN7:=Lib.hid hnw
   have HV7:=Lib.hid hv1
   have HX7:=Lib.hid hX7
   have HT7:=Lib.hid hT7
   have hone : ((⟨cols,[⟨[],[]⟩],[]⟩ : Rec).vers.length : Int) = 1:=rfl
   rw [hone]
   clear hone hC7 hR7 hK7 hT7 hX7 hnw hv1 hR1 hsub hBs
   go_wp2_with fail
   refine HSUB.out.mono ?_
   rintro e w8 ⟨sv,rfl,hsrow,hx8⟩
   obtain ⟨sl,hsl⟩ : ∃ sl,subsV (heldF R1 ⟨la,lw⟩) = sl:=⟨_,rfl⟩
   rw [hsl] at hsrow
   have HI8 : Hid (MoI w w.heap.size (truL sp schema.length sc seed fp facts.length fc zp fals.length zc o at_ p n c l h p2 n2 c2 p6 parts.length c6) w3.heap.size rb cm w7.heap.size sv sl 1 R1 w8):=
    {ext:=HX7.out.trans' hx8,tr:=HT7.out.ext hx8,reco:=⟨_,_,_,_,HR7.out.ext hx8⟩,nowd:=HN7.out,vers:=⟨_,_,HV7.out,HV7.out,MoreK.refl _ _,hsl⟩,srow:=hsrow }
   have hsln : sl.length ≤ 600:=by
    rw [← hsl];exact subsV_len _ (held_len HR7.out.ok (List.mem_of_getElem? HV7.out))
   have HSL:=Lib.hid hsl
   obtain ⟨ssp,ssc,rfl⟩:=owns_form hsrow
   clear hsrow hx8 hsl HSUB
   go_wp2_with fail
   obtain ⟨TL,hTL⟩ : ∃ TL,truL sp schema.length sc seed fp facts.length fc zp fals.length zc o at_ p n c l h p2 n2 c2 p6 parts.length c6 = TL:=⟨_,rfl⟩
   have HTL:=Lib.hid hTL
   rw [hTL] at HI8
   clear hTL HT1 HT3 HT5 HT6 HT7 HR5 HR7 HI5 HX5 HX6 HX12 HCOM HOWN HNEW HWIDE
   go_loopw [7,8] (fun u i wr=>∃ (k iw : Nat) (R : Rec),k ≤ fals.length ∧ u = .int .i64 (iw : Int) ∧ i = .int .i64 (k : Int) ∧ Hid (MoI w w.heap.size TL w3.heap.size rb cm w7.heap.size (.slice ssp sl.length ssc) sl iw R wr)) (fun _ i _=>fals.length - (intOf i).toNat)
   case atStart=>exact ⟨0,1,R1,Nat.zero_le _,rfl,rfl,HI8.out⟩
   case round=>
    obtain ⟨k,iw,R,hk,rfl,rfl,hI⟩:=hrel
    have d3 : wr.cell? ⟨w.heap.size,3,none⟩ = some (.slice zp fals.length zc):=by rw [hI.out.tr.cell 3,← HTL.out];rfl
    by_cases hlt : k < fals.length
    ·obtain ⟨f,hf⟩ : ∃ f,fals[k]? = some f:=⟨_,List.getElem?_eq_getElem hlt⟩
     obtain ⟨_,_,hze,hzcap,hzel⟩:=RowsAt.at (cells:=factCells) (by decide) (fun _ _=>rfl) HZA.out.1
     simp only [Value.slice.injEq,true_and] at hze
     obtain ⟨rfl,rfl⟩:=hze
     obtain ⟨zb,zoff,fu,rfl,hfu,hfc⟩:=hzel k f hf
     have e0:=hI.out.ext.cell' (hfc 0 _ rfl)
     have e1:=hI.out.ext.cell' (hfc 1 _ rfl)
     have HF:=Lib.hid hf
     have HE0W : Hid (w.cell? ⟨zb,zoff + k * 5,none⟩ = some (.string f.subject)):=hfc 0 _ rfl
     have HE1W : Hid (w.cell? ⟨zb,zoff + k * 5 + 1,none⟩ = some (.string f.attr)):=hfc 1 _ rfl
     have HFC3 : Hid ((truL sp schema.length sc seed fp facts.length fc (some ⟨zb,zoff,none⟩) fals.length zc o at_ p n c l h p2 n2 c2 p6 parts.length c6)[3]? = some (.slice (some ⟨zb,zoff,none⟩) fals.length zc)):=rfl
     have HE0 : Hid (wr.cell? ⟨zb,zoff + k * 5,none⟩ = some (.string f.subject)):=e0
     have HE1 : Hid (wr.cell? ⟨zb,zoff + k * 5 + 1,none⟩ = some (.string f.attr)):=e1
     have HD3:=Lib.hid d3
     have HZC:=Lib.hid hzcap
     clear hf hfu hfc hzel e0 e1 d3
     obtain ⟨wo,rfl⟩ : ∃ wo,wo = wr:=⟨wr,rfl⟩
     have d3:=HD3.out
     go_wp2_with fail
     clear d3
     go_loopw [9,10] (fun b j wr=>∃ (m : Nat) (c : Bool),m ≤ sl.length ∧ b = .bool c ∧ j = .int .i64 (m : Int) ∧ Hid (c = true → bytesOf f.subject ∈ sl) ∧ Hid (Ext wo wr)) (fun _ j _=>sl.length - (intOf j).toNat)
     case atStart=>exact ⟨0,false,Nat.zero_le _,rfl,rfl,(fun h=>by cases h),ext_refl _⟩
     case round=>
      obtain ⟨m,b,hm,rfl,rfl,hb,hx⟩:=hrel
      by_cases hml : m < sl.length
      ·obtain ⟨t,ht⟩ : ∃ t,sl[m]? = some t:=⟨_,List.getElem?_eq_getElem hml⟩
       obtain ⟨_,_,hse,_,_,_,hsel⟩:=SlAt.of_owns hI.out.srow
       simp only [Value.slice.injEq,true_and] at hse
       obtain ⟨rfl,rfl⟩:=hse
       obtain ⟨sb,soff,rfl,hsc⟩:=hsel m (encStr t) (by rw [List.getElem?_map,ht];rfl)
       rw [enc_of] at hsc
       obtain ⟨s,hs⟩ : ∃ s,ofBytes t = s:=⟨_,rfl⟩
       rw [hs] at hsc
       have HSC:=Lib.hid hsc
       have hts : t ∈ sl:=List.mem_of_getElem? ht
       have HTS : Hid (s = f.subject → bytesOf f.subject ∈ sl):=fun e=>by rw [← e,← hs,bytes_of];exact hts
       clear hsc hsel ht hs hts
       cases b with
       | true=>
        go_upto_region 20 with fail
        refine Rt.wp_region_rt (by kernel_rfl) [0,1,2,3,4,5,6,7,8,9,10,11,12,13,14] [] [] [0,1,3,3,15,31,3,67,3,451,963,1987,4095,8191,16383] (by kernel_rfl) (fun _ W=>Ext wr W) ?_ ?_
        ·exact below_drawn (ext_refl _) _
        iterate 2 (refine Rt.rs_sil rfl rfl rfl (fun K hK=>?_);go_simp;refine hK _ ?_;clear hK K)
        iterate 11 ((refine Rt.rs_skip rfl rfl rfl ?_;simp only [Act.put,zA,zB,zC,zD,zE,zF]))
        iterate 2 (refine Rt.rs_sil rfl rfl rfl (fun K hK=>?_);go_simp;refine hK _ ?_;clear hK K)
        refine Rt.rs_nil (fun W8 hI8=>?_)
        have HXX:=Lib.hid (hx.out.trans' hI8)
        clear hI8
        go_wp2_with fail
        exact ⟨⟨m + 1,true,by omega,rfl,rfl,hb,HXX.out⟩,by simp [intOf];omega⟩
       | false=>
        obtain ⟨c1,hc1⟩ : ∃ c1,(s.toList == f.subject.toList) = c1:=⟨_,rfl⟩
        go_upto_region 20 with fail
        refine Rt.wp_region_rt (by kernel_rfl) [0,1,2,3,4,5,6,7,8,9,10,11,12,13,14] [] [] [0,1,3,3,15,31,3,67,3,451,963,1987,4095,8191,16383] (by kernel_rfl) (fun _ W=>Ext wr W) ?_ ?_
        ·exact below_drawn (ext_refl _) _
        iterate 4 (refine Rt.rs_sil rfl rfl rfl (fun K hK=>?_);go_simp;refine hK _ ?_;clear hK K)
        (refine Rt.rs_rd rfl rfl rfl ?_;apply Exists.intro;refine ⟨fun us' W hp hl hI=>?_,?_⟩;· (skip;go_simp;rfl));simp only [Act.put,zA,zB,zC,zD,zE,zF]
        (refine Rt.rs_rd rfl rfl rfl ?_;apply Exists.intro;refine ⟨fun us' W hp hl hI=>?_,?_⟩;· (have g:=Ext.cell' (hx.out.trans' hI) HSC.out;go_simp;rfl));simp only [Act.put,zA,zB,zC,zD,zE,zF]
        (refine Rt.rs_sil rfl rfl rfl (fun K hK=>?_);go_simp;refine hK _ ?_;clear hK K)
        (refine Rt.rs_rd rfl rfl rfl ?_;apply Exists.intro;refine ⟨fun us' W hp hl hI=>?_,?_⟩;· (have g:=Ext.cell' (hx.out.trans' hI) HD3.out;go_simp;rfl));simp only [Act.put,zA,zB,zC,zD,zE,zF]
        (refine Rt.rs_sil rfl rfl rfl (fun K hK=>?_);go_simp;refine hK _ ?_;clear hK K)
        (refine Rt.rs_rd rfl rfl rfl ?_;apply Exists.intro;refine ⟨fun us' W hp hl hI=>?_,?_⟩;· (skip;go_simp;rfl));simp only [Act.put,zA,zB,zC,zD,zE,zF]
        (refine Rt.rs_sil rfl rfl rfl (fun K hK=>?_);go_simp;refine hK _ ?_;clear hK K)
        (refine Rt.rs_rd rfl rfl rfl ?_;apply Exists.intro;refine ⟨fun us' W hp hl hI=>?_,?_⟩;· (have g:=Ext.cell' (hx.out.trans' hI) HE0.out;go_simp;rfl));simp only [Act.put,zA,zB,zC,zD,zE,zF]
        iterate 3 (refine Rt.rs_sil rfl rfl rfl (fun K hK=>?_);go_simp;refine hK _ ?_;clear hK K)
        refine Rt.rs_nil (fun W8 hI8=>?_)
        have HXX:=Lib.hid (hx.out.trans' hI8)
        clear hI8
        go_wp2_with fail
        exact ⟨⟨m + 1,c1,by omega,rfl,rfl,fun h=>HTS.out (by have:=hc1.trans h;exact ByteArray.ext (by simpa [ByteArray.toList_eq] using this)),HXX.out⟩,by simp [intOf];omega⟩
      ·obtain rfl : m = sl.length:=by omega
       have hMO:=hI.out.stay hx.out
       obtain ⟨vV,vW,hvV,hvW,hmore,hsubs⟩:=id hMO.vers
       obtain ⟨vv9,fv9,os9,xs9,hrec9⟩:=id hMO.reco
       have hfm:=List.mem_of_getElem? HF.out
       have hfsz:=HNZ.out.2 f hfm
       have HSS:=Lib.hid hfsz
       have HREC:=Lib.hid hrec9
       have HVW:=Lib.hid hvW
       have HMO:=Lib.hid hMO
       have hkg : ∀ (W : World),Ext wr W → Calls Tryz.prog 13 #[.pointer (some ⟨rb,0,none⟩),.int .i64 (iw : Int),.string f.subject,.string f.attr] W (KnGen R (heldF R vW) f.subject f.attr W):=fun W hX=>known_gen (HREC.out.ext hX) (HGLB.out.ext (HMO.out.ext.trans' hX)) HVW.out f.subject f.attr (by have:=HSS.out.2;omega)
       have HKG:=Lib.hid hkg
       obtain ⟨D,hD⟩ : ∃ D : Bool → Int → Prop,D = fun d er=>∀ a c,subj f.subject = true → colOf R f.attr = some (a,c) → er = 0 ∧ d = doubtK (heldF R vW) (f.subject,c):=⟨_,rfl⟩
       have HD:=Lib.hid hD
       have hd3:=hx.out.cell' HD3.out
       have he0:=hx.out.cell' HE0.out
       have he1:=hx.out.cell' HE1.out
       have HD3':=Lib.hid hd3
       have HE0':=Lib.hid he0
       have HE1':=Lib.hid he1
       have HBS:=Lib.hid hb.out
       clear hMO hvV hvW hmore hsubs hrec9 hfm hfsz hkg hD hd3 he0 he1 hb
       go_upto_region 21 with fail
       refine Rt.wp_region_rf (by kernel_rfl) [0,1,2,3,4,5,6,7,8,9,10,11,12,13,14,15,16,17,18,19,20] [14,19] [0,0,0,0,0,0,0,0,0,0,0,0,0,0,1000,1,1] [0,0,0,4,0,28,60,124,0,256,0,1792,3840,7936,16383,32767,65535,65535,0,393215,1048575] 18 (by kernel_rfl) (KnJ wr D) ?_ ?_ ?_
       ·exact ⟨below_drawn (ext_refl _) _,fun v hv=>by cases hv⟩
       ·intro o ho us W hI
        obtain rfl:=Option.some.inj ho.symm
        clear ho
        refine Rt.gives_val ?_
        apply Exists.intro
        apply Exists.intro
        refine ⟨by go_simp;exact ⟨rfl,rfl⟩,?_⟩
        exact hI.float
       iterate 3 (refine Rt.rf_sil rfl rfl rfl rfl (fun K hK=>?_);go_simp;refine hK _ ?_;clear hK K)
       (refine Rt.rf_rd rfl rfl rfl rfl ?_;apply Exists.intro;refine ⟨fun us' fo' W hp hl hI=>?_,?_⟩;· (have g:=hI.ext.cell' HD3'.out;go_simp;rfl));simp only [Act.put,zA,zB,zC,zD,zE,zF]
       (refine Rt.rf_sil rfl rfl rfl rfl (fun K hK=>?_);go_simp;refine hK _ ?_;clear hK K)
       (refine Rt.rf_rd rfl rfl rfl rfl ?_;apply Exists.intro;refine ⟨fun us' fo' W hp hl hI=>?_,?_⟩;· (skip;go_simp;rfl));simp only [Act.put,zA,zB,zC,zD,zE,zF]
       (refine Rt.rf_sil rfl rfl rfl rfl (fun K hK=>?_);go_simp;refine hK _ ?_;clear hK K)
       (refine Rt.rf_rd rfl rfl rfl rfl ?_;apply Exists.intro;refine ⟨fun us' fo' W hp hl hI=>?_,?_⟩;· (have g:=hI.ext.cell' HE0'.out;go_simp;rfl));simp only [Act.put,zA,zB,zC,zD,zE,zF]
       (refine Rt.rf_sil rfl rfl rfl rfl (fun K hK=>?_);go_simp;refine hK _ ?_;clear hK K)
       (refine Rt.rf_rd rfl rfl rfl rfl ?_;apply Exists.intro;refine ⟨fun us' fo' W hp hl hI=>?_,?_⟩;· (have g:=hI.ext.cell' HD3'.out;go_simp;rfl));simp only [Act.put,zA,zB,zC,zD,zE,zF]
       (refine Rt.rf_sil rfl rfl rfl rfl (fun K hK=>?_);go_simp;refine hK _ ?_;clear hK K)
       (refine Rt.rf_rd rfl rfl rfl rfl ?_;apply Exists.intro;refine ⟨fun us' fo' W hp hl hI=>?_,?_⟩;· (skip;go_simp;rfl));simp only [Act.put,zA,zB,zC,zD,zE,zF]
       (refine Rt.rf_sil rfl rfl rfl rfl (fun K hK=>?_);go_simp;refine hK _ ?_;clear hK K)
       (refine Rt.rf_rd rfl rfl rfl rfl ?_;apply Exists.intro;refine ⟨fun us' fo' W hp hl hI=>?_,?_⟩;· (have g:=hI.ext.cell' HE1'.out;go_simp;rfl));simp only [Act.put,zA,zB,zC,zD,zE,zF]
       refine Rt.rf_eff rfl rfl rfl rfl (fun fo W hfo hI=>?_) (fun v hv=>?_)
       ·refine Rt.gives_cal ?_
        apply Exists.intro
        apply Exists.intro
        apply Exists.intro
        refine ⟨by go_simp;exact ⟨⟨rfl,rfl⟩,rfl⟩,?_⟩
        refine (HKG.out W hI.ext).mono ?_
        rintro e W2 ⟨p1,n1,c1,lo,hi,p2,n2,c2,d,er,rfl,hx2,hd,_⟩
        exact ⟨_,rfl,hI.call hx2 (by rw [HD.out];exact hd)⟩
       obtain ⟨kb1,kbn1,kbc1,kblo,kbhi,kb2,kbn2,kbc2,kbd,kbe,rfl⟩:=(let ⟨_,_,h⟩:=hv;h.form)
       clear hv
       simp only [Act.put,zA,zB,zC,zD,zE,zF]
       iterate 3 (refine Rt.rf_sil rfl rfl rfl rfl (fun K hK=>?_);go_simp;refine hK _ ?_;clear hK K)
       refine Rt.rf_fl rfl rfl (fun v hv=>?_)
       obtain ⟨kb,rfl,hkb⟩:=(let ⟨_,_,h⟩:=hv;h.ptr)
       clear hv
       simp only [Act.put,zA,zB,zC,zD,zE,zF]
       refine Rt.rf_eff rfl rfl rfl rfl (fun fo W hfo hI=>?_) (fun v hv=>?_)
       ·obtain rfl:=hfo.resolve_left (fun e=>by cases e)
        have hz:=hI.zero
        have z0 : W.cell? ⟨kb,0,none⟩ = some (.slice none 0 0):=cell_of hz 0
        have z1 : W.cell? ⟨kb,1,none⟩ = some (.int .i64 0):=cell_of hz 1
        have z2 : W.cell? ⟨kb,2,none⟩ = some (.int .i64 0):=cell_of hz 2
        have z3 : W.cell? ⟨kb,3,none⟩ = some (.slice none 0 0):=cell_of hz 3
        have z4 : W.cell? ⟨kb,4,none⟩ = some (.bool false):=cell_of hz 4
        have q0:=frozen_of hz 0
        have q1:=frozen_of hz 1
        have q2:=frozen_of hz 2
        have q3:=frozen_of hz 3
        have q4:=frozen_of hz 4
        have HI:=Lib.hid hI
        clear hz hI
        refine Rt.gives_skp ?_
        apply Exists.intro
        refine ⟨by go_simp;rfl,?_⟩
        exact HI.out.store _
       clear hv
       simp only [Act.put,zA,zB,zC,zD,zE,zF]
       (refine Rt.rf_sil rfl rfl rfl rfl (fun K hK=>?_);go_simp;refine hK _ ?_;clear hK K)
       refine Rt.rf_nil (fun W9 hI9=>?_)
       obtain ⟨hx9,hd9,hb9⟩:=KnJ.done hI9
       have HD9:=Lib.hid hd9
       have HB9:=Lib.hid hb9
       have HX9:=Lib.hid hx9
       have HM9:=Lib.hid (HMO.out.stay hx9)
       have HD39 : Hid (W9.cell? ⟨w.heap.size,3,none⟩ = some (.slice (some ⟨zb,zoff,none⟩) fals.length zc)):=hx9.cell' HD3'.out
       clear hI9 hd9 hb9 hx9
       obtain ⟨W10,hW10⟩ : ∃ W10,W10 = W9.alloc (.cells #[.int .i64 (iw : Int)] 3 (0,0)):=⟨_,rfl⟩
       have hx10 : Ext W9 W10:=by rw [hW10];exact bel
       have hb10 : W10.heap[W9.heap.size]? = some (.cells #[.int .i64 (iw : Int)] 3 (0,0)):=by rw [hW10];simp only [heap_drawn_get,heap_drew_get,heap_setCell_get,heap_alloc_get,World.size_alloc,World.size_setCell,size_drawn,putObj_get,putObj_size];(repeat (first | rw [if_pos trivial] | rw [if_pos rfl] | rw [if_neg (by omega)] | rw [if_pos (by omega)]))
       have HP10 : Hid (IntsAt W10 (.slice (some ⟨W9.heap.size,0,none⟩) 1 1) [(iw : Int)]):=sl_one hb10
       have HX10:=Lib.hid hx10
       have HM10:=Lib.hid (HM9.out.stay hx10)
       have d3 : W9.cell? ⟨w.heap.size,3,none⟩ = some (.slice (some ⟨zb,zoff,none⟩) fals.length zc):=HD39.out
       have hlt9 : w.heap.size < W9.heap.size:=heap_lt HM9.out.tr
       have hzc:=HZC.out
       have hown:=ownL_any (facts_one (HZA.out.1.ext HM10.out.ext) HF.out (by omega)) (by simp) (fun g hg=>by rw [List.mem_singleton.1 hg];have:=HSS.out.1;omega)
       have HOWN:=Lib.hid hown
       clear hx10 hb10 hown
       go_upto_region 22 with fail
       go_wp2_with fail
       rw [← hW10]
       clear hW10 d3 hlt9 hzc
       refine HOWN.out.mono ?_
       rintro e w11 ⟨ov,rfl,hof,hx11⟩
       have hcom:=commit_gen (HREC.out.ext ((HX9.out.trans' HX10.out).trans' hx11)) (HGLB.out.ext (HM10.out.ext.trans' hx11)) _ ov [(iw : Int)] (HP10.out.ext hx11) (by simp) [f] hof (by simp) (fun g hg=>by rw [List.mem_singleton.1 hg];exact ⟨HSS.out.2,HZA.out.2 f (List.mem_of_getElem? HF.out)⟩)
       have HCOM:=Lib.hid hcom
       have HM11:=Lib.hid (HM10.out.stay hx11)
       have HX11:=Lib.hid (HX10.out.trans' hx11)
       clear hcom hof hx11 HOWN
       go_wp2_with fail
       refine HCOM.out.mono ?_
       rintro e w12 ⟨vn,ve,rfl,⟨hne,hx12⟩ | ⟨rfl,rfl,frs,la,lw,vv12,fv12,os12,xs12,hC,hR,hK⟩⟩
       ·have HM12:=Lib.hid (HM11.out.stay hx12)
        clear hx12
        go_wp2_with fail
        exact ⟨⟨k + 1,iw,R,by omega,rfl,rfl,HM12.out⟩,by simp [intOf];omega⟩
       ·have hmc:=HM11.out.commit HX3.out.size HSZ.out hC hR hK
        have hb12:=hK.typ (HX11.out.obj HB9.out) (by decide)
        have HMC:=Lib.hid hmc
        have HB12:=Lib.hid hb12
        have HR12:=Lib.hid hR
        have HC12:=Lib.hid hC
        clear hmc hb12 hC hR hK
        cases b with
        | false=>
         go_wp2_with fail
         exact ⟨⟨k + 1,iw,_,by omega,rfl,rfl,HMC.out.1⟩,by simp [intOf];omega⟩
        | true=>
         obtain ⟨R',hR'⟩ : ∃ R',commitR R frs la lw = R':=⟨_,rfl⟩
         obtain ⟨nv,hnv⟩ : ∃ nv,R.vers.length = nv:=⟨_,rfl⟩
         have hvN : R'.vers[nv]? = some ⟨la,lw⟩:=by
          rw [← hR',← hnv]
          show (R.vers ++ _)[R.vers.length]? = _
          simp
         have HM12:=HMC.out.1
         have HR12':=HR12.out
         rw [hR'] at HM12 HR12'
         have HR':=Lib.hid hR'
         have HNV:=Lib.hid hnv
         have HVN:=Lib.hid hvN
         have HM12:=Lib.hid HM12
         have HR12':=Lib.hid HR12'
         obtain ⟨wx,rfl⟩ : ∃ wx,wx = w12:=⟨w12,rfl⟩
         have hkg2 : ∀ (W : World),Ext wx W → Calls Tryz.prog 13 #[.pointer (some ⟨rb,0,none⟩),.int .i64 (nv : Int),.string f.subject,.string f.attr] W (KnGen R' (heldF R' ⟨la,lw⟩) f.subject f.attr W):=fun W hX=>known_gen (HR12'.out.ext hX) (HGLB.out.ext (HM12.out.ext.trans' hX)) HVN.out f.subject f.attr (by have:=HSS.out.2;omega)
         have HKG2:=Lib.hid hkg2
         obtain ⟨D2,hD2⟩ : ∃ D2 : Bool → Int → Prop,D2 = fun d er=>∀ a c,subj f.subject = true → colOf R' f.attr = some (a,c) → er = 0 ∧ d = doubtK (heldF R' ⟨la,lw⟩) (f.subject,c):=⟨_,rfl⟩
         have HD2:=Lib.hid hD2
         have HD32 : Hid (wx.cell? ⟨w.heap.size,3,none⟩ = some (.slice (some ⟨zb,zoff,none⟩) fals.length zc)):=by
          have h:=HM12.out.tr.cell 3
          rw [h,← HTL.out];exact HFC3.out
         have HE02:=Lib.hid (HM12.out.ext.cell' HE0W.out)
         have HE12:=Lib.hid (HM12.out.ext.cell' HE1W.out)
         clear hkg2 hD2 hR' hvN
         rw [hnv]
         clear hnv
         go_upto_region 24 with fail
         refine Rt.wp_region_rf (by kernel_rfl) [0,1,2,3,4,5,6,7,8,9,10,11,12,13,14,15,16,17,18,19,20] [14,19] [0,0,0,0,0,0,0,0,0,0,0,0,0,0,1000,1,1] [0,0,0,4,0,28,60,124,0,256,0,1792,3840,7936,16383,32767,65535,65535,0,393215,1048575] 18 (by kernel_rfl) (KnJ wx D2) ?_ ?_ ?_
         ·exact ⟨below_drawn (ext_refl _) _,fun v hv=>by cases hv⟩
         ·intro o ho us W hI
          obtain rfl:=Option.some.inj ho.symm
          clear ho
          refine Rt.gives_val ?_
          apply Exists.intro
          apply Exists.intro
          refine ⟨by go_simp;exact ⟨rfl,rfl⟩,?_⟩
          exact hI.float
         iterate 3 (refine Rt.rf_sil rfl rfl rfl rfl (fun K hK=>?_);go_simp;refine hK _ ?_;clear hK K)
         (refine Rt.rf_rd rfl rfl rfl rfl ?_;apply Exists.intro;refine ⟨fun us' fo' W hp hl hI=>?_,?_⟩;· (have g:=hI.ext.cell' HD32.out;go_simp;rfl));simp only [Act.put,zA,zB,zC,zD,zE,zF]
         (refine Rt.rf_sil rfl rfl rfl rfl (fun K hK=>?_);go_simp;refine hK _ ?_;clear hK K)
         (refine Rt.rf_rd rfl rfl rfl rfl ?_;apply Exists.intro;refine ⟨fun us' fo' W hp hl hI=>?_,?_⟩;· (skip;go_simp;rfl));simp only [Act.put,zA,zB,zC,zD,zE,zF]
         (refine Rt.rf_sil rfl rfl rfl rfl (fun K hK=>?_);go_simp;refine hK _ ?_;clear hK K)
         (refine Rt.rf_rd rfl rfl rfl rfl ?_;apply Exists.intro;refine ⟨fun us' fo' W hp hl hI=>?_,?_⟩;· (have g:=hI.ext.cell' HE02.out;go_simp;rfl));simp only [Act.put,zA,zB,zC,zD,zE,zF]
         (refine Rt.rf_sil rfl rfl rfl rfl (fun K hK=>?_);go_simp;refine hK _ ?_;clear hK K)
         (refine Rt.rf_rd rfl rfl rfl rfl ?_;apply Exists.intro;refine ⟨fun us' fo' W hp hl hI=>?_,?_⟩;· (have g:=hI.ext.cell' HD32.out;go_simp;rfl));simp only [Act.put,zA,zB,zC,zD,zE,zF]
         (refine Rt.rf_sil rfl rfl rfl rfl (fun K hK=>?_);go_simp;refine hK _ ?_;clear hK K)
         (refine Rt.rf_rd rfl rfl rfl rfl ?_;apply Exists.intro;refine ⟨fun us' fo' W hp hl hI=>?_,?_⟩;· (skip;go_simp;rfl));simp only [Act.put,zA,zB,zC,zD,zE,zF]
         (refine Rt.rf_sil rfl rfl rfl rfl (fun K hK=>?_);go_simp;refine hK _ ?_;clear hK K)
         (refine Rt.rf_rd rfl rfl rfl rfl ?_;apply Exists.intro;refine ⟨fun us' fo' W hp hl hI=>?_,?_⟩;· (have g:=hI.ext.cell' HE12.out;go_simp;rfl));simp only [Act.put,zA,zB,zC,zD,zE,zF]
         refine Rt.rf_eff rfl rfl rfl rfl (fun fo W hfo hI=>?_) (fun v hv=>?_)
         ·refine Rt.gives_cal ?_
          apply Exists.intro
          apply Exists.intro
          apply Exists.intro
          refine ⟨by go_simp;exact ⟨⟨rfl,rfl⟩,rfl⟩,?_⟩
          refine (HKG2.out W hI.ext).mono ?_
          rintro e W2 ⟨p1,n1,c1,lo,hi,p2,n2,c2,d,er,rfl,hx2,hd,_⟩
          exact ⟨_,rfl,hI.call hx2 (by rw [HD2.out];exact hd)⟩
         obtain ⟨kc1,kcn1,kcc1,kclo,kchi,kc2,kcn2,kcc2,kcd,kce,rfl⟩:=(let ⟨_,_,h⟩:=hv;h.form)
         clear hv
         simp only [Act.put,zA,zB,zC,zD,zE,zF]
         iterate 3 (refine Rt.rf_sil rfl rfl rfl rfl (fun K hK=>?_);go_simp;refine hK _ ?_;clear hK K)
         refine Rt.rf_fl rfl rfl (fun v hv=>?_)
         obtain ⟨kc,rfl,hkc⟩:=(let ⟨_,_,h⟩:=hv;h.ptr)
         clear hv
         simp only [Act.put,zA,zB,zC,zD,zE,zF]
         refine Rt.rf_eff rfl rfl rfl rfl (fun fo W hfo hI=>?_) (fun v hv=>?_)
         ·obtain rfl:=hfo.resolve_left (fun e=>by cases e)
          have hz:=hI.zero
          have z0 : W.cell? ⟨kc,0,none⟩ = some (.slice none 0 0):=cell_of hz 0
          have z1 : W.cell? ⟨kc,1,none⟩ = some (.int .i64 0):=cell_of hz 1
          have z2 : W.cell? ⟨kc,2,none⟩ = some (.int .i64 0):=cell_of hz 2
          have z3 : W.cell? ⟨kc,3,none⟩ = some (.slice none 0 0):=cell_of hz 3
          have z4 : W.cell? ⟨kc,4,none⟩ = some (.bool false):=cell_of hz 4
          have q0:=frozen_of hz 0
          have q1:=frozen_of hz 1
          have q2:=frozen_of hz 2
          have q3:=frozen_of hz 3
          have q4:=frozen_of hz 4
          have HI:=Lib.hid hI
          clear hz hI
          refine Rt.gives_skp ?_
          apply Exists.intro
          refine ⟨by go_simp;rfl,?_⟩
          exact HI.out.store _
         clear hv
         simp only [Act.put,zA,zB,zC,zD,zE,zF]
         (refine Rt.rf_sil rfl rfl rfl rfl (fun K hK=>?_);go_simp;refine hK _ ?_;clear hK K)
         refine Rt.rf_nil (fun W13 hI13=>?_)
         obtain ⟨hx13,hd13,hb13⟩:=KnJ.done hI13
         have g0:=cell_of (hx13.obj HB12.out) 4
         have g1:=cell_of hb13 4
         have HD13:=Lib.hid hd13
         have HM13:=Lib.hid (HM12.out.stay hx13)
         have HX13:=Lib.hid hx13
         clear hI13 hd13 hb13 hx13
         go_upto_region 25 with fail
         go_wp2_with fail
         all_goals rename_i hdd
         ·have hM:=HMC.out.2 (fun vW' hvW' x hfx=>by
           obtain rfl : vW = vW':=Option.some.inj (HVW.out.symm.trans hvW')
           obtain ⟨x',hcx,e⟩:=rowsF_one HC12.out.rows
           obtain rfl : x' = x:=by rw [e] at hfx;exact (List.cons.inj hfx).1
           obtain ⟨c,hc,hsub,_,hxe⟩:=checkF_some hcx
           have hk : keyOf x' = (f.subject,c.2):=by rw [hxe];rfl
           have q1:=HD9.out
           have q2:=HD13.out
           rw [HD.out] at q1
           rw [HD2.out,← HR'.out] at q2
           rw [hk,← (q1 c.1 c.2 hsub hc).2,← (q2 c.1 c.2 hsub hc).2]
           exact beq_iff_eq.1 hdd) (HBS.out (by trivial))
          rw [HR'.out,HNV.out] at hM
          have HM:=Lib.hid (hM.stay HX13.out)
          exact ⟨⟨k + 1,nv,R',by omega,rfl,rfl,HM.out⟩,by simp [intOf];omega⟩
         ·exact ⟨⟨k + 1,iw,R',by omega,rfl,rfl,HM13.out⟩,by simp [intOf];omega⟩
    ·obtain rfl : k = fals.length:=by omega
     obtain ⟨vV,vW,hvV,hvW,hmore,hsubs⟩:=id hI.out.vers
     obtain ⟨vvR,fvR,osR,xsR,hrecR⟩:=id hI.out.reco
     have hpx:=HPA.out.ext hI.out.ext
     have hcmp:=compareN_any hrecR (HGLB.out.ext hI.out.ext) hvV hvW hpx.own (by have:=HNP.out.1;omega) hpx.parts (fun x hx=>by have:=HNP.out.2.2 x hx;omega)
     unfold encP at hcmp
     have HCMP:=Lib.hid hcmp
     have HREC:=Lib.hid hrecR
     have HVV:=Lib.hid hvV
     have HVW:=Lib.hid hvW
     have HMORE:=Lib.hid hmore
     have HSUBS:=Lib.hid hsubs
     have HPX:=Lib.hid hpx
     have htr:=hI.out.tr
     rw [← HTL.out] at htr
     unfold truL at htr
     have d4:=htr.cell 4
     have d5:=htr.cell 5
     have d6:=htr.cell 6
     have d7:=htr.cell 7
     have d8:=htr.cell 8
     have d9:=htr.cell 9
     have d10:=htr.cell 10
     clear hcmp hrecR hvV hvW hmore hsubs hpx htr
     go_wp2_with fail
     refine HCMP.out.mono ?_
     rintro e w14 ⟨hx14,hc⟩
     rcases hc with ⟨_,rfl⟩ | ⟨_,rfl⟩ | ⟨ht1,ht2,shv,k1,k2,rfl,hk1,hk2,hrow⟩
     ·have HX14:=Lib.hid (hI.out.ext.trans' hx14)
      clear hx14
      go_wp2_with fail
      refine (HKN.out w14 HX14.out).mono ?_
      rintro e w15 ⟨rfl,hx15⟩
      go_wp2_with fail
      go_ret
      exact ⟨rfl,HX14.out.trans' hx15⟩
     ·have HX14:=Lib.hid (hI.out.ext.trans' hx14)
      clear hx14
      go_wp2_with fail
      refine (HKN.out w14 HX14.out).mono ?_
      rintro e w15 ⟨rfl,hx15⟩
      go_wp2_with fail
      go_ret
      exact ⟨rfl,HX14.out.trans' hx15⟩
     obtain ⟨K1,hK1⟩:=LikeN.fn R (heldF R vV) own parts
     obtain ⟨K2,hK2⟩:=LikeN.fn R (heldF R vW) own parts
     have hsame : subsV (heldF R vW) = subsV (heldF R vV):=HMORE.out.subs
     have hL:=shift_dif hsame hK1 hK2 hk1 hk2
     rw [HSUBS.out] at hL
     obtain ⟨DL,hDL⟩ : ∃ DL,sl.filter (difP K1 K2) = DL:=⟨_,rfl⟩
     rw [hDL] at hL
     have hlen : (shiftL (bothV (heldF R vV) (heldF R vW)) k1 k2).length = DL.length:=by rw [hL,List.length_map]
     have hget : ∀ t ∈ sl,isPart (ofBytes t) = false → (∃ k,LikeN R (heldF R vV) own parts (ofBytes t) k) ∧ ∃ k,LikeN R (heldF R vW) own parts (ofBytes t) k:=fun t ht hp=>by
      have hm : t ∈ bothV (heldF R vV) (heldF R vW):=by
       rw [both_same hsame]
       unfold wholesV
       rw [HSUBS.out,List.mem_filter]
       exact ⟨ht,by rw [hp];rfl⟩
      exact ⟨hk1.get hm,hk2.get hm⟩
     rw [hlen] at hrow
     rw [hL] at hrow
     obtain ⟨shp,shc,rfl⟩:=owns_form hrow
     obtain ⟨_,_,hse,_,_,_,hshel⟩:=SlAt.of_owns hrow
     simp only [Value.slice.injEq,true_and] at hse
     obtain ⟨rfl,rfl⟩:=hse
     have HSH:=Lib.hid hshel
     have HDL:=Lib.hid hDL
     have HGET:=Lib.hid hget
     have HK1:=Lib.hid hK1
     have HK2:=Lib.hid hK2
     have HTM:=Lib.hid (And.intro ht1 ht2)
     have HSAME:=Lib.hid hsame
     have HM14:=Lib.hid (hI.out.stay hx14)
     have HX14:=Lib.hid hx14
     have htr:=HM14.out.tr
     rw [← HTL.out] at htr
     have HTR14:=Lib.hid htr
     have hdn : DL.length ≤ 600:=by rw [← hDL];exact Nat.le_trans (List.length_filter_le _ _) hsln
     clear hx14 ht1 ht2 hk1 hk2 hrow hK1 hK2 hsame hL hlen hget hshel htr hDL d4 d5 d6 d7 d8 d9 d10 HCMP hI
     go_wp2_with fail
     go_loopw [18,19] (fun a i wr=>∃ (m : Nat),m ≤ sl.length ∧ a = .int .i64 (((sl.take m).filter (difP K1 K2)).length : Int) ∧ i = .int .i64 (m : Int) ∧ Hid (Ext w14 wr)) (fun _ i _=>sl.length - (intOf i).toNat)
     case atStart=>exact ⟨0,Nat.zero_le _,rfl,rfl,ext_refl _⟩
     case round=>
      obtain ⟨m,hm,rfl,rfl,hx⟩:=hrel
      have hMr:=HM14.out.stay hx.out
      have HMR:=Lib.hid hMr
      have HTRR:=Lib.hid (HTR14.out.ext hx.out)
      have hle : ((sl.take m).filter (difP K1 K2)).length ≤ DL.length:=by rw [← HDL.out];exact ((List.take_sublist m sl).filter _).length_le
      by_cases hml : m < sl.length
      ·obtain ⟨t,ht⟩ : ∃ t,sl[m]? = some t:=⟨_,List.getElem?_eq_getElem hml⟩
       obtain ⟨_,_,hse,_,_,_,hsel⟩:=SlAt.of_owns hMr.srow
       simp only [Value.slice.injEq,true_and] at hse
       obtain ⟨rfl,rfl⟩:=hse
       obtain ⟨sb,soff,rfl,hsc⟩:=hsel m (encStr t) (by rw [List.getElem?_map,ht];rfl)
       rw [enc_of] at hsc
       have hts : t ∈ subsV (heldF R vV):=by rw [HSUBS.out];exact List.mem_of_getElem? ht
       have hsb:=sub_len HREC.out.ok (List.mem_of_getElem? HVV.out) hts
       have hon : ∀ b,difP K1 K2 t = b → (b = true → DL[((sl.take m).filter (difP K1 K2)).length]? = some t) ∧ ((sl.take (m + 1)).filter (difP K1 K2)).length = ((sl.take m).filter (difP K1 K2)).length + (if b then 1 else 0):=fun b hb=>by
        subst hb
        cases hd : difP K1 K2 t with
        | true=>exact ⟨fun _=>by rw [← HDL.out];exact (filter_at _ ht hd).1,(filter_at _ ht hd).2⟩
        | false=>exact ⟨fun h=>(by cases h),filter_off _ ht hd⟩
       obtain ⟨a1,ha1⟩ : ∃ a1,((sl.take m).filter (difP K1 K2)).length = a1:=⟨_,rfl⟩
       obtain ⟨a2,ha2⟩ : ∃ a2,((sl.take (m + 1)).filter (difP K1 K2)).length = a2:=⟨_,rfl⟩
       rw [ha1] at hle
       rw [ha1,ha2] at hon
       rw [ha1]
       have HA2:=Lib.hid ha2
       have hgett:=HGET.out t (List.mem_of_getElem? ht)
       obtain ⟨s,hs⟩ : ∃ s,ofBytes t = s:=⟨_,rfl⟩
       have hdif : difP K1 K2 t = (!isPart s && decide (K1 s ≠ K2 s)):=by unfold difP;rw [hs]
       rw [hdif] at hon
       rw [hs] at hsc hsb hgett
       have HGT:=Lib.hid hgett
       have HON:=Lib.hid hon
       have HSC:=Lib.hid hsc
       have hsz : s.size ≤ maxLen:=Nat.le_trans (Nat.le_of_lt hsb.1) (by decide)
       have HSZS:=Lib.hid hsz
       have HNMS : Hid (isPart s = false → nm s = true):=fun hp=>by rw [← whole_self hp];exact hsb.2
       have hwh:=whole_any s wr hsz
       have HWH:=Lib.hid hwh
       have HTS:=Lib.hid hts
       have HHS:=Lib.hid hs
       have HX:=Lib.hid hx.out
       clear hMr hsel ht hts hsb hon hgett hdif hsz hwh ha1 ha2 hs
       go_upto_region 34 with fail
       go_wp2_with fail
       refine HWH.out.mono ?_
       rintro e w16 ⟨rfl,rfl⟩
       cases hip : isPart s with
       | true=>
        have h2:=(HON.out false (by rw [hip];rfl)).2
        have hA:=HA2.out
        go_wp2_with fail
        refine ⟨⟨m + 1,by omega,?_,rfl,HX⟩,by simp [intOf];omega⟩
        rw [hA,h2];simp
       | false=>
        obtain ⟨hg1,hg2⟩:=HGT.out hip
        have hpx:=HPX.out.ext HX14.out
        have hread : ∃ q qs,ReadOk R own parts q qs:=let ⟨_,q,qs,h,_⟩:=hg1;⟨q,qs,h⟩
        have hlk1 : ∀ W,Ext wr W → Calls Tryz.prog 17 #[.pointer (some ⟨rb,0,none⟩),.int .i64 1,.string s,.agg #[.int .u8 o,.string at_,.slice p n c,.int .i64 l,.int .i64 h,.slice p2 n2 c2,.slice p6 parts.length c6]] W fun e W'=>Ext W W' ∧ e = .returned (.tuple #[.int .u8 (K1 s),.int .i64 0]):=fun W hW=>
         (likesN_any (HREC.out.ext (HX14.out.trans' (HX.out.trans' hW))) (HGLB.out.ext (HMR.out.ext.trans' hW)) HVV.out s HSZS.out (hpx.ext (HX.out.trans' hW)).own (by have:=HNP.out.1;omega) (hpx.ext (HX.out.trans' hW)).parts (fun x hx=>by have:=HNP.out.2.2 x hx;omega)).mono fun _ _ h=>like_sure h (HNMS.out hip) (fun hn=>hn hread) HTM.out.1 HTS.out HHS.out HK1.out
        have hlk2 : ∀ W,Ext wr W → Calls Tryz.prog 17 #[.pointer (some ⟨rb,0,none⟩),.int .i64 (iw : Int),.string s,.agg #[.int .u8 o,.string at_,.slice p n c,.int .i64 l,.int .i64 h,.slice p2 n2 c2,.slice p6 parts.length c6]] W fun e W'=>Ext W W' ∧ e = .returned (.tuple #[.int .u8 (K2 s),.int .i64 0]):=fun W hW=>
         (likesN_any (HREC.out.ext (HX14.out.trans' (HX.out.trans' hW))) (HGLB.out.ext (HMR.out.ext.trans' hW)) HVW.out s HSZS.out (hpx.ext (HX.out.trans' hW)).own (by have:=HNP.out.1;omega) (hpx.ext (HX.out.trans' hW)).parts (fun x hx=>by have:=HNP.out.2.2 x hx;omega)).mono fun _ _ h=>like_sure h (HNMS.out hip) (fun hn=>hn hread) HTM.out.2 (by rw [HSAME.out];exact HTS.out) HHS.out HK2.out
        have hor : K1 s = K2 s ∨ K1 s = 2:=by
         obtain ⟨x,hx1⟩:=hg1
         obtain ⟨y,hy1⟩:=hg2
         have:=moreN_like HREC.out.ok (cols_nodup HREC.out) HMORE.out (HM14.out.facts (List.mem_of_getElem? HVW.out)) hx1 hy1
         rw [HK1.out _ _ hx1,HK2.out _ _ hy1] at this
         exact this
        have HOR:=Lib.hid hor
        have HLK1:=Lib.hid hlk1
        have HLK2:=Lib.hid hlk2
        have HHIP:=Lib.hid hip
        have hon:=HON.out (decide (K1 s ≠ K2 s)) (by rw [hip];rfl)
        have HON':=Lib.hid hon
        have htr:=HTRR.out
        have d4:=htr.cell 4
        have d5:=htr.cell 5
        have d6:=htr.cell 6
        have d7:=htr.cell 7
        have d8:=htr.cell 8
        have d9:=htr.cell 9
        have d10:=htr.cell 10
        have HDD:=Lib.hid (And.intro d4 (And.intro d5 (And.intro d6 (And.intro d7 (And.intro d8 (And.intro d9 d10))))))
        clear hg1 hg2 hpx hread hlk1 hlk2 hor hon htr d4 d5 d6 d7 d8 d9 d10
        go_upto_region 36 with fail
        refine Rt.wp_region_rt (by kernel_rfl) [0,1,2,3,4,5,6,7,8,9,10,11,12,13] [8] [0,0,0,0,0,0,0,0] [0,0,0,0,12,28,0,64,255,511,1023,1023,2047,8191] (by kernel_rfl) (fun us W=>Ext wr W ∧ (us = [] ∨ us = [.tuple #[.int .u8 (K1 s),.int .i64 0]])) ?_ ?_
        ·exact ⟨by first | exact below_drawn (ext_refl _) _ | exact below_drawn HX16.out _,.inl rfl⟩
        iterate 4 (refine Rt.rs_sil rfl rfl rfl (fun K hK=>?_);go_simp;refine hK _ ?_;clear hK K)
        (refine Rt.rs_rd rfl rfl rfl ?_;apply Exists.intro;refine ⟨fun us' W hp hl hI=>?_,?_⟩;· (skip;go_simp;rfl));simp only [Act.put,zA,zB,zC,zD,zE,zF]
        (refine Rt.rs_rd rfl rfl rfl ?_;apply Exists.intro;refine ⟨fun us' W hp hl hI=>?_,?_⟩;· (have hE:=hI.1;have g:=hE.cell' HSC.out;go_simp;rfl));simp only [Act.put,zA,zB,zC,zD,zE,zF]
        (refine Rt.rs_sil rfl rfl rfl (fun K hK=>?_);go_simp;refine hK _ ?_;clear hK K)
        (refine Rt.rs_rd rfl rfl rfl ?_;apply Exists.intro;refine ⟨fun us' W hp hl hI=>?_,?_⟩;· (have hE:=hI.1;have g0:=hE.cell' HDD.out.1;have g1:=hE.cell' HDD.out.2.1;have g2:=hE.cell' HDD.out.2.2.1;have g3:=hE.cell' HDD.out.2.2.2.1;have g4:=hE.cell' HDD.out.2.2.2.2.1;have g5:=hE.cell' HDD.out.2.2.2.2.2.1;have g6:=hE.cell' HDD.out.2.2.2.2.2.2;go_simp;rfl));simp only [Act.put,zA,zB,zC,zD,zE,zF]
        refine Rt.rs_eff rfl rfl rfl (fun W hI=>?_) (fun v hv=>?_)
        ·refine Rt.gives_cal ?_
         apply Exists.intro
         apply Exists.intro
         apply Exists.intro
         refine ⟨by go_simp;exact ⟨⟨rfl,rfl⟩,rfl⟩,?_⟩
         refine (HLK1.out W hI.1).mono ?_
         rintro e W2 ⟨hx2,rfl⟩
         exact ⟨_,rfl,hI.1.trans' hx2,.inr rfl⟩
        obtain rfl : v = .tuple #[.int .u8 (K1 s),.int .i64 0]:=(let ⟨_,_,h⟩:=hv;by simpa using h)
        clear hv
        simp only [Act.put,zA,zB,zC,zD,zE,zF]
        iterate 5 (refine Rt.rs_sil rfl rfl rfl (fun K hK=>?_);go_simp;refine hK _ ?_;clear hK K)
        refine Rt.rs_nil (fun W16 hI16=>?_)
        have HX16:=Lib.hid hI16.1
        clear hI16
        go_upto_region 37 with fail
        refine Rt.wp_region_rt (by kernel_rfl) [0,1,2,3,4,5,6,7,8,9,10,11,12,13] [8] [0,0,0,0,0,0,0,0] [0,0,0,0,12,28,0,64,255,511,1023,1023,2047,8191] (by kernel_rfl) (fun us W=>Ext wr W ∧ (us = [] ∨ us = [.tuple #[.int .u8 (K2 s),.int .i64 0]])) ?_ ?_
        ·exact ⟨by first | exact below_drawn (ext_refl _) _ | exact below_drawn HX16.out _,.inl rfl⟩
        iterate 4 (refine Rt.rs_sil rfl rfl rfl (fun K hK=>?_);go_simp;refine hK _ ?_;clear hK K)
        (refine Rt.rs_rd rfl rfl rfl ?_;apply Exists.intro;refine ⟨fun us' W hp hl hI=>?_,?_⟩;· (skip;go_simp;rfl));simp only [Act.put,zA,zB,zC,zD,zE,zF]
        (refine Rt.rs_rd rfl rfl rfl ?_;apply Exists.intro;refine ⟨fun us' W hp hl hI=>?_,?_⟩;· (have hE:=hI.1;have g:=hE.cell' HSC.out;go_simp;rfl));simp only [Act.put,zA,zB,zC,zD,zE,zF]
        (refine Rt.rs_sil rfl rfl rfl (fun K hK=>?_);go_simp;refine hK _ ?_;clear hK K)
        (refine Rt.rs_rd rfl rfl rfl ?_;apply Exists.intro;refine ⟨fun us' W hp hl hI=>?_,?_⟩;· (have hE:=hI.1;have g0:=hE.cell' HDD.out.1;have g1:=hE.cell' HDD.out.2.1;have g2:=hE.cell' HDD.out.2.2.1;have g3:=hE.cell' HDD.out.2.2.2.1;have g4:=hE.cell' HDD.out.2.2.2.2.1;have g5:=hE.cell' HDD.out.2.2.2.2.2.1;have g6:=hE.cell' HDD.out.2.2.2.2.2.2;go_simp;rfl));simp only [Act.put,zA,zB,zC,zD,zE,zF]
        refine Rt.rs_eff rfl rfl rfl (fun W hI=>?_) (fun v hv=>?_)
        ·refine Rt.gives_cal ?_
         apply Exists.intro
         apply Exists.intro
         apply Exists.intro
         refine ⟨by go_simp;exact ⟨⟨rfl,rfl⟩,rfl⟩,?_⟩
         refine (HLK2.out W hI.1).mono ?_
         rintro e W2 ⟨hx2,rfl⟩
         exact ⟨_,rfl,hI.1.trans' hx2,.inr rfl⟩
        obtain rfl : v = .tuple #[.int .u8 (K2 s),.int .i64 0]:=(let ⟨_,_,h⟩:=hv;by simpa using h)
        clear hv
        simp only [Act.put,zA,zB,zC,zD,zE,zF]
        iterate 5 (refine Rt.rs_sil rfl rfl rfl (fun K hK=>?_);go_simp;refine hK _ ?_;clear hK K)
        refine Rt.rs_nil (fun W17 hI17=>?_)
        have HX17:=Lib.hid hI17.1
        clear hI17
        obtain ⟨f,hf⟩ : ∃ f,K1 s = f:=⟨_,rfl⟩
        obtain ⟨g,hg⟩ : ∃ g,K2 s = g:=⟨_,rfl⟩
        have hA:=HA2.out
        by_cases hfg : f = g
        ·subst hfg
         have h2:=HON'.out.2
         rw [hf,hg] at h2
         have H2:=Lib.hid h2
         clear h2
         rw [hf,hg]
         have HF1:=Lib.hid hf
         have HG1:=Lib.hid hg
         clear hf hg
         go_wp2_with fail
         refine ⟨⟨m + 1,by omega,?_,rfl,HX.out.trans' HX17.out⟩,by simp [intOf];omega⟩
         rw [hA,H2.out];simp
        ·have hor:=HOR.out
         rw [hf,hg] at hor
         obtain rfl : f = 2:=hor.resolve_left hfg
         have hne : decide (K1 s ≠ K2 s) = true:=decide_eq_true (by rw [hf,hg];exact hfg)
         have hdl:=HON'.out.1 hne
         have h2:=HON'.out.2
         rw [hne] at h2
         have H2:=Lib.hid h2
         have hlt41 : a1 < DL.length:=(List.getElem?_eq_some_iff.1 hdl).1
         obtain ⟨db,doff,rfl,q0,q1,q2⟩:=shift_at HSH.out hdl
         rw [HHS.out] at q0 q1 q2
         rw [hf] at q1
         rw [hg] at q2
         have hXX:=HX.out.trans' HX17.out
         have HQ0:=Lib.hid (hXX.cell' q0)
         have HQ1:=Lib.hid (hXX.cell' q1)
         have HQ2:=Lib.hid (hXX.cell' q2)
         have HSC17:=Lib.hid (HX17.out.cell' HSC.out)
         have hge41 : ¬ ((DL.length : Int) ≤ (a1 : Int)):=by omega
         rw [hf,hg]
         have HXX:=Lib.hid hXX
         have hgf : ¬ (2 = g):=hfg
         have hgf' : ¬ (g = 2):=fun e=>hfg e.symm
         clear hor hne hdl h2 q0 q1 q2 hXX hf hg hA
         go_upto_region 41 with fail
         refine Rt.wp_region_rt (by kernel_rfl) [0,1,2,3,4,5,6,7,8,9,10,11,12,13,14,15,16,17] [] [] [0,0,2,7,15,31,31,127,255,31,31,1567,3615,31,31,32287,65535,131071] (by kernel_rfl) (fun _ W=>Ext W17 W) ?_ ?_
         ·exact below_drawn (ext_refl _) _
         iterate 7 (refine Rt.rs_sil rfl rfl rfl (fun K hK=>?_);go_simp;refine hK _ ?_;clear hK K)
         (refine Rt.rs_rd rfl rfl rfl ?_;apply Exists.intro;refine ⟨fun us' W hp hl hI=>?_,?_⟩;· (skip;go_simp;rfl));simp only [Act.put,zA,zB,zC,zD,zE,zF]
         (refine Rt.rs_rd rfl rfl rfl ?_;apply Exists.intro;refine ⟨fun us' W hp hl hI=>?_,?_⟩;· (have g0:=Ext.cell' hI HQ0.out;have g1:=Ext.cell' hI HQ1.out;have g2:=Ext.cell' hI HQ2.out;go_simp;rfl));simp only [Act.put,zA,zB,zC,zD,zE,zF]
         iterate 2 (refine Rt.rs_sil rfl rfl rfl (fun K hK=>?_);go_simp;refine hK _ ?_;clear hK K)
         (refine Rt.rs_rd rfl rfl rfl ?_;apply Exists.intro;refine ⟨fun us' W hp hl hI=>?_,?_⟩;· (skip;go_simp;rfl));simp only [Act.put,zA,zB,zC,zD,zE,zF]
         (refine Rt.rs_rd rfl rfl rfl ?_;apply Exists.intro;refine ⟨fun us' W hp hl hI=>?_,?_⟩;· (have g0:=Ext.cell' hI HSC17.out;go_simp;rfl));simp only [Act.put,zA,zB,zC,zD,zE,zF]
         iterate 5 (refine Rt.rs_sil rfl rfl rfl (fun K hK=>?_);go_simp;refine hK _ ?_;clear hK K)
         refine Rt.rs_nil (fun W18 hI18=>?_)
         have HX18:=Lib.hid (HXX.out.trans' hI18)
         have hA:=HA2.out
         clear hI18
         go_wp2_with fail
         refine ⟨⟨m + 1,by omega,?_,rfl,HX18.out⟩,by simp [intOf];omega⟩
         rw [hA,H2.out];simp
      ·obtain rfl : m = sl.length:=by omega
       have hA : ((sl.take sl.length).filter (difP K1 K2)).length = DL.length:=by rw [List.take_length,HDL.out]
       rw [hA]
       clear hA hle hMr hx
       go_wp2_with fail
       refine (HKN.out wr HMR.out.ext).mono ?_
       rintro e w20 ⟨rfl,hx20⟩
       go_wp2_with fail
       go_ret
       exact ⟨rfl,HMR.out.ext.trans' hx20⟩
end Go.Proofs.YtihfcjioilmmjaaGreat
